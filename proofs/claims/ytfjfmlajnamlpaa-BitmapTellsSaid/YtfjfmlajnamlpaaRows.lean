/-
  No cell of these rows narrows 'for every input' (looked for: loops, veiled, ifaces, maps, wideKeys, modest, calm, conditions, laid).
  DERIVED. THE GIVEN ROWS OF THIS SEAT. 5 by the template 'for every input the law returns true; each argument reads behind the call as it read before'; 0 by the template 'total and deterministic' (their statements: YtfjfmlajnamlpaaTotals.lean).
  GIVEN WITH THE SEED: the statements are not yours to turn. If you find one false, say at which input.
  Laid BY PROGRAM, IN A SANDBOX (cutbox-rows.mjs): the forced cells as the released guide's own fill.sh prints them over the translation 9538f3e48f111665… (all of the seat's roots in one cut). By AI agents, Wed Nov 11 2026. No macro, syntax, notation, axiom, sorry.
-/
import Derived.Test.YtfjfmlajnamlpaaChecked
import GoSem.Claim
import GoSem.ClaimJoined
import GoSem.ClaimMapViews
import Derived.JoinedTies
import Derived.KernelRfl
namespace Go.Proofs.Ytfjfmlajnamlpaa
/- THE CELL 'sum', in the pinned program and in every row, IS THE sha256 OF THE DUMP (.gsa) THAT YtfjfmlajnamlpaaProg.lean LOADS. Nothing in Lean hashes anything: it is a label: what it is worth is what the hold of that sum in a sandbox is worth. -/
noncomputable def Try.pinned : Pinned := { name := "ytfjfmlajnamlpaa", sum := "9538f3e48f111665848a4ffb7f8e3ac51a6a184b3f3311fac4331b4294271334", checked := Try.checked }
namespace Rows
def none {H : Type} : Left H := { results := [], args := [] }

/-- 'comptoirlaw03.BitmapEach': WHATEVER THE INPUT: true; the input reads as it did. -/
def bitmapEachSpec : ChangeSpec := { name := "bitmapEach", fn := fun _ => fun
  | [d1, d2] => { results := [.lit (.bool true)], args := [d1, d2] }
  | _ => none }
def bitmapEachRow : OpenClaim := { program := "ytfjfmlajnamlpaa", sum := "9538f3e48f111665848a4ffb7f8e3ac51a6a184b3f3311fac4331b4294271334", func := "comptoir/comptoirlaw03.BitmapEach", spec := "bitmapEach", unfollowed := true, recurses := true, apart := false }
def BitmapEachSaid : Prop := bitmapEachRow.holds Try.pinned (OpenSpec.ofChange bitmapEachSpec)

/-- ITS FALSE NEIGHBOUR: 'it returns false'. Refute it at one input. -/
def bitmapEachWrong : ChangeSpec := { name := "bitmapEach", fn := fun _ => fun
  | [d1, d2] => { results := [.lit (.bool false)], args := [d1, d2] }
  | _ => none }
def BitmapEachWrongFalsely : Prop := bitmapEachRow.holds Try.pinned (OpenSpec.ofChange bitmapEachWrong)

/-- 'comptoirlaw03.BitmapBoth': WHATEVER THE INPUT: true; the input reads as it did. -/
def bitmapBothSpec : ChangeSpec := { name := "bitmapBoth", fn := fun _ => fun
  | [d1, d2] => { results := [.lit (.bool true)], args := [d1, d2] }
  | _ => none }
def bitmapBothRow : OpenClaim := { program := "ytfjfmlajnamlpaa", sum := "9538f3e48f111665848a4ffb7f8e3ac51a6a184b3f3311fac4331b4294271334", func := "comptoir/comptoirlaw03.BitmapBoth", spec := "bitmapBoth", unfollowed := true, recurses := true, apart := false }
def BitmapBothSaid : Prop := bitmapBothRow.holds Try.pinned (OpenSpec.ofChange bitmapBothSpec)

/-- ITS FALSE NEIGHBOUR: 'it returns false'. Refute it at one input. -/
def bitmapBothWrong : ChangeSpec := { name := "bitmapBoth", fn := fun _ => fun
  | [d1, d2] => { results := [.lit (.bool false)], args := [d1, d2] }
  | _ => none }
def BitmapBothWrongFalsely : Prop := bitmapBothRow.holds Try.pinned (OpenSpec.ofChange bitmapBothWrong)

/-- 'comptoirlaw03.BitmapTells': WHATEVER THE INPUT: true; the input reads as it did. -/
def bitmapTellsSpec : ChangeSpec := { name := "bitmapTells", fn := fun _ => fun
  | [d1, d2] => { results := [.lit (.bool true)], args := [d1, d2] }
  | _ => none }
def bitmapTellsRow : OpenClaim := { program := "ytfjfmlajnamlpaa", sum := "9538f3e48f111665848a4ffb7f8e3ac51a6a184b3f3311fac4331b4294271334", func := "comptoir/comptoirlaw03.BitmapTells", spec := "bitmapTells", unfollowed := true, recurses := true, apart := false }
def BitmapTellsSaid : Prop := bitmapTellsRow.holds Try.pinned (OpenSpec.ofChange bitmapTellsSpec)

/-- ITS FALSE NEIGHBOUR: 'it returns false'. Refute it at one input. -/
def bitmapTellsWrong : ChangeSpec := { name := "bitmapTells", fn := fun _ => fun
  | [d1, d2] => { results := [.lit (.bool false)], args := [d1, d2] }
  | _ => none }
def BitmapTellsWrongFalsely : Prop := bitmapTellsRow.holds Try.pinned (OpenSpec.ofChange bitmapTellsWrong)

/-- 'comptoirlaw03.BitmapBack': WHATEVER THE INPUT: true; the input reads as it did. -/
def bitmapBackSpec : ChangeSpec := { name := "bitmapBack", fn := fun _ => fun
  | [d1, d2, d3] => { results := [.lit (.bool true)], args := [d1, d2, d3] }
  | _ => none }
def bitmapBackRow : OpenClaim := { program := "ytfjfmlajnamlpaa", sum := "9538f3e48f111665848a4ffb7f8e3ac51a6a184b3f3311fac4331b4294271334", func := "comptoir/comptoirlaw03.BitmapBack", spec := "bitmapBack", unfollowed := true, recurses := true, apart := false }
def BitmapBackSaid : Prop := bitmapBackRow.holds Try.pinned (OpenSpec.ofChange bitmapBackSpec)

/-- ITS FALSE NEIGHBOUR: 'it returns false'. Refute it at one input. -/
def bitmapBackWrong : ChangeSpec := { name := "bitmapBack", fn := fun _ => fun
  | [d1, d2, d3] => { results := [.lit (.bool false)], args := [d1, d2, d3] }
  | _ => none }
def BitmapBackWrongFalsely : Prop := bitmapBackRow.holds Try.pinned (OpenSpec.ofChange bitmapBackWrong)

/-- 'comptoirlaw03.BitmapShort': WHATEVER THE INPUT: true; the input reads as it did. -/
def bitmapShortSpec : ChangeSpec := { name := "bitmapShort", fn := fun _ => fun
  | [d1, d2, d3] => { results := [.lit (.bool true)], args := [d1, d2, d3] }
  | _ => none }
def bitmapShortRow : OpenClaim := { program := "ytfjfmlajnamlpaa", sum := "9538f3e48f111665848a4ffb7f8e3ac51a6a184b3f3311fac4331b4294271334", func := "comptoir/comptoirlaw03.BitmapShort", spec := "bitmapShort", unfollowed := true, recurses := true, apart := false }
def BitmapShortSaid : Prop := bitmapShortRow.holds Try.pinned (OpenSpec.ofChange bitmapShortSpec)

/-- ITS FALSE NEIGHBOUR: 'it returns false'. Refute it at one input. -/
def bitmapShortWrong : ChangeSpec := { name := "bitmapShort", fn := fun _ => fun
  | [d1, d2, d3] => { results := [.lit (.bool false)], args := [d1, d2, d3] }
  | _ => none }
def BitmapShortWrongFalsely : Prop := bitmapShortRow.holds Try.pinned (OpenSpec.ofChange bitmapShortWrong)

/- THE SECOND FORM. 'bulk': how many values and letters a reading holds, each counted each time it is reached (what is shared counts as often as it is met; a slice's spare places count too). A statement '..UptoSaid' is the law's where the arguments, and the package variables that the reading takes, are together of bulk at most 1048576: NARROWER than '..Said'. Prove '..Said' where nothing that the law and all that it calls make is longer than what came in: it says more and counts as full. Else prove '..UptoSaid'. A law counts once. -/
mutual
def uptoBulk {H : Type} : DataW H → Nat
  | .lit (.string bytes) => bytes.length + 1
  | .lit _ => 1
  | .nil => 1
  | .ptr d => uptoBulk d + 1
  | .slice elems spare => uptoBulkAll elems + uptoBulkAll spare + 1
  | .agg parts => uptoBulkAll parts + 1
  | .iface _ d => uptoBulk d + 1
  | .map entries => uptoBulkEntries entries + 1
  | .held _ => 1
def uptoBulkAll {H : Type} : List (DataW H) → Nat
  | [] => 0
  | d :: r => uptoBulk d + uptoBulkAll r
def uptoBulkEntries {H : Type} : List (Lit × DataW H) → Nat
  | [] => 0
  | x :: r => uptoBulkEntry x + uptoBulkEntries r
def uptoBulkEntry {H : Type} : Lit × DataW H → Nat
  | (.string bytes, d) => bytes.length + uptoBulk d + 1
  | (_, d) => uptoBulk d + 1
 end
def uptoSmall : (H : Type) → List (DataW H) → Bool := fun _ ds => decide (uptoBulkAll ds ≤ 1048576)
def OpenSpec.upto (s : _root_.Go.ChangeSpec) : _root_.Go.OpenSpec := { _root_.Go.OpenSpec.ofChange s with cond := some uptoSmall }

/-- 'comptoirlaw03.BitmapEach', WHERE WHAT IT READS IS OF BULK AT MOST 1048576: true; the input reads as it did. -/
def bitmapEachUptoRow : OpenClaim := { program := "ytfjfmlajnamlpaa", sum := "9538f3e48f111665848a4ffb7f8e3ac51a6a184b3f3311fac4331b4294271334", func := "comptoir/comptoirlaw03.BitmapEach", spec := "bitmapEach", unfollowed := true, recurses := true, apart := false, narrowed := true }
def BitmapEachUptoSaid : Prop := bitmapEachUptoRow.holds Try.pinned (OpenSpec.upto bitmapEachSpec)

/-- 'comptoirlaw03.BitmapBoth', WHERE WHAT IT READS IS OF BULK AT MOST 1048576: true; the input reads as it did. -/
def bitmapBothUptoRow : OpenClaim := { program := "ytfjfmlajnamlpaa", sum := "9538f3e48f111665848a4ffb7f8e3ac51a6a184b3f3311fac4331b4294271334", func := "comptoir/comptoirlaw03.BitmapBoth", spec := "bitmapBoth", unfollowed := true, recurses := true, apart := false, narrowed := true }
def BitmapBothUptoSaid : Prop := bitmapBothUptoRow.holds Try.pinned (OpenSpec.upto bitmapBothSpec)

/-- 'comptoirlaw03.BitmapTells', WHERE WHAT IT READS IS OF BULK AT MOST 1048576: true; the input reads as it did. -/
def bitmapTellsUptoRow : OpenClaim := { program := "ytfjfmlajnamlpaa", sum := "9538f3e48f111665848a4ffb7f8e3ac51a6a184b3f3311fac4331b4294271334", func := "comptoir/comptoirlaw03.BitmapTells", spec := "bitmapTells", unfollowed := true, recurses := true, apart := false, narrowed := true }
def BitmapTellsUptoSaid : Prop := bitmapTellsUptoRow.holds Try.pinned (OpenSpec.upto bitmapTellsSpec)

/-- 'comptoirlaw03.BitmapBack', WHERE WHAT IT READS IS OF BULK AT MOST 1048576: true; the input reads as it did. -/
def bitmapBackUptoRow : OpenClaim := { program := "ytfjfmlajnamlpaa", sum := "9538f3e48f111665848a4ffb7f8e3ac51a6a184b3f3311fac4331b4294271334", func := "comptoir/comptoirlaw03.BitmapBack", spec := "bitmapBack", unfollowed := true, recurses := true, apart := false, narrowed := true }
def BitmapBackUptoSaid : Prop := bitmapBackUptoRow.holds Try.pinned (OpenSpec.upto bitmapBackSpec)

/-- 'comptoirlaw03.BitmapShort', WHERE WHAT IT READS IS OF BULK AT MOST 1048576: true; the input reads as it did. -/
def bitmapShortUptoRow : OpenClaim := { program := "ytfjfmlajnamlpaa", sum := "9538f3e48f111665848a4ffb7f8e3ac51a6a184b3f3311fac4331b4294271334", func := "comptoir/comptoirlaw03.BitmapShort", spec := "bitmapShort", unfollowed := true, recurses := true, apart := false, narrowed := true }
def BitmapShortUptoSaid : Prop := bitmapShortUptoRow.holds Try.pinned (OpenSpec.upto bitmapShortSpec)

end Rows
end Go.Proofs.Ytfjfmlajnamlpaa
