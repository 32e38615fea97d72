/-
  No cell of these rows narrows 'for every input' (looked for: loops, veiled, ifaces, maps, wideKeys, modest, calm, conditions, laid).
  DERIVED. THE GIVEN ROWS OF THIS SEAT. 3 by the template 'for every input the law returns true; each argument reads behind the call as it read before'; 0 by the template 'total and deterministic' (their statements: YtahakmhfdogdcaaTotals.lean).
  GIVEN WITH THE SEED: the statements are not yours to turn. If you find one false, say at which input.
  Laid BY PROGRAM, IN A SANDBOX (cutbox-rows.mjs): the forced cells as the released guide's own fill.sh prints them over the translation c8d3491b0e24aba0… (all of the seat's roots in one cut). By AI agents, Wed Nov 11 2026. No macro, syntax, notation, axiom, sorry.
-/
import Derived.Test.YtahakmhfdogdcaaChecked
import GoSem.Claim
import GoSem.ClaimJoined
import GoSem.ClaimMapViews
import Derived.JoinedTies
import Derived.KernelRfl
namespace Go.Proofs.Ytahakmhfdogdcaa
/- THE CELL 'sum', in the pinned program and in every row, IS THE sha256 OF THE DUMP (.gsa) THAT YtahakmhfdogdcaaProg.lean LOADS. Nothing in Lean hashes anything: it is a label: what it is worth is what the hold of that sum in a sandbox is worth. -/
noncomputable def Try.pinned : Pinned := { name := "ytahakmhfdogdcaa", sum := "c8d3491b0e24aba08b0e451901392f9a9d1006ad8cba74f8387e28a21c4fc98e", checked := Try.checked }
namespace Rows
def none {H : Type} : Left H := { results := [], args := [] }

/-- 'comptoirlaw13.CodesTell': WHATEVER THE INPUT: true; the input reads as it did. -/
def codesTellSpec : ChangeSpec := { name := "codesTell", fn := fun _ => fun
  | [d1, d2, d3] => { results := [.lit (.bool true)], args := [d1, d2, d3] }
  | _ => none }
def codesTellRow : OpenClaim := { program := "ytahakmhfdogdcaa", sum := "c8d3491b0e24aba08b0e451901392f9a9d1006ad8cba74f8387e28a21c4fc98e", func := "comptoir/comptoirlaw13.CodesTell", spec := "codesTell", unfollowed := true, recurses := true, apart := false }
def CodesTellSaid : Prop := codesTellRow.holds Try.pinned (OpenSpec.ofChange codesTellSpec)

/-- ITS FALSE NEIGHBOUR: 'it returns false'. Refute it at one input. -/
def codesTellWrong : ChangeSpec := { name := "codesTell", fn := fun _ => fun
  | [d1, d2, d3] => { results := [.lit (.bool false)], args := [d1, d2, d3] }
  | _ => none }
def CodesTellWrongFalsely : Prop := codesTellRow.holds Try.pinned (OpenSpec.ofChange codesTellWrong)

/-- 'comptoirlaw13.CodesOwn': WHATEVER THE INPUT: true; the input reads as it did. -/
def codesOwnSpec : ChangeSpec := { name := "codesOwn", fn := fun _ => fun
  | [d1, d2] => { results := [.lit (.bool true)], args := [d1, d2] }
  | _ => none }
def codesOwnRow : OpenClaim := { program := "ytahakmhfdogdcaa", sum := "c8d3491b0e24aba08b0e451901392f9a9d1006ad8cba74f8387e28a21c4fc98e", func := "comptoir/comptoirlaw13.CodesOwn", spec := "codesOwn", unfollowed := true, recurses := true, apart := false }
def CodesOwnSaid : Prop := codesOwnRow.holds Try.pinned (OpenSpec.ofChange codesOwnSpec)

/-- ITS FALSE NEIGHBOUR: 'it returns false'. Refute it at one input. -/
def codesOwnWrong : ChangeSpec := { name := "codesOwn", fn := fun _ => fun
  | [d1, d2] => { results := [.lit (.bool false)], args := [d1, d2] }
  | _ => none }
def CodesOwnWrongFalsely : Prop := codesOwnRow.holds Try.pinned (OpenSpec.ofChange codesOwnWrong)

/-- 'comptoirlaw13.CodesElse': WHATEVER THE INPUT: true; the input reads as it did. -/
def codesElseSpec : ChangeSpec := { name := "codesElse", fn := fun _ => fun
  | [d1, d2] => { results := [.lit (.bool true)], args := [d1, d2] }
  | _ => none }
def codesElseRow : OpenClaim := { program := "ytahakmhfdogdcaa", sum := "c8d3491b0e24aba08b0e451901392f9a9d1006ad8cba74f8387e28a21c4fc98e", func := "comptoir/comptoirlaw13.CodesElse", spec := "codesElse", unfollowed := true, recurses := true, apart := false }
def CodesElseSaid : Prop := codesElseRow.holds Try.pinned (OpenSpec.ofChange codesElseSpec)

/-- ITS FALSE NEIGHBOUR: 'it returns false'. Refute it at one input. -/
def codesElseWrong : ChangeSpec := { name := "codesElse", fn := fun _ => fun
  | [d1, d2] => { results := [.lit (.bool false)], args := [d1, d2] }
  | _ => none }
def CodesElseWrongFalsely : Prop := codesElseRow.holds Try.pinned (OpenSpec.ofChange codesElseWrong)

/- THE SECOND FORM. 'bulk': how many values and letters a reading holds, each counted each time it is reached (what is shared counts as often as it is met; a slice's spare places count too). A statement '..UptoSaid' is the law's where the arguments, and the package variables that the reading takes, are together of bulk at most 1048576: NARROWER than '..Said'. Prove '..Said' where nothing that the law and all that it calls make is longer than what came in: it says more and counts as full. Else prove '..UptoSaid'. A law counts once. -/
mutual
def uptoBulk {H : Type} : DataW H → Nat
  | .lit (.string bytes) => bytes.length + 1
  | .lit _ => 1
  | .nil => 1
  | .ptr d => uptoBulk d + 1
  | .slice elems spare => uptoBulkAll elems + uptoBulkAll spare + 1
  | .agg parts => uptoBulkAll parts + 1
  | .iface _ d => uptoBulk d + 1
  | .map entries => uptoBulkEntries entries + 1
  | .held _ => 1
def uptoBulkAll {H : Type} : List (DataW H) → Nat
  | [] => 0
  | d :: r => uptoBulk d + uptoBulkAll r
def uptoBulkEntries {H : Type} : List (Lit × DataW H) → Nat
  | [] => 0
  | x :: r => uptoBulkEntry x + uptoBulkEntries r
def uptoBulkEntry {H : Type} : Lit × DataW H → Nat
  | (.string bytes, d) => bytes.length + uptoBulk d + 1
  | (_, d) => uptoBulk d + 1
 end
def uptoSmall : (H : Type) → List (DataW H) → Bool := fun _ ds => decide (uptoBulkAll ds ≤ 1048576)
def OpenSpec.upto (s : _root_.Go.ChangeSpec) : _root_.Go.OpenSpec := { _root_.Go.OpenSpec.ofChange s with cond := some uptoSmall }

/-- 'comptoirlaw13.CodesTell', WHERE WHAT IT READS IS OF BULK AT MOST 1048576: true; the input reads as it did. -/
def codesTellUptoRow : OpenClaim := { program := "ytahakmhfdogdcaa", sum := "c8d3491b0e24aba08b0e451901392f9a9d1006ad8cba74f8387e28a21c4fc98e", func := "comptoir/comptoirlaw13.CodesTell", spec := "codesTell", unfollowed := true, recurses := true, apart := false, narrowed := true }
def CodesTellUptoSaid : Prop := codesTellUptoRow.holds Try.pinned (OpenSpec.upto codesTellSpec)

/-- 'comptoirlaw13.CodesOwn', WHERE WHAT IT READS IS OF BULK AT MOST 1048576: true; the input reads as it did. -/
def codesOwnUptoRow : OpenClaim := { program := "ytahakmhfdogdcaa", sum := "c8d3491b0e24aba08b0e451901392f9a9d1006ad8cba74f8387e28a21c4fc98e", func := "comptoir/comptoirlaw13.CodesOwn", spec := "codesOwn", unfollowed := true, recurses := true, apart := false, narrowed := true }
def CodesOwnUptoSaid : Prop := codesOwnUptoRow.holds Try.pinned (OpenSpec.upto codesOwnSpec)

/-- 'comptoirlaw13.CodesElse', WHERE WHAT IT READS IS OF BULK AT MOST 1048576: true; the input reads as it did. -/
def codesElseUptoRow : OpenClaim := { program := "ytahakmhfdogdcaa", sum := "c8d3491b0e24aba08b0e451901392f9a9d1006ad8cba74f8387e28a21c4fc98e", func := "comptoir/comptoirlaw13.CodesElse", spec := "codesElse", unfollowed := true, recurses := true, apart := false, narrowed := true }
def CodesElseUptoSaid : Prop := codesElseUptoRow.holds Try.pinned (OpenSpec.upto codesElseSpec)

end Rows
end Go.Proofs.Ytahakmhfdogdcaa
