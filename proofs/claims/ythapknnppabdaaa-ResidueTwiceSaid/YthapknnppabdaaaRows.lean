/-
  No cell of these rows narrows 'for every input' (looked for: loops, veiled, ifaces, maps, wideKeys, modest, calm, conditions, laid).
  DERIVED. THE GIVEN ROWS OF THIS SEAT. 4 by the template 'for every input the law returns true; each argument reads behind the call as it read before'; 0 by the template 'total and deterministic' (their statements: YthapknnppabdaaaTotals.lean).
  GIVEN WITH THE SEED: the statements are not yours to turn. If you find one false, say at which input.
  Laid BY PROGRAM, IN A SANDBOX (cutbox-rows.mjs): the forced cells as the released guide's own fill.sh prints them over the translation 39a9c27011698a3b… (all of the seat's roots in one cut). By AI agents, Wed Nov 11 2026. No macro, syntax, notation, axiom, sorry.
-/
import Derived.Test.YthapknnppabdaaaChecked
import GoSem.Claim
import GoSem.ClaimJoined
import GoSem.ClaimMapViews
import Derived.JoinedTies
import Derived.KernelRfl
namespace Go.Proofs.Ythapknnppabdaaa
/- THE CELL 'sum', in the pinned program and in every row, IS THE sha256 OF THE DUMP (.gsa) THAT YthapknnppabdaaaProg.lean LOADS. Nothing in Lean hashes anything: it is a label: what it is worth is what the hold of that sum in a sandbox is worth. -/
noncomputable def Try.pinned : Pinned := { name := "ythapknnppabdaaa", sum := "39a9c27011698a3bbe5a91ba38c334c929ba7431106c7379b7d9da7720bb0462", checked := Try.checked }
namespace Rows
def none {H : Type} : Left H := { results := [], args := [] }

/-- 'comptoirlaw19.ResidueTells': WHATEVER THE INPUT: true; the input reads as it did. -/
def residueTellsSpec : ChangeSpec := { name := "residueTells", fn := fun _ => fun
  | [d1, d2, d3] => { results := [.lit (.bool true)], args := [d1, d2, d3] }
  | _ => none }
def residueTellsRow : OpenClaim := { program := "ythapknnppabdaaa", sum := "39a9c27011698a3bbe5a91ba38c334c929ba7431106c7379b7d9da7720bb0462", func := "comptoir/comptoirlaw19.ResidueTells", spec := "residueTells", unfollowed := true, recurses := true, apart := false }
def ResidueTellsSaid : Prop := residueTellsRow.holds Try.pinned (OpenSpec.ofChange residueTellsSpec)

/-- ITS FALSE NEIGHBOUR: 'it returns false'. Refute it at one input. -/
def residueTellsWrong : ChangeSpec := { name := "residueTells", fn := fun _ => fun
  | [d1, d2, d3] => { results := [.lit (.bool false)], args := [d1, d2, d3] }
  | _ => none }
def ResidueTellsWrongFalsely : Prop := residueTellsRow.holds Try.pinned (OpenSpec.ofChange residueTellsWrong)

/-- 'comptoirlaw19.ResidueTwice': WHATEVER THE INPUT: true; the input reads as it did. -/
def residueTwiceSpec : ChangeSpec := { name := "residueTwice", fn := fun _ => fun
  | [d1, d2] => { results := [.lit (.bool true)], args := [d1, d2] }
  | _ => none }
def residueTwiceRow : OpenClaim := { program := "ythapknnppabdaaa", sum := "39a9c27011698a3bbe5a91ba38c334c929ba7431106c7379b7d9da7720bb0462", func := "comptoir/comptoirlaw19.ResidueTwice", spec := "residueTwice", unfollowed := true, recurses := true, apart := false }
def ResidueTwiceSaid : Prop := residueTwiceRow.holds Try.pinned (OpenSpec.ofChange residueTwiceSpec)

/-- ITS FALSE NEIGHBOUR: 'it returns false'. Refute it at one input. -/
def residueTwiceWrong : ChangeSpec := { name := "residueTwice", fn := fun _ => fun
  | [d1, d2] => { results := [.lit (.bool false)], args := [d1, d2] }
  | _ => none }
def ResidueTwiceWrongFalsely : Prop := residueTwiceRow.holds Try.pinned (OpenSpec.ofChange residueTwiceWrong)

/-- 'comptoirlaw19.ResidueNames': WHATEVER THE INPUT: true; the input reads as it did. -/
def residueNamesSpec : ChangeSpec := { name := "residueNames", fn := fun _ => fun
  | [d1, d2] => { results := [.lit (.bool true)], args := [d1, d2] }
  | _ => none }
def residueNamesRow : OpenClaim := { program := "ythapknnppabdaaa", sum := "39a9c27011698a3bbe5a91ba38c334c929ba7431106c7379b7d9da7720bb0462", func := "comptoir/comptoirlaw19.ResidueNames", spec := "residueNames", unfollowed := true, recurses := true, apart := false }
def ResidueNamesSaid : Prop := residueNamesRow.holds Try.pinned (OpenSpec.ofChange residueNamesSpec)

/-- ITS FALSE NEIGHBOUR: 'it returns false'. Refute it at one input. -/
def residueNamesWrong : ChangeSpec := { name := "residueNames", fn := fun _ => fun
  | [d1, d2] => { results := [.lit (.bool false)], args := [d1, d2] }
  | _ => none }
def ResidueNamesWrongFalsely : Prop := residueNamesRow.holds Try.pinned (OpenSpec.ofChange residueNamesWrong)

/-- 'comptoirlaw19.ResidueElse': WHATEVER THE INPUT: true; the input reads as it did. -/
def residueElseSpec : ChangeSpec := { name := "residueElse", fn := fun _ => fun
  | [d1, d2] => { results := [.lit (.bool true)], args := [d1, d2] }
  | _ => none }
def residueElseRow : OpenClaim := { program := "ythapknnppabdaaa", sum := "39a9c27011698a3bbe5a91ba38c334c929ba7431106c7379b7d9da7720bb0462", func := "comptoir/comptoirlaw19.ResidueElse", spec := "residueElse", unfollowed := true, recurses := true, apart := false }
def ResidueElseSaid : Prop := residueElseRow.holds Try.pinned (OpenSpec.ofChange residueElseSpec)

/-- ITS FALSE NEIGHBOUR: 'it returns false'. Refute it at one input. -/
def residueElseWrong : ChangeSpec := { name := "residueElse", fn := fun _ => fun
  | [d1, d2] => { results := [.lit (.bool false)], args := [d1, d2] }
  | _ => none }
def ResidueElseWrongFalsely : Prop := residueElseRow.holds Try.pinned (OpenSpec.ofChange residueElseWrong)

/- THE SECOND FORM. 'bulk': how many values and letters a reading holds, each counted each time it is reached (what is shared counts as often as it is met; a slice's spare places count too). A statement '..UptoSaid' is the law's where the arguments, and the package variables that the reading takes, are together of bulk at most 1048576: NARROWER than '..Said'. Prove '..Said' where nothing that the law and all that it calls make is longer than what came in: it says more and counts as full. Else prove '..UptoSaid'. A law counts once. -/
mutual
def uptoBulk {H : Type} : DataW H → Nat
  | .lit (.string bytes) => bytes.length + 1
  | .lit _ => 1
  | .nil => 1
  | .ptr d => uptoBulk d + 1
  | .slice elems spare => uptoBulkAll elems + uptoBulkAll spare + 1
  | .agg parts => uptoBulkAll parts + 1
  | .iface _ d => uptoBulk d + 1
  | .map entries => uptoBulkEntries entries + 1
  | .held _ => 1
def uptoBulkAll {H : Type} : List (DataW H) → Nat
  | [] => 0
  | d :: r => uptoBulk d + uptoBulkAll r
def uptoBulkEntries {H : Type} : List (Lit × DataW H) → Nat
  | [] => 0
  | x :: r => uptoBulkEntry x + uptoBulkEntries r
def uptoBulkEntry {H : Type} : Lit × DataW H → Nat
  | (.string bytes, d) => bytes.length + uptoBulk d + 1
  | (_, d) => uptoBulk d + 1
 end
def uptoSmall : (H : Type) → List (DataW H) → Bool := fun _ ds => decide (uptoBulkAll ds ≤ 1048576)
def OpenSpec.upto (s : _root_.Go.ChangeSpec) : _root_.Go.OpenSpec := { _root_.Go.OpenSpec.ofChange s with cond := some uptoSmall }

/-- 'comptoirlaw19.ResidueTells', WHERE WHAT IT READS IS OF BULK AT MOST 1048576: true; the input reads as it did. -/
def residueTellsUptoRow : OpenClaim := { program := "ythapknnppabdaaa", sum := "39a9c27011698a3bbe5a91ba38c334c929ba7431106c7379b7d9da7720bb0462", func := "comptoir/comptoirlaw19.ResidueTells", spec := "residueTells", unfollowed := true, recurses := true, apart := false, narrowed := true }
def ResidueTellsUptoSaid : Prop := residueTellsUptoRow.holds Try.pinned (OpenSpec.upto residueTellsSpec)

/-- 'comptoirlaw19.ResidueTwice', WHERE WHAT IT READS IS OF BULK AT MOST 1048576: true; the input reads as it did. -/
def residueTwiceUptoRow : OpenClaim := { program := "ythapknnppabdaaa", sum := "39a9c27011698a3bbe5a91ba38c334c929ba7431106c7379b7d9da7720bb0462", func := "comptoir/comptoirlaw19.ResidueTwice", spec := "residueTwice", unfollowed := true, recurses := true, apart := false, narrowed := true }
def ResidueTwiceUptoSaid : Prop := residueTwiceUptoRow.holds Try.pinned (OpenSpec.upto residueTwiceSpec)

/-- 'comptoirlaw19.ResidueNames', WHERE WHAT IT READS IS OF BULK AT MOST 1048576: true; the input reads as it did. -/
def residueNamesUptoRow : OpenClaim := { program := "ythapknnppabdaaa", sum := "39a9c27011698a3bbe5a91ba38c334c929ba7431106c7379b7d9da7720bb0462", func := "comptoir/comptoirlaw19.ResidueNames", spec := "residueNames", unfollowed := true, recurses := true, apart := false, narrowed := true }
def ResidueNamesUptoSaid : Prop := residueNamesUptoRow.holds Try.pinned (OpenSpec.upto residueNamesSpec)

/-- 'comptoirlaw19.ResidueElse', WHERE WHAT IT READS IS OF BULK AT MOST 1048576: true; the input reads as it did. -/
def residueElseUptoRow : OpenClaim := { program := "ythapknnppabdaaa", sum := "39a9c27011698a3bbe5a91ba38c334c929ba7431106c7379b7d9da7720bb0462", func := "comptoir/comptoirlaw19.ResidueElse", spec := "residueElse", unfollowed := true, recurses := true, apart := false, narrowed := true }
def ResidueElseUptoSaid : Prop := residueElseUptoRow.holds Try.pinned (OpenSpec.upto residueElseSpec)

end Rows
end Go.Proofs.Ythapknnppabdaaa
