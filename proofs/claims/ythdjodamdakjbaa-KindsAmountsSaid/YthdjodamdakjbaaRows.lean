/-
  No cell of these rows narrows 'for every input' (looked for: loops, veiled, ifaces, maps, wideKeys, modest, calm, conditions, laid).
  DERIVED. THE GIVEN ROWS OF THIS SEAT. 5 by the template 'for every input the law returns true; each argument reads behind the call as it read before'; 0 by the template 'total and deterministic' (their statements: YthdjodamdakjbaaTotals.lean).
  GIVEN WITH THE SEED: the statements are not yours to turn. If you find one false, say at which input.
  Laid BY PROGRAM, IN A SANDBOX (cutbox-rows.mjs): the forced cells as the released guide's own fill.sh prints them over the translation 75102866a9f7699b… (all of the seat's roots in one cut). By AI agents, Wed Nov 11 2026. No macro, syntax, notation, axiom, sorry.
-/
import Derived.Test.YthdjodamdakjbaaChecked
import GoSem.Claim
import GoSem.ClaimJoined
import GoSem.ClaimMapViews
import Derived.JoinedTies
import Derived.KernelRfl
namespace Go.Proofs.Ythdjodamdakjbaa
/- THE CELL 'sum', in the pinned program and in every row, IS THE sha256 OF THE DUMP (.gsa) THAT YthdjodamdakjbaaProg.lean LOADS. Nothing in Lean hashes anything: it is a label: what it is worth is what the hold of that sum in a sandbox is worth. -/
noncomputable def Try.pinned : Pinned := { name := "ythdjodamdakjbaa", sum := "75102866a9f7699b28f631d1dec20dee83b9d208e7f528b864d9cbb6c59d902f", checked := Try.checked }
namespace Rows
def none {H : Type} : Left H := { results := [], args := [] }

/-- 'comptoirlaw11.KindsNeed': WHATEVER THE INPUT: true; the input reads as it did. -/
def kindsNeedSpec : ChangeSpec := { name := "kindsNeed", fn := fun _ => fun
  | [d1, d2, d3] => { results := [.lit (.bool true)], args := [d1, d2, d3] }
  | _ => none }
def kindsNeedRow : OpenClaim := { program := "ythdjodamdakjbaa", sum := "75102866a9f7699b28f631d1dec20dee83b9d208e7f528b864d9cbb6c59d902f", func := "comptoir/comptoirlaw11.KindsNeed", spec := "kindsNeed", unfollowed := true, recurses := true, apart := false }
def KindsNeedSaid : Prop := kindsNeedRow.holds Try.pinned (OpenSpec.ofChange kindsNeedSpec)

/-- ITS FALSE NEIGHBOUR: 'it returns false'. Refute it at one input. -/
def kindsNeedWrong : ChangeSpec := { name := "kindsNeed", fn := fun _ => fun
  | [d1, d2, d3] => { results := [.lit (.bool false)], args := [d1, d2, d3] }
  | _ => none }
def KindsNeedWrongFalsely : Prop := kindsNeedRow.holds Try.pinned (OpenSpec.ofChange kindsNeedWrong)

/-- 'comptoirlaw11.KindsAmounts': WHATEVER THE INPUT: true; the input reads as it did. -/
def kindsAmountsSpec : ChangeSpec := { name := "kindsAmounts", fn := fun _ => fun
  | [d1, d2, d3] => { results := [.lit (.bool true)], args := [d1, d2, d3] }
  | _ => none }
def kindsAmountsRow : OpenClaim := { program := "ythdjodamdakjbaa", sum := "75102866a9f7699b28f631d1dec20dee83b9d208e7f528b864d9cbb6c59d902f", func := "comptoir/comptoirlaw11.KindsAmounts", spec := "kindsAmounts", unfollowed := true, recurses := true, apart := false }
def KindsAmountsSaid : Prop := kindsAmountsRow.holds Try.pinned (OpenSpec.ofChange kindsAmountsSpec)

/-- ITS FALSE NEIGHBOUR: 'it returns false'. Refute it at one input. -/
def kindsAmountsWrong : ChangeSpec := { name := "kindsAmounts", fn := fun _ => fun
  | [d1, d2, d3] => { results := [.lit (.bool false)], args := [d1, d2, d3] }
  | _ => none }
def KindsAmountsWrongFalsely : Prop := kindsAmountsRow.holds Try.pinned (OpenSpec.ofChange kindsAmountsWrong)

/-- 'comptoirlaw11.KindsAnswers': WHATEVER THE INPUT: true; the input reads as it did. -/
def kindsAnswersSpec : ChangeSpec := { name := "kindsAnswers", fn := fun _ => fun
  | [d] => { results := [.lit (.bool true)], args := [d] }
  | _ => none }
def kindsAnswersRow : OpenClaim := { program := "ythdjodamdakjbaa", sum := "75102866a9f7699b28f631d1dec20dee83b9d208e7f528b864d9cbb6c59d902f", func := "comptoir/comptoirlaw11.KindsAnswers", spec := "kindsAnswers", unfollowed := true, recurses := true, apart := false }
def KindsAnswersSaid : Prop := kindsAnswersRow.holds Try.pinned (OpenSpec.ofChange kindsAnswersSpec)

/-- ITS FALSE NEIGHBOUR: 'it returns false'. Refute it at one input. -/
def kindsAnswersWrong : ChangeSpec := { name := "kindsAnswers", fn := fun _ => fun
  | [d] => { results := [.lit (.bool false)], args := [d] }
  | _ => none }
def KindsAnswersWrongFalsely : Prop := kindsAnswersRow.holds Try.pinned (OpenSpec.ofChange kindsAnswersWrong)

/-- 'comptoirlaw11.KindsTell': WHATEVER THE INPUT: true; the input reads as it did. -/
def kindsTellSpec : ChangeSpec := { name := "kindsTell", fn := fun _ => fun
  | [d1, d2, d3] => { results := [.lit (.bool true)], args := [d1, d2, d3] }
  | _ => none }
def kindsTellRow : OpenClaim := { program := "ythdjodamdakjbaa", sum := "75102866a9f7699b28f631d1dec20dee83b9d208e7f528b864d9cbb6c59d902f", func := "comptoir/comptoirlaw11.KindsTell", spec := "kindsTell", unfollowed := true, recurses := true, apart := false }
def KindsTellSaid : Prop := kindsTellRow.holds Try.pinned (OpenSpec.ofChange kindsTellSpec)

/-- ITS FALSE NEIGHBOUR: 'it returns false'. Refute it at one input. -/
def kindsTellWrong : ChangeSpec := { name := "kindsTell", fn := fun _ => fun
  | [d1, d2, d3] => { results := [.lit (.bool false)], args := [d1, d2, d3] }
  | _ => none }
def KindsTellWrongFalsely : Prop := kindsTellRow.holds Try.pinned (OpenSpec.ofChange kindsTellWrong)

/-- 'comptoirlaw11.KindsOwn': WHATEVER THE INPUT: true; the input reads as it did. -/
def kindsOwnSpec : ChangeSpec := { name := "kindsOwn", fn := fun _ => fun
  | [d1, d2] => { results := [.lit (.bool true)], args := [d1, d2] }
  | _ => none }
def kindsOwnRow : OpenClaim := { program := "ythdjodamdakjbaa", sum := "75102866a9f7699b28f631d1dec20dee83b9d208e7f528b864d9cbb6c59d902f", func := "comptoir/comptoirlaw11.KindsOwn", spec := "kindsOwn", unfollowed := true, recurses := true, apart := false }
def KindsOwnSaid : Prop := kindsOwnRow.holds Try.pinned (OpenSpec.ofChange kindsOwnSpec)

/-- ITS FALSE NEIGHBOUR: 'it returns false'. Refute it at one input. -/
def kindsOwnWrong : ChangeSpec := { name := "kindsOwn", fn := fun _ => fun
  | [d1, d2] => { results := [.lit (.bool false)], args := [d1, d2] }
  | _ => none }
def KindsOwnWrongFalsely : Prop := kindsOwnRow.holds Try.pinned (OpenSpec.ofChange kindsOwnWrong)

/- THE SECOND FORM. 'bulk': how many values and letters a reading holds, each counted each time it is reached (what is shared counts as often as it is met; a slice's spare places count too). A statement '..UptoSaid' is the law's where the arguments, and the package variables that the reading takes, are together of bulk at most 1048576: NARROWER than '..Said'. Prove '..Said' where nothing that the law and all that it calls make is longer than what came in: it says more and counts as full. Else prove '..UptoSaid'. A law counts once. -/
mutual
def uptoBulk {H : Type} : DataW H → Nat
  | .lit (.string bytes) => bytes.length + 1
  | .lit _ => 1
  | .nil => 1
  | .ptr d => uptoBulk d + 1
  | .slice elems spare => uptoBulkAll elems + uptoBulkAll spare + 1
  | .agg parts => uptoBulkAll parts + 1
  | .iface _ d => uptoBulk d + 1
  | .map entries => uptoBulkEntries entries + 1
  | .held _ => 1
def uptoBulkAll {H : Type} : List (DataW H) → Nat
  | [] => 0
  | d :: r => uptoBulk d + uptoBulkAll r
def uptoBulkEntries {H : Type} : List (Lit × DataW H) → Nat
  | [] => 0
  | x :: r => uptoBulkEntry x + uptoBulkEntries r
def uptoBulkEntry {H : Type} : Lit × DataW H → Nat
  | (.string bytes, d) => bytes.length + uptoBulk d + 1
  | (_, d) => uptoBulk d + 1
 end
def uptoSmall : (H : Type) → List (DataW H) → Bool := fun _ ds => decide (uptoBulkAll ds ≤ 1048576)
def OpenSpec.upto (s : _root_.Go.ChangeSpec) : _root_.Go.OpenSpec := { _root_.Go.OpenSpec.ofChange s with cond := some uptoSmall }

/-- 'comptoirlaw11.KindsNeed', WHERE WHAT IT READS IS OF BULK AT MOST 1048576: true; the input reads as it did. -/
def kindsNeedUptoRow : OpenClaim := { program := "ythdjodamdakjbaa", sum := "75102866a9f7699b28f631d1dec20dee83b9d208e7f528b864d9cbb6c59d902f", func := "comptoir/comptoirlaw11.KindsNeed", spec := "kindsNeed", unfollowed := true, recurses := true, apart := false, narrowed := true }
def KindsNeedUptoSaid : Prop := kindsNeedUptoRow.holds Try.pinned (OpenSpec.upto kindsNeedSpec)

/-- 'comptoirlaw11.KindsAmounts', WHERE WHAT IT READS IS OF BULK AT MOST 1048576: true; the input reads as it did. -/
def kindsAmountsUptoRow : OpenClaim := { program := "ythdjodamdakjbaa", sum := "75102866a9f7699b28f631d1dec20dee83b9d208e7f528b864d9cbb6c59d902f", func := "comptoir/comptoirlaw11.KindsAmounts", spec := "kindsAmounts", unfollowed := true, recurses := true, apart := false, narrowed := true }
def KindsAmountsUptoSaid : Prop := kindsAmountsUptoRow.holds Try.pinned (OpenSpec.upto kindsAmountsSpec)

/-- 'comptoirlaw11.KindsAnswers', WHERE WHAT IT READS IS OF BULK AT MOST 1048576: true; the input reads as it did. -/
def kindsAnswersUptoRow : OpenClaim := { program := "ythdjodamdakjbaa", sum := "75102866a9f7699b28f631d1dec20dee83b9d208e7f528b864d9cbb6c59d902f", func := "comptoir/comptoirlaw11.KindsAnswers", spec := "kindsAnswers", unfollowed := true, recurses := true, apart := false, narrowed := true }
def KindsAnswersUptoSaid : Prop := kindsAnswersUptoRow.holds Try.pinned (OpenSpec.upto kindsAnswersSpec)

/-- 'comptoirlaw11.KindsTell', WHERE WHAT IT READS IS OF BULK AT MOST 1048576: true; the input reads as it did. -/
def kindsTellUptoRow : OpenClaim := { program := "ythdjodamdakjbaa", sum := "75102866a9f7699b28f631d1dec20dee83b9d208e7f528b864d9cbb6c59d902f", func := "comptoir/comptoirlaw11.KindsTell", spec := "kindsTell", unfollowed := true, recurses := true, apart := false, narrowed := true }
def KindsTellUptoSaid : Prop := kindsTellUptoRow.holds Try.pinned (OpenSpec.upto kindsTellSpec)

/-- 'comptoirlaw11.KindsOwn', WHERE WHAT IT READS IS OF BULK AT MOST 1048576: true; the input reads as it did. -/
def kindsOwnUptoRow : OpenClaim := { program := "ythdjodamdakjbaa", sum := "75102866a9f7699b28f631d1dec20dee83b9d208e7f528b864d9cbb6c59d902f", func := "comptoir/comptoirlaw11.KindsOwn", spec := "kindsOwn", unfollowed := true, recurses := true, apart := false, narrowed := true }
def KindsOwnUptoSaid : Prop := kindsOwnUptoRow.holds Try.pinned (OpenSpec.upto kindsOwnSpec)

end Rows
end Go.Proofs.Ythdjodamdakjbaa
