/-
  No cell of these rows narrows 'for every input' (looked for: loops, veiled, ifaces, maps, wideKeys, modest, calm, conditions, laid).
  DERIVED. THE GIVEN ROWS OF THIS SEAT. 4 by the template 'for every input the law returns true; each argument reads behind the call as it read before'; 0 by the template 'total and deterministic' (their statements: YthjcdjanadeobaaTotals.lean).
  GIVEN WITH THE SEED: the statements are not yours to turn. If you find one false, say at which input.
  Laid BY PROGRAM, IN A SANDBOX (cutbox-rows.mjs): the forced cells as the released guide's own fill.sh prints them over the translation 13028233465a4b92… (all of the seat's roots in one cut). By AI agents, Wed Nov 11 2026. No macro, syntax, notation, axiom, sorry.
-/
import Derived.Test.YthjcdjanadeobaaChecked
import GoSem.Claim
import GoSem.ClaimJoined
import GoSem.ClaimMapViews
import Derived.JoinedTies
import Derived.KernelRfl
namespace Go.Proofs.Ythjcdjanadeobaa
/- THE CELL 'sum', in the pinned program and in every row, IS THE sha256 OF THE DUMP (.gsa) THAT YthjcdjanadeobaaProg.lean LOADS. Nothing in Lean hashes anything: it is a label: what it is worth is what the hold of that sum in a sandbox is worth. -/
noncomputable def Try.pinned : Pinned := { name := "ythjcdjanadeobaa", sum := "13028233465a4b92ad7fef1f1f8bc8325d266d6879c1948dd62ba127f60d4068", checked := Try.checked }
namespace Rows
def none {H : Type} : Left H := { results := [], args := [] }

/-- 'comptoirlaw26.TimersPlay': WHATEVER THE INPUT: true; the input reads as it did. -/
def timersPlaySpec : ChangeSpec := { name := "timersPlay", fn := fun _ => fun
  | [d] => { results := [.lit (.bool true)], args := [d] }
  | _ => none }
def timersPlayRow : OpenClaim := { program := "ythjcdjanadeobaa", sum := "13028233465a4b92ad7fef1f1f8bc8325d266d6879c1948dd62ba127f60d4068", func := "comptoir/comptoirlaw26.TimersPlay", spec := "timersPlay", unfollowed := true, recurses := true, apart := false }
def TimersPlaySaid : Prop := timersPlayRow.holds Try.pinned (OpenSpec.ofChange timersPlaySpec)

/-- ITS FALSE NEIGHBOUR: 'it returns false'. Refute it at one input. -/
def timersPlayWrong : ChangeSpec := { name := "timersPlay", fn := fun _ => fun
  | [d] => { results := [.lit (.bool false)], args := [d] }
  | _ => none }
def TimersPlayWrongFalsely : Prop := timersPlayRow.holds Try.pinned (OpenSpec.ofChange timersPlayWrong)

/-- 'comptoirlaw26.TimersDue': WHATEVER THE INPUT: true; the input reads as it did. -/
def timersDueSpec : ChangeSpec := { name := "timersDue", fn := fun _ => fun
  | [d1, d2] => { results := [.lit (.bool true)], args := [d1, d2] }
  | _ => none }
def timersDueRow : OpenClaim := { program := "ythjcdjanadeobaa", sum := "13028233465a4b92ad7fef1f1f8bc8325d266d6879c1948dd62ba127f60d4068", func := "comptoir/comptoirlaw26.TimersDue", spec := "timersDue", unfollowed := true, recurses := true, apart := false }
def TimersDueSaid : Prop := timersDueRow.holds Try.pinned (OpenSpec.ofChange timersDueSpec)

/-- ITS FALSE NEIGHBOUR: 'it returns false'. Refute it at one input. -/
def timersDueWrong : ChangeSpec := { name := "timersDue", fn := fun _ => fun
  | [d1, d2] => { results := [.lit (.bool false)], args := [d1, d2] }
  | _ => none }
def TimersDueWrongFalsely : Prop := timersDueRow.holds Try.pinned (OpenSpec.ofChange timersDueWrong)

/-- 'comptoirlaw26.TimersAgain': WHATEVER THE INPUT: true; the input reads as it did. -/
def timersAgainSpec : ChangeSpec := { name := "timersAgain", fn := fun _ => fun
  | [d1, d2, d3] => { results := [.lit (.bool true)], args := [d1, d2, d3] }
  | _ => none }
def timersAgainRow : OpenClaim := { program := "ythjcdjanadeobaa", sum := "13028233465a4b92ad7fef1f1f8bc8325d266d6879c1948dd62ba127f60d4068", func := "comptoir/comptoirlaw26.TimersAgain", spec := "timersAgain", unfollowed := true, recurses := true, apart := false }
def TimersAgainSaid : Prop := timersAgainRow.holds Try.pinned (OpenSpec.ofChange timersAgainSpec)

/-- ITS FALSE NEIGHBOUR: 'it returns false'. Refute it at one input. -/
def timersAgainWrong : ChangeSpec := { name := "timersAgain", fn := fun _ => fun
  | [d1, d2, d3] => { results := [.lit (.bool false)], args := [d1, d2, d3] }
  | _ => none }
def TimersAgainWrongFalsely : Prop := timersAgainRow.holds Try.pinned (OpenSpec.ofChange timersAgainWrong)

/-- 'comptoirlaw26.TimersOrder': WHATEVER THE INPUT: true; the input reads as it did. -/
def timersOrderSpec : ChangeSpec := { name := "timersOrder", fn := fun _ => fun
  | [d1, d2] => { results := [.lit (.bool true)], args := [d1, d2] }
  | _ => none }
def timersOrderRow : OpenClaim := { program := "ythjcdjanadeobaa", sum := "13028233465a4b92ad7fef1f1f8bc8325d266d6879c1948dd62ba127f60d4068", func := "comptoir/comptoirlaw26.TimersOrder", spec := "timersOrder", unfollowed := true, recurses := true, apart := false }
def TimersOrderSaid : Prop := timersOrderRow.holds Try.pinned (OpenSpec.ofChange timersOrderSpec)

/-- ITS FALSE NEIGHBOUR: 'it returns false'. Refute it at one input. -/
def timersOrderWrong : ChangeSpec := { name := "timersOrder", fn := fun _ => fun
  | [d1, d2] => { results := [.lit (.bool false)], args := [d1, d2] }
  | _ => none }
def TimersOrderWrongFalsely : Prop := timersOrderRow.holds Try.pinned (OpenSpec.ofChange timersOrderWrong)

/- THE SECOND FORM. 'bulk': how many values and letters a reading holds, each counted each time it is reached (what is shared counts as often as it is met; a slice's spare places count too). A statement '..UptoSaid' is the law's where the arguments, and the package variables that the reading takes, are together of bulk at most 1048576: NARROWER than '..Said'. Prove '..Said' where nothing that the law and all that it calls make is longer than what came in: it says more and counts as full. Else prove '..UptoSaid'. A law counts once. -/
mutual
def uptoBulk {H : Type} : DataW H → Nat
  | .lit (.string bytes) => bytes.length + 1
  | .lit _ => 1
  | .nil => 1
  | .ptr d => uptoBulk d + 1
  | .slice elems spare => uptoBulkAll elems + uptoBulkAll spare + 1
  | .agg parts => uptoBulkAll parts + 1
  | .iface _ d => uptoBulk d + 1
  | .map entries => uptoBulkEntries entries + 1
  | .held _ => 1
def uptoBulkAll {H : Type} : List (DataW H) → Nat
  | [] => 0
  | d :: r => uptoBulk d + uptoBulkAll r
def uptoBulkEntries {H : Type} : List (Lit × DataW H) → Nat
  | [] => 0
  | x :: r => uptoBulkEntry x + uptoBulkEntries r
def uptoBulkEntry {H : Type} : Lit × DataW H → Nat
  | (.string bytes, d) => bytes.length + uptoBulk d + 1
  | (_, d) => uptoBulk d + 1
 end
def uptoSmall : (H : Type) → List (DataW H) → Bool := fun _ ds => decide (uptoBulkAll ds ≤ 1048576)
def OpenSpec.upto (s : _root_.Go.ChangeSpec) : _root_.Go.OpenSpec := { _root_.Go.OpenSpec.ofChange s with cond := some uptoSmall }

/-- 'comptoirlaw26.TimersPlay', WHERE WHAT IT READS IS OF BULK AT MOST 1048576: true; the input reads as it did. -/
def timersPlayUptoRow : OpenClaim := { program := "ythjcdjanadeobaa", sum := "13028233465a4b92ad7fef1f1f8bc8325d266d6879c1948dd62ba127f60d4068", func := "comptoir/comptoirlaw26.TimersPlay", spec := "timersPlay", unfollowed := true, recurses := true, apart := false, narrowed := true }
def TimersPlayUptoSaid : Prop := timersPlayUptoRow.holds Try.pinned (OpenSpec.upto timersPlaySpec)

/-- 'comptoirlaw26.TimersDue', WHERE WHAT IT READS IS OF BULK AT MOST 1048576: true; the input reads as it did. -/
def timersDueUptoRow : OpenClaim := { program := "ythjcdjanadeobaa", sum := "13028233465a4b92ad7fef1f1f8bc8325d266d6879c1948dd62ba127f60d4068", func := "comptoir/comptoirlaw26.TimersDue", spec := "timersDue", unfollowed := true, recurses := true, apart := false, narrowed := true }
def TimersDueUptoSaid : Prop := timersDueUptoRow.holds Try.pinned (OpenSpec.upto timersDueSpec)

/-- 'comptoirlaw26.TimersAgain', WHERE WHAT IT READS IS OF BULK AT MOST 1048576: true; the input reads as it did. -/
def timersAgainUptoRow : OpenClaim := { program := "ythjcdjanadeobaa", sum := "13028233465a4b92ad7fef1f1f8bc8325d266d6879c1948dd62ba127f60d4068", func := "comptoir/comptoirlaw26.TimersAgain", spec := "timersAgain", unfollowed := true, recurses := true, apart := false, narrowed := true }
def TimersAgainUptoSaid : Prop := timersAgainUptoRow.holds Try.pinned (OpenSpec.upto timersAgainSpec)

/-- 'comptoirlaw26.TimersOrder', WHERE WHAT IT READS IS OF BULK AT MOST 1048576: true; the input reads as it did. -/
def timersOrderUptoRow : OpenClaim := { program := "ythjcdjanadeobaa", sum := "13028233465a4b92ad7fef1f1f8bc8325d266d6879c1948dd62ba127f60d4068", func := "comptoir/comptoirlaw26.TimersOrder", spec := "timersOrder", unfollowed := true, recurses := true, apart := false, narrowed := true }
def TimersOrderUptoSaid : Prop := timersOrderUptoRow.holds Try.pinned (OpenSpec.upto timersOrderSpec)

end Rows
end Go.Proofs.Ythjcdjanadeobaa
