/- TimersPlay's arguments: a slice of things that are done. -/
import Derived.Test.YthjcdjanadeobaaHPlay
import Derived.Test.YthjcdjanadeobaaHOpens
namespace Go.Proofs.Ythjcdjanadeobaa.MH
open Go.RowKit Go.Proofs.YthjcdjanadeobaaW.PrintWords Go.Proofs.YthjcdjanadeobaaW.PrintLast Go.Proofs.Ythjcdjanadeobaa.Opens
set_option maxRecDepth 100000
def ROp (x : POp) : Prop := (Lit.int .i64 x.kind).wf = true ∧ (Lit.int .i64 x.id).wf = true ∧ (Lit.int .u64 x.at_).wf = true
theorem opensOp : Opens Try.prog 33 kOp ROp :=
  Opens.struct Try.underlying33 rfl (by kernel_rfl) (OpensF.cons rfl (by kernel_rfl) rfl (Opens.int Try.underlying3) (OpensF.cons rfl (by kernel_rfl) rfl (Opens.int Try.underlying3) (OpensF.last rfl (by kernel_rfl) (Opens.int Try.underlying31)))) (fun x : POp => (x.kind, x.id, x.at_)) (fun y => ⟨y.1, y.2.1, y.2.2⟩) (fun _ => rfl)
theorem play_all (A0 : Option Addr) (c0 : Nat) (l0 : List POp) (w : World) (hr0 : Kd.C kOp w A0 l0.length l0) (hc0 : l0.length ≤ c0) (h : l0.length ≤ maxLen ∧ l0.length * 24 ≤ 140737488351232 ∧ ∀ x ∈ l0, ROp x) :
    Calls Try.prog 3 #[.slice A0 l0.length c0] w fun e w' => e = .returned (.bool true) ∧ Below w.heap.size w w' :=
  play_walk A0 c0 l0 w hr0 hc0 (fun x hx => (h.2.2 x hx).2.1)
end Go.Proofs.Ythjcdjanadeobaa.MH
