/- TimersOrder walked: one by one, in whatever order they were set. -/
import Derived.Test.YthjcdjanadeobaaHAgain
import Derived.BigRegion
namespace Go.Proofs.Ythjcdjanadeobaa.MH
open Go.RowKit Go.Proofs.YthjcdjanadeobaaW.PrintWords Go.Proofs.YthjcdjanadeobaaW.PrintLast Go.Proofs.YthjcdjanadeobaaW.PrintMore Go.Proofs.Ythjcdjanadeobaa.Heap
set_option linter.unusedVariables false
set_option linter.unusedSimpArgs false

set_option maxHeartbeats 8000000 in
set_option maxRecDepth 100000 in
/-- Too many: not gone into. -/
theorem order_gone (A0 : Option Addr) (c0 n0 : Nat) (A1 : Option Addr) (c1 n1 : Nat) (w : World) (h : 60 < n0) (h63 : n0 ≤ 9223372036854775807) :
    Calls Try.prog 6 #[.slice A0 n0 c0, .slice A1 n1 c1] w fun e w' => e = .returned (.bool true) ∧ Below w.heap.size w w' := by
  have r1 : (60 : Int) < (n0 : Int) := by omega
  go_enter Try.func6, Try.ntmps6
  go_wp2_with fail
  refine (new7 w).mono ?_
  rintro e w1 ⟨ha, rfl, hp, hf⟩
  have HN1 := Aside0.mk (Now.foot hf (S := fun b => w.heap.size ≤ b ∧ b < w1.heap.size) (fun b hb => hb.1))
  clear hp hf
  go_wp2_with fail
  refine (new7 w1).mono ?_
  rintro e w2 ⟨hb, rfl, hp, hf⟩
  have HN2 := Aside0.mk (HN1.out.below ⟨hf.1, hf.2.1, hf.2.2.1, hf.2.2.2.1, fun b hb => hf.2.2.2.2 b hb (fun h => h)⟩)
  have HA := Aside0.mk (awake8 w2)
  clear hp hf
  go_wp2_with fail
  refine HA.out.mono ?_
  rintro e w3 ⟨rfl, hbel⟩
  have HN3 := Aside0.mk (HN2.out.below hbel)
  have HA3 := Aside0.mk (awake8 w3)
  clear hbel
  go_wp2_with fail
  refine HA3.out.mono ?_
  rintro e w4 ⟨rfl, hbel⟩
  have HN4 := Aside0.mk (HN3.out.below hbel)
  clear hbel
  go_wp2_with fail
  go_ret
  exact ⟨rfl, HN4.out.bel⟩
end Go.Proofs.Ythjcdjanadeobaa.MH
