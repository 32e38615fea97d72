/- What residue.Empty comes to where nothing is in the residue, and where something is. -/
import Derived.Test.YthapknnppabdaaaMRx1
import Derived.Shelf.Abstract
import Derived.LoopN
namespace Go.Proofs.Ythapknnppabdaaa.MR
open Go.RowKit Go.Proofs.YthapknnppabdaaaW.PrintWords Go.Proofs.YthapknnppabdaaaW.PrintLast Go.Proofs.YthapknnppabdaaaW.PrintMore
set_option linter.unusedVariables false
set_option linter.unusedSimpArgs false

def residue_Empty.f (a0_0 a0_1 a0_2 : ByteArray) (l0_3 : List S48) (l0_4 : List S52) : Option Bool :=
  if a0_0.size + a0_1.size + a0_2.size + l0_3.length + l0_4.length ≤ 9223372036854775807 then some (decide (a0_0.size + a0_1.size + a0_2.size + l0_3.length + l0_4.length = 0)) else none
theorem small_wrap (n : Nat) (h : n ≤ 9223372036854775807) : wrap64 (n : Int) = (n : Int) := by
  unfold wrap64
  omega
theorem sum_is (a b c d e : Nat) (h : a + b + c + d + e ≤ 9223372036854775807) : (wrap64 (wrap64 (wrap64 (wrap64 ((a : Int) + (b : Int) + (c : Int))) + (d : Int)) + (e : Int)) == 0) = decide (a + b + c + d + e = 0) := by
  have e1 : (a : Int) + (b : Int) + (c : Int) = ((a + b + c : Nat) : Int) := by omega
  have e2 : ((a + b + c : Nat) : Int) + (d : Int) = ((a + b + c + d : Nat) : Int) := by omega
  have e3 : ((a + b + c + d : Nat) : Int) + (e : Int) = ((a + b + c + d + e : Nat) : Int) := by omega
  rw [e1, small_wrap _ (by omega), small_wrap _ (by omega), e2, small_wrap _ (by omega), e3, small_wrap _ h, Bool.eq_iff_iff, beq_iff_eq, decide_eq_true_eq]
  omega
set_option maxHeartbeats 4000000 in
set_option maxRecDepth 100000 in
theorem residue_Empty.calls (a0_0 a0_1 a0_2 : ByteArray) (A0_3 : Option Addr) (c0_3 : Nat) (l0_3 : List S48) (A0_4 : Option Addr) (c0_4 : Nat) (l0_4 : List S52) (r : Bool) (w : World) (hr0_3 : Kd.C k48 w A0_3 l0_3.length l0_3) (hc0_3 : l0_3.length ≤ c0_3) (hr0_4 : Kd.C k52 w A0_4 l0_4.length l0_4) (hc0_4 : l0_4.length ≤ c0_4) (h : residue_Empty.f a0_0 a0_1 a0_2 l0_3 l0_4 = some r) :
    Calls Try.prog 15 #[.agg #[.string a0_0, .string a0_1, .string a0_2, .slice A0_3 l0_3.length c0_3, .slice A0_4 l0_4.length c0_4]] w fun e w' => e = .returned (.bool r) ∧ Below w.heap.size w w' := by
  unfold residue_Empty.f at h
  by_cases hs : a0_0.size + a0_1.size + a0_2.size + l0_3.length + l0_4.length ≤ 9223372036854775807
  · rw [if_pos hs] at h
    have h := Option.some.inj h
    have e34 : ∀ args w, (callFunc 34 args).run Try.prog w = .ok (.enter 34 args) w := enters_of Try.func34 (by kernel_rfl) rfl
    have e29 : ∀ args w, (callFunc 29 args).run Try.prog w = .ok (.enter 29 args) w := enters_of Try.func29 (by kernel_rfl) rfl
    have e31 : ∀ args w, (callFunc 31 args).run Try.prog w = .ok (.enter 31 args) w := enters_of Try.func31 (by kernel_rfl) rfl
    have z1 : wrap64 ((a0_0.size : Int) + (a0_1.size : Int)) = ((a0_0.size + a0_1.size : Nat) : Int) := by unfold wrap64; omega
    have z2 : wrap64 (((a0_0.size + a0_1.size : Nat) : Int) + (a0_2.size : Int)) = ((a0_0.size + a0_1.size + a0_2.size : Nat) : Int) := by unfold wrap64; omega
    clear hr0_3 hr0_4 hc0_3 hc0_4
    have HS := Aside0.mk hs
    have HH := Aside0.mk h
    clear hs h
    go_enter Try.func15, Try.ntmps15
    go_wp2
    refine wp_loop_rounds 4 ?_
    rw [rounds_succ]
    go_wp2
    rw [rounds_succ]
    go_wp2
    rw [rounds_succ]
    go_wp2
    rw [rounds_succ]
    go_wp2
    go_ret
    have hv := (sum_is a0_0.size a0_1.size a0_2.size l0_3.length l0_4.length HS.out).trans HH.out
    exact ⟨by rw [hv]; rfl, below_alloc (below_alloc (below_alloc (below_alloc (below_alloc (Below.refl _ _) _) _) _) _) _⟩
  · rw [if_neg hs] at h; cases h
end Go.Proofs.Ythapknnppabdaaa.MR
