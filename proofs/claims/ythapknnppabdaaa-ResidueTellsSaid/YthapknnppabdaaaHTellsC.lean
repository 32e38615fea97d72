/- ResidueTells' calls over whole messages: Split, Join, Residue, Empty. -/
import Derived.Test.YthapknnppabdaaaHSplitP
import Derived.Test.YthapknnppabdaaaHElseW
import Derived.Test.YthapknnppabdaaaMRx16
import Derived.Test.YthapknnppabdaaaHEmpty
import Derived.Test.YthapknnppabdaaaHEmpty16
namespace Go.Proofs.Ythapknnppabdaaa.MR
open Go.RowKit Go.Proofs.YthapknnppabdaaaW.PrintWords Go.Proofs.YthapknnppabdaaaW.PrintLast Go.Proofs.YthapknnppabdaaaW.PrintMore
set_option linter.unusedVariables false
set_option linter.unusedSimpArgs false

set_option maxRecDepth 10000 in
theorem split_all (k : Nat) (x : S29) (side : Int) (hr : Reach29 x) (k15 : x.f15.length < k) (k19 : x.f19.length < k) (h8 : x.f8.size ≤ 140737488351232) (h9 : x.f9.size ≤ 140737488351232) :
    residue_Split.f k x.f0 x.f1 x.f2 x.f3 x.f4 x.f5 x.f6 x.f7 x.f8 x.f9 x.f10 x.f11 x.f12 x.f13 x.f14.f0 x.f14.f1 x.f15 x.f16 x.f17 x.f18 x.f19 side = some ((spM ansB x side).f0, (spM ansB x side).f1, (spM ansB x side).f2, (spM ansB x side).f3, (spM ansB x side).f4, (spM ansB x side).f5, (spM ansB x side).f6, (spM ansB x side).f7, (spM ansB x side).f8, (spM ansB x side).f9, (spM ansB x side).f10, (spM ansB x side).f11, (spM ansB x side).f12, (spM ansB x side).f13, (spM ansB x side).f14.f0, (spM ansB x side).f14.f1, (spM ansB x side).f15, (spM ansB x side).f16, (spM ansB x side).f17, (spM ansB x side).f18, (spM ansB x side).f19, (spR ansB x side).f0, (spR ansB x side).f1, (spR ansB x side).f2, (spR ansB x side).f3, (spR ansB x side).f4) := by
  unfold residue_Split.f
  rw [own_is k x.f0 x.f1 x.f2 x.f3 x.f4 x.f5 x.f6 x.f7 x.f8 x.f9 x.f10 x.f11 x.f12 x.f13 x.f14.f0 x.f14.f1 x.f15 x.f16 x.f17 x.f18 x.f19 hr.h15 hr.d15 k15 hr.h18 hr.h19 hr.d19 k19, Option.bind_some]
  unfold spM spR
  by_cases s0 : side = 0
  · simp only [if_pos s0]
    rfl
  · simp only [if_neg s0]
    by_cases s1 : side = 1
    · simp only [if_pos s1]
      rw [label_all _ _ (by omega), Option.bind_some, label_all _ _ (by omega), Option.bind_some]
      rfl
    · simp only [if_neg s1]
      rfl
theorem split9_x (x : S29) (side : Int) (mc : Array Value) (w : World) (h : k29.K w x mc.toList) (hr : Reach29 x) (h8 : x.f8.size ≤ 140737488351232) (h9 : x.f9.size ≤ 140737488351232) :
    Calls Try.prog 9 #[.agg mc, .int .i64 side] w fun e w' => ∃ nc rc : Array Value, e = .returned (.tuple #[.agg nc, .agg rc]) ∧ nc.size = 21 ∧ rc.size = 5 ∧ k29.K w' (spM ansB x side) nc.toList ∧ k31.K w' (spR ansB x side) rc.toList ∧ Below w.heap.size w w' := by
  obtain ⟨A16, c16, A19, c19, A20, c20, e, l16, g16, l19, g19, l20, g20⟩ := k29_open h
  have em : mc = _ := Array.toList_inj.1 e
  have hs := split_all (x.f15.length + x.f19.length + 3) x side hr (by omega) (by omega) h8 h9
  rw [em]
  refine (residue_Split.calls _ x.f0 x.f1 x.f2 x.f3 x.f4 x.f5 x.f6 x.f7 x.f8 x.f9 x.f10 x.f11 x.f12 x.f13 x.f14.f0 x.f14.f1 A16 c16 x.f15 x.f16 x.f17 A19 c19 x.f18 A20 c20 x.f19 side _ _ _ _ _ _ _ _ _ _ _ _ _ _ _ _ _ _ _ _ _ _ _ _ _ _ w g16 l16 g19 l19 g20 l20 hs).mono ?_
  rintro e w' ⟨v16, v19, v20, v24, v25, rfl, r16, r19, r20, r24, r25, hb⟩
  obtain ⟨B16, d16, rfl, m16, n16⟩ := R_C (Kd.S_R r16)
  obtain ⟨B19, d19, rfl, m19, n19⟩ := R_C r19
  obtain ⟨B20, d20, rfl, m20, n20⟩ := R_C (Kd.S_R r20)
  obtain ⟨B24, d24, rfl, m24, n24⟩ := R_C r24
  obtain ⟨B25, d25, rfl, m25, n25⟩ := R_C (Kd.S_R r25)
  exact ⟨_, _, rfl, rfl, rfl, k29_mk w' (spM ansB x side) m16 n16 m19 n19 m20 n20, k31_mk w' (spR ansB x side) m24 n24 m25 n25, hb⟩
/-- Join, field by field. -/
def joinK (x : S29) (y : S31) : S29 := { x with f8 := (if x.f8.toList = [] then x.f8 else pickB y.f1 x.f8), f9 := (if x.f9.toList = [] then x.f9 else pickB y.f2 x.f9), f17 := pickB y.f0 x.f17, f18 := (if y.f3.length > 0 then y.f3 else x.f18), f19 := (if y.f4.length > 0 then y.f4 else x.f19) }
theorem joinG_is (x : S29) (y : S31) : joinG x y = joinK x y := by
  unfold joinG jO jE jT jM jN joinK
  by_cases h8 : x.f8.toList = [] <;> by_cases h9 : x.f9.toList = [] <;> by_cases h3 : y.f3.length > 0 <;> by_cases h4 : y.f4.length > 0 <;> simp only [h8, h9, h3, h4, if_true, if_false, if_pos, if_neg, reduceIte]
theorem no_text {s : ByteArray} (h : s.toList = []) : s = ⟨#[]⟩ := by
  rw [ByteArray.toList_eq] at h
  cases s with
  | mk d =>
    have : d = #[] := Array.toList_inj.1 h
    rw [this]
theorem known_is (s t : ByteArray) : residue_known.f s t = some (if s.toList = [] then s else pickB t s) := by
  unfold residue_known.f
  by_cases h : s.toList = []
  · rw [if_pos h, if_pos h, no_text h]
  · rw [if_neg h, if_neg h]
    unfold residue_or.f pickB
    split <;> rfl
theorem or_is (s t : ByteArray) : residue_or.f s t = some (pickB s t) := by
  unfold residue_or.f pickB
  split <;> rfl
theorem join13_x (x : S29) (y : S31) (mc rc : Array Value) (w : World) (h : k29.K w x mc.toList) (g : k31.K w y rc.toList) (hr : Reach29 x) (hy : Reach31 y) :
    Calls Try.prog 13 #[.agg mc, .agg rc] w fun e w' => ∃ xc : Array Value, e = .returned (.agg xc) ∧ xc.size = 21 ∧ k29.K w' (joinG x y) xc.toList ∧ Below w.heap.size w w' := by
  rw [joinG_is]
  obtain ⟨A16, c16, A19, c19, A20, c20, e, l16, g16, l19, g19, l20, g20⟩ := k29_open h
  obtain ⟨A3, c3, A4, c4, e', l3, g3, l4, g4⟩ := k31_open g
  have em : mc = _ := Array.toList_inj.1 e
  have er : rc = _ := Array.toList_inj.1 e'
  have hj := join_all (x.f15.length + x.f19.length + y.f4.length + 3) x.f0 x.f1 x.f2 x.f3 x.f4 x.f5 x.f6 x.f7 x.f8 x.f9 x.f10 x.f11 x.f12 x.f13 x.f14.f0 x.f14.f1 x.f15 x.f16 x.f17 x.f18 x.f19 y.f0 y.f1 y.f2 y.f3 y.f4 _ _ _ hr.h15 hr.d15 (by omega) hr.h18 hr.h19 hr.d19 (by omega) hy.h3 hy.h4 hy.d4 (by omega) (known_is _ _) (known_is _ _) (or_is _ _)
  rw [em, er]
  refine (residue_Join.calls _ x.f0 x.f1 x.f2 x.f3 x.f4 x.f5 x.f6 x.f7 x.f8 x.f9 x.f10 x.f11 x.f12 x.f13 x.f14.f0 x.f14.f1 A16 c16 x.f15 x.f16 x.f17 A19 c19 x.f18 A20 c20 x.f19 y.f0 y.f1 y.f2 A3 c3 y.f3 A4 c4 y.f4 _ _ _ _ _ _ _ _ _ _ _ _ _ _ _ _ _ _ _ _ _ w g16 l16 g19 l19 g20 l20 g3 l3 g4 l4 hj).mono ?_
  rintro e w' ⟨v16, v19, v20, rfl, r16, r19, r20, hb⟩
  obtain ⟨B16, d16, rfl, m16, n16⟩ := R_C (Kd.S_R r16)
  obtain ⟨B19, d19, rfl, m19, n19⟩ := R_C r19
  obtain ⟨B20, d20, rfl, m20, n20⟩ := R_C (Kd.S_R r20)
  exact ⟨_, rfl, rfl, k29_mk w' (joinK x y) m16 n16 m19 n19 m20 n20, hb⟩
theorem residue_x (y : S31) (mc nc : Array Value) (w : World) (h : k31.K w y mc.toList) (g : k31.K w y nc.toList) : Calls Try.prog 12 #[.agg mc, .agg nc] w fun e w' => e = .returned (.bool true) ∧ Below w.heap.size w w' := by
  obtain ⟨A3, c3, A4, c4, e, l3, g3, l4, g4⟩ := k31_open h
  obtain ⟨B3, d3, B4, d4, e', m3, n3, m4, n4⟩ := k31_open g
  have em : mc = _ := Array.toList_inj.1 e
  have en : nc = _ := Array.toList_inj.1 e'
  rw [em, en]
  exact comptoirhelp_Residue.calls y.f0 y.f1 y.f2 A3 c3 y.f3 A4 c4 y.f4 y.f0 y.f1 y.f2 B3 d3 y.f3 B4 d4 y.f4 true w g3 l3 g4 l4 n3 m3 n4 m4 (by unfold comptoirhelp_Residue.f; simp)
/-- Is nothing in it? -/
def emptyB (y : S31) : Bool := decide (y.f0.size + y.f1.size + y.f2.size + y.f3.length + y.f4.length = 0)
theorem empty15_x (y : S31) (rc : Array Value) (w : World) (h : k31.K w y rc.toList) (hs : y.f0.size + y.f1.size + y.f2.size + y.f3.length + y.f4.length ≤ 9223372036854775807) : Calls Try.prog 15 #[.agg rc] w fun e w' => e = .returned (.bool (emptyB y)) ∧ Below w.heap.size w w' := by
  obtain ⟨A3, c3, A4, c4, e, l3, g3, l4, g4⟩ := k31_open h
  have em : rc = _ := Array.toList_inj.1 e
  rw [em]
  exact residue_Empty.calls y.f0 y.f1 y.f2 A3 c3 y.f3 A4 c4 y.f4 _ w g3 l3 g4 l4 (by unfold residue_Empty.f; rw [if_pos hs]; rfl)
theorem size_of_toList (s : ByteArray) : s.toList.length = s.size := by rw [ByteArray.toList_eq]; rfl
theorem toList_iff (s : ByteArray) : s.toList = [] ↔ s.size = 0 := by
  rw [← size_of_toList]; exact List.length_eq_zero_iff.symm
theorem empty16_is (y : S31) : comptoirref16_Empty.f y.f0 y.f1 y.f2 y.f3 y.f4 = some (emptyB y) := by
  unfold comptoirref16_Empty.f emptyB
  simp only [toList_iff]
  by_cases h0 : y.f0.size = 0
  · rw [if_pos h0]
    by_cases h1 : y.f1.size = 0
    · rw [if_pos h1]
      by_cases h2 : y.f2.size = 0
      · rw [if_pos h2]
        by_cases h3 : (y.f3.length : Int) = 0
        · rw [if_pos h3]
          congr 1
          rw [Bool.eq_iff_iff, beq_iff_eq, decide_eq_true_eq]
          omega
        · rw [if_neg h3, decide_eq_false (by omega)]
      · rw [if_neg h2, decide_eq_false (by omega)]
    · rw [if_neg h1, decide_eq_false (by omega)]
  · rw [if_neg h0, decide_eq_false (by omega)]
theorem empty16_x (y : S31) (rc : Array Value) (w : World) (h : k31.K w y rc.toList) : Calls Try.prog 16 #[.agg rc] w fun e w' => e = .returned (.bool (emptyB y)) ∧ Below w.heap.size w w' := by
  obtain ⟨A3, c3, A4, c4, e, l3, g3, l4, g4⟩ := k31_open h
  have em : rc = _ := Array.toList_inj.1 e
  rw [em]
  exact (comptoirref16_Empty.calls y.f0 y.f1 y.f2 A3 c3 y.f3 A4 c4 y.f4 _ w g3 l3 g4 l4 (empty16_is y)).mono fun e w' h => h
end Go.Proofs.Ythapknnppabdaaa.MR
