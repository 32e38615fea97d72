/- ResidueElse's calls over whole messages: Small, Join, Message, by what a message's cells say. -/
import Derived.Test.YthapknnppabdaaaHSmallP
import Derived.Test.YthapknnppabdaaaMRx18
import Derived.Test.YthapknnppabdaaaHElse
import Derived.Test.YthapknnppabdaaaHMsg
namespace Go.Proofs.Ythapknnppabdaaa.MR
open Go.RowKit Go.Proofs.YthapknnppabdaaaW.PrintWords Go.Proofs.YthapknnppabdaaaW.PrintLast Go.Proofs.YthapknnppabdaaaW.PrintMore
set_option linter.unusedVariables false
set_option linter.unusedSimpArgs false

theorem R_C {α : Type} {d : Kd α} {e : Nat} {w : World} {base : Nat} {ok : Nat → Prop} {v : Value} {xs : List α} (h : Kd.R d e w base ok v xs) : ∃ A c, v = .slice A xs.length c ∧ xs.length ≤ c ∧ d.C w A xs.length xs := by
  obtain ⟨_, ho⟩ := h
  obtain ⟨A, c, e1, e2, e3⟩ := ho.reads
  exact ⟨A, c, e1, e2, ReadsRow.imp_ e3 (Below.refl _ _) (fun p c hp => d.K_of_M hp)⟩
/-- What every message that came in is: its lists within the reach. -/
structure Reach29 (x : S29) : Prop where
  h15 : x.f15.length ≤ 4398046511104
  d15 : ∀ t ∈ x.f15, t.f1.length ≤ 140737488355328
  h18 : x.f18.length ≤ 4398046511104
  h19 : x.f19.length ≤ 4398046511104
  d19 : ∀ t ∈ x.f19, t.f1.length ≤ 140737488355328
structure Reach31 (y : S31) : Prop where
  h3 : y.f3.length ≤ 4398046511104
  h4 : y.f4.length ≤ 4398046511104
  d4 : ∀ t ∈ y.f4, t.f1.length ≤ 140737488355328
theorem small_x (x : S29) (mc : Array Value) (w : World) (h : k29.K w x mc.toList) (hr : Reach29 x) : Calls Try.prog 7 #[.agg mc] w fun e w' => ∃ b, e = .returned (.bool b) ∧ Below w.heap.size w w' := by
  obtain ⟨A16, c16, A19, c19, A20, c20, e, l16, g16, l19, g19, l20, g20⟩ := k29_open h
  obtain ⟨b, hb⟩ := small_tells x.f0 x.f1 x.f2 x.f3 x.f4 x.f5 x.f6 x.f7 x.f8 x.f9 x.f10 x.f11 x.f12 x.f13 x.f14.f0 x.f14.f1 x.f15 x.f16 x.f17 x.f18 x.f19 hr.h15 hr.h18 hr.h19 (x.f15.length + x.f18.length + x.f19.length + 3) (by omega)
  have em : mc = _ := Array.toList_inj.1 e
  rw [em]
  exact (comptoirplay_Small.calls _ x.f0 x.f1 x.f2 x.f3 x.f4 x.f5 x.f6 x.f7 x.f8 x.f9 x.f10 x.f11 x.f12 x.f13 x.f14.f0 x.f14.f1 A16 c16 x.f15 x.f16 x.f17 A19 c19 x.f18 A20 c20 x.f19 b w g16 l16 g19 l19 g20 l20 hb).mono fun e w' h => ⟨b, h.1, h.2⟩
/-- A message without a merchant and a terminal, joined. -/
def joinE (x : S29) (y : S31) : S29 := { x with f17 := (if y.f0.toList = [] then x.f17 else y.f0), f18 := (if y.f3.length > 0 then y.f3 else x.f18), f19 := (if y.f4.length > 0 then y.f4 else x.f19) }
theorem empty_list : (⟨#[]⟩ : ByteArray).toList = [] := by rw [ByteArray.toList_eq]
theorem join_x (x : S29) (y : S31) (mc rc : Array Value) (w : World) (h : k29.K w x mc.toList) (g : k31.K w y rc.toList) (hr : Reach29 x) (hy : Reach31 y) (e8 : x.f8 = ⟨#[]⟩) (e9 : x.f9 = ⟨#[]⟩) :
    Calls Try.prog 13 #[.agg mc, .agg rc] w fun e w' => ∃ xc : Array Value, e = .returned (.agg xc) ∧ xc.size = 21 ∧ k29.K w' (joinE x y) xc.toList ∧ Below w.heap.size w w' := by
  obtain ⟨A16, c16, A19, c19, A20, c20, e, l16, g16, l19, g19, l20, g20⟩ := k29_open h
  obtain ⟨A3, c3, A4, c4, e', l3, g3, l4, g4⟩ := k31_open g
  have em : mc = _ := Array.toList_inj.1 e
  have er : rc = _ := Array.toList_inj.1 e'
  have hk : residue_known.f x.f8 y.f1 = some ⟨#[]⟩ := by unfold residue_known.f; rw [e8, if_pos empty_list]
  have hk2 : residue_known.f x.f9 y.f2 = some ⟨#[]⟩ := by unfold residue_known.f; rw [e9, if_pos empty_list]
  have ho : residue_or.f y.f0 x.f17 = some (if y.f0.toList = [] then x.f17 else y.f0) := by unfold residue_or.f; split <;> rfl
  have hj := join_all (x.f15.length + x.f19.length + y.f4.length + 3) x.f0 x.f1 x.f2 x.f3 x.f4 x.f5 x.f6 x.f7 x.f8 x.f9 x.f10 x.f11 x.f12 x.f13 x.f14.f0 x.f14.f1 x.f15 x.f16 x.f17 x.f18 x.f19 y.f0 y.f1 y.f2 y.f3 y.f4 ⟨#[]⟩ ⟨#[]⟩ _ hr.h15 hr.d15 (by omega) hr.h18 hr.h19 hr.d19 (by omega) hy.h3 hy.h4 hy.d4 (by omega) hk hk2 ho
  rw [em, er]
  refine (residue_Join.calls _ x.f0 x.f1 x.f2 x.f3 x.f4 x.f5 x.f6 x.f7 x.f8 x.f9 x.f10 x.f11 x.f12 x.f13 x.f14.f0 x.f14.f1 A16 c16 x.f15 x.f16 x.f17 A19 c19 x.f18 A20 c20 x.f19 y.f0 y.f1 y.f2 A3 c3 y.f3 A4 c4 y.f4 _ _ _ _ _ _ _ _ _ _ _ _ _ _ _ _ _ _ _ _ _ w g16 l16 g19 l19 g20 l20 g3 l3 g4 l4 hj).mono ?_
  rintro e w' ⟨v16, v19, v20, rfl, r16, r19, r20, hb⟩
  obtain ⟨B16, d16, rfl, m16, n16⟩ := R_C (Kd.S_R r16)
  obtain ⟨B19, d19, rfl, m19, n19⟩ := R_C r19
  obtain ⟨B20, d20, rfl, m20, n20⟩ := R_C (Kd.S_R r20)
  refine ⟨_, rfl, rfl, ?_, hb⟩
  have := k29_mk w' (joinE x y) m16 n16 m19 n19 m20 n20
  rw [show (joinE x y).f8 = ⟨#[]⟩ from e8, show (joinE x y).f9 = ⟨#[]⟩ from e9] at this
  exact this
theorem message_x (x : S29) (mc nc : Array Value) (w : World) (h : k29.K w x mc.toList) (g : k29.K w x nc.toList) : Calls Try.prog 11 #[.agg mc, .agg nc] w fun e w' => e = .returned (.bool true) ∧ Below w.heap.size w w' := by
  obtain ⟨A16, c16, A19, c19, A20, c20, e, l16, g16, l19, g19, l20, g20⟩ := k29_open h
  obtain ⟨B16, d16, B19, d19, B20, d20, e', m16, n16, m19, n19, m20, n20⟩ := k29_open g
  have em : mc = _ := Array.toList_inj.1 e
  have en : nc = _ := Array.toList_inj.1 e'
  rw [em, en]
  exact comptoirhelp_Message.calls x.f0 x.f1 x.f2 x.f3 x.f4 x.f5 x.f6 x.f7 x.f8 x.f9 x.f10 x.f11 x.f12 x.f13 x.f14.f0 x.f14.f1 A16 c16 x.f15 x.f16 x.f17 A19 c19 x.f18 A20 c20 x.f19 x.f0 x.f1 x.f2 x.f3 x.f4 x.f5 x.f6 x.f7 x.f8 x.f9 x.f10 x.f11 x.f12 x.f13 x.f14.f0 x.f14.f1 B16 d16 x.f15 x.f16 x.f17 B19 d19 x.f18 B20 d20 x.f19 true w g16 l16 g19 l19 g20 l20 n16 m16 n19 m19 n20 m20 (by unfold comptoirhelp_Message.f; simp)
theorem own_nil (k : Nat) (a0 a1 : Int) (a2 a3 a4 a5 : ByteArray) (a6 : Int) (a7 a8 a9 a10 : ByteArray) (a11 : Int) (a12 a13 : ByteArray) (a14 : Int) (a15 a17 a18 : ByteArray) :
    residue_own.f (k + 1) a0 a1 a2 a3 a4 a5 a6 a7 a8 a9 a10 a11 a12 a13 a14 a15 [] a17 a18 [] [] = some (a0, a1, a2, a3, a4, a5, a6, a7, a8, a9, a10, a11, a12, a13, a14, a15, [], a17, a18, [], []) :=
  own_is (k + 1) a0 a1 a2 a3 a4 a5 a6 a7 a8 a9 a10 a11 a12 a13 a14 a15 [] a17 a18 [] [] (by simp) (by simp) (by simp) (by simp) (by simp) (by simp) (by simp)
theorem awake_tell (k : Nat) : comptoirlaw19_awake.f (k + 2) = some true := by
  unfold comptoirlaw19_awake.f residue_Split.f residue_Join.f
  rw [own_nil]
  kernel_rfl
theorem awake_x (w : World) : Calls Try.prog 8 #[] w fun e w' => e = .returned (.bool true) ∧ Below w.heap.size w w' := comptoirlaw19_awake.calls 2 true w (awake_tell 0)
end Go.Proofs.Ythapknnppabdaaa.MR
