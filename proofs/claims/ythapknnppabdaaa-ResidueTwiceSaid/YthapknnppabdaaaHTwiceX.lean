import Derived.Test.YthapknnppabdaaaHSmallP
import Derived.Test.YthapknnppabdaaaHMsg
import Derived.Test.YthapknnppabdaaaHEmpty
import Derived.Test.YthapknnppabdaaaHAll
import Derived.Test.YthapknnppabdaaaMRx16
import Derived.Test.YthapknnppabdaaaHPlayL
/- ResidueTwice's calls over whole messages. -/
namespace Go.Proofs.Ythapknnppabdaaa.MR
open Go.RowKit Go.Proofs.YthapknnppabdaaaW.PrintWords Go.Proofs.YthapknnppabdaaaW.PrintLast Go.Proofs.YthapknnppabdaaaW.PrintMore
set_option linter.unusedVariables false
set_option linter.unusedSimpArgs false

def quest : ByteArray := ⟨#[63]⟩
def noText : ByteArray := ⟨#[]⟩
/-- Is a label taken out? (A: what says whether a bitmap may say it.) -/
def outB (A : ByteArray → Int → Bool) (s : ByteArray) (n : Int) : Bool := (s.toList != []) && !(A s n)
def spM (A : ByteArray → Int → Bool) (x : S29) (side : Int) : S29 :=
  if side = 0 then { x with f19 := [] } else if side = 1 then { x with f17 := noText, f18 := [], f8 := (if outB A x.f8 15 = true then quest else x.f8), f9 := (if outB A x.f9 8 = true then quest else x.f9) } else x
def spR (A : ByteArray → Int → Bool) (x : S29) (side : Int) : S31 :=
  if side = 0 then ⟨noText, noText, noText, [], x.f19⟩ else if side = 1 then ⟨x.f17, (if outB A x.f8 15 = true then x.f8 else noText), (if outB A x.f9 8 = true then x.f9 else noText), x.f18, []⟩ else ⟨noText, noText, noText, [], []⟩
def ansB (s : ByteArray) (n : Int) : Bool := decide (1 ≤ (s.size : Int)) && decide ((s.size : Int) ≤ n) && allB s [(32, 126)]
theorem text_ans_is (s : ByteArray) (n : Int) (hs : s.size ≤ 9223372036854775807) : text_Ans.f s n = some (ansB s n) := by
  unfold text_Ans.f ansB
  rw [if_pos hs]
theorem label_all (s : ByteArray) (n : Int) (hs : s.size ≤ 9223372036854775807) : residue_label.f s n = some ((if outB ansB s n = true then quest else s), (if outB ansB s n = true then s else noText)) := by
  unfold residue_label.f outB
  rw [text_ans_is s n hs]
  by_cases h : s.toList = []
  · rw [if_pos h]
    have : (s.toList != []) = false := bne_eq_false_iff_eq.mpr h
    rw [this]; rfl
  · rw [if_neg h, Option.bind_some]
    have : (s.toList != []) = true := bne_iff_ne.mpr h
    rw [this]
    cases ansB s n <;> rfl
theorem R_C {α : Type} {d : Kd α} {e : Nat} {w : World} {base : Nat} {ok : Nat → Prop} {v : Value} {xs : List α} (h : Kd.R d e w base ok v xs) : ∃ A c, v = .slice A xs.length c ∧ xs.length ≤ c ∧ d.C w A xs.length xs := by
  obtain ⟨_, ho⟩ := h
  obtain ⟨A, c, e1, e2, e3⟩ := ho.reads
  exact ⟨A, c, e1, e2, ReadsRow.imp_ e3 (Below.refl _ _) (fun p c hp => d.K_of_M hp)⟩
/-- What every message that came in is: its lists within the reach. -/
structure Reach29 (x : S29) : Prop where
  h15 : x.f15.length ≤ 4398046511104
  d15 : ∀ t ∈ x.f15, t.f1.length ≤ 140737488355328
  h18 : x.f18.length ≤ 4398046511104
  h19 : x.f19.length ≤ 4398046511104
  d19 : ∀ t ∈ x.f19, t.f1.length ≤ 140737488355328
theorem small_x (x : S29) (mc : Array Value) (w : World) (h : k29.K w x mc.toList) (hr : Reach29 x) : Calls Try.prog 7 #[.agg mc] w fun e w' => ∃ b, e = .returned (.bool b) ∧ Below w.heap.size w w' := by
  obtain ⟨A16, c16, A19, c19, A20, c20, e, l16, g16, l19, g19, l20, g20⟩ := k29_open h
  obtain ⟨b, hb⟩ := small_tells x.f0 x.f1 x.f2 x.f3 x.f4 x.f5 x.f6 x.f7 x.f8 x.f9 x.f10 x.f11 x.f12 x.f13 x.f14.f0 x.f14.f1 x.f15 x.f16 x.f17 x.f18 x.f19 hr.h15 hr.h18 hr.h19 (x.f15.length + x.f18.length + x.f19.length + 3) (by omega)
  have em : mc = _ := Array.toList_inj.1 e
  rw [em]
  exact (comptoirplay_Small.calls _ x.f0 x.f1 x.f2 x.f3 x.f4 x.f5 x.f6 x.f7 x.f8 x.f9 x.f10 x.f11 x.f12 x.f13 x.f14.f0 x.f14.f1 A16 c16 x.f15 x.f16 x.f17 A19 c19 x.f18 A20 c20 x.f19 b w g16 l16 g19 l19 g20 l20 hb).mono fun e w' h => ⟨b, h.1, h.2⟩
theorem message_x (x : S29) (mc nc : Array Value) (w : World) (h : k29.K w x mc.toList) (g : k29.K w x nc.toList) : Calls Try.prog 11 #[.agg mc, .agg nc] w fun e w' => e = .returned (.bool true) ∧ Below w.heap.size w w' := by
  obtain ⟨A16, c16, A19, c19, A20, c20, e, l16, g16, l19, g19, l20, g20⟩ := k29_open h
  obtain ⟨B16, d16, B19, d19, B20, d20, e', m16, n16, m19, n19, m20, n20⟩ := k29_open g
  have em : mc = _ := Array.toList_inj.1 e
  have en : nc = _ := Array.toList_inj.1 e'
  rw [em, en]
  exact comptoirhelp_Message.calls x.f0 x.f1 x.f2 x.f3 x.f4 x.f5 x.f6 x.f7 x.f8 x.f9 x.f10 x.f11 x.f12 x.f13 x.f14.f0 x.f14.f1 A16 c16 x.f15 x.f16 x.f17 A19 c19 x.f18 A20 c20 x.f19 x.f0 x.f1 x.f2 x.f3 x.f4 x.f5 x.f6 x.f7 x.f8 x.f9 x.f10 x.f11 x.f12 x.f13 x.f14.f0 x.f14.f1 B16 d16 x.f15 x.f16 x.f17 B19 d19 x.f18 B20 d20 x.f19 true w g16 l16 g19 l19 g20 l20 n16 m16 n19 m19 n20 m20 (by unfold comptoirhelp_Message.f; simp)
set_option maxRecDepth 10000 in
theorem split_all (k : Nat) (x : S29) (side : Int) (hr : Reach29 x) (k15 : x.f15.length < k) (k19 : x.f19.length < k) (h8 : x.f8.size ≤ 140737488355328) (h9 : x.f9.size ≤ 140737488355328) :
    residue_Split.f k x.f0 x.f1 x.f2 x.f3 x.f4 x.f5 x.f6 x.f7 x.f8 x.f9 x.f10 x.f11 x.f12 x.f13 x.f14.f0 x.f14.f1 x.f15 x.f16 x.f17 x.f18 x.f19 side = some ((spM ansB x side).f0, (spM ansB x side).f1, (spM ansB x side).f2, (spM ansB x side).f3, (spM ansB x side).f4, (spM ansB x side).f5, (spM ansB x side).f6, (spM ansB x side).f7, (spM ansB x side).f8, (spM ansB x side).f9, (spM ansB x side).f10, (spM ansB x side).f11, (spM ansB x side).f12, (spM ansB x side).f13, (spM ansB x side).f14.f0, (spM ansB x side).f14.f1, (spM ansB x side).f15, (spM ansB x side).f16, (spM ansB x side).f17, (spM ansB x side).f18, (spM ansB x side).f19, (spR ansB x side).f0, (spR ansB x side).f1, (spR ansB x side).f2, (spR ansB x side).f3, (spR ansB x side).f4) := by
  unfold residue_Split.f
  rw [own_is k x.f0 x.f1 x.f2 x.f3 x.f4 x.f5 x.f6 x.f7 x.f8 x.f9 x.f10 x.f11 x.f12 x.f13 x.f14.f0 x.f14.f1 x.f15 x.f16 x.f17 x.f18 x.f19 hr.h15 hr.d15 k15 hr.h18 hr.h19 hr.d19 k19, Option.bind_some]
  unfold spM spR
  by_cases s0 : side = 0
  · simp only [if_pos s0]
    rfl
  · simp only [if_neg s0]
    by_cases s1 : side = 1
    · simp only [if_pos s1]
      rw [label_all _ _ (by omega), Option.bind_some, label_all _ _ (by omega), Option.bind_some]
      rfl
    · simp only [if_neg s1]
      rfl
theorem split9_x (x : S29) (side : Int) (mc : Array Value) (w : World) (h : k29.K w x mc.toList) (hr : Reach29 x) (h8 : x.f8.size ≤ 140737488355328) (h9 : x.f9.size ≤ 140737488355328) :
    Calls Try.prog 9 #[.agg mc, .int .i64 side] w fun e w' => ∃ nc rc : Array Value, e = .returned (.tuple #[.agg nc, .agg rc]) ∧ nc.size = 21 ∧ rc.size = 5 ∧ k29.K w' (spM ansB x side) nc.toList ∧ k31.K w' (spR ansB x side) rc.toList ∧ Below w.heap.size w w' := by
  obtain ⟨A16, c16, A19, c19, A20, c20, e, l16, g16, l19, g19, l20, g20⟩ := k29_open h
  have em : mc = _ := Array.toList_inj.1 e
  have hs := split_all (x.f15.length + x.f19.length + 3) x side hr (by omega) (by omega) h8 h9
  rw [em]
  refine (residue_Split.calls _ x.f0 x.f1 x.f2 x.f3 x.f4 x.f5 x.f6 x.f7 x.f8 x.f9 x.f10 x.f11 x.f12 x.f13 x.f14.f0 x.f14.f1 A16 c16 x.f15 x.f16 x.f17 A19 c19 x.f18 A20 c20 x.f19 side _ _ _ _ _ _ _ _ _ _ _ _ _ _ _ _ _ _ _ _ _ _ _ _ _ _ w g16 l16 g19 l19 g20 l20 hs).mono ?_
  rintro e w' ⟨v16, v19, v20, v24, v25, rfl, r16, r19, r20, r24, r25, hb⟩
  obtain ⟨B16, d16, rfl, m16, n16⟩ := R_C (Kd.S_R r16)
  obtain ⟨B19, d19, rfl, m19, n19⟩ := R_C r19
  obtain ⟨B20, d20, rfl, m20, n20⟩ := R_C (Kd.S_R r20)
  obtain ⟨B24, d24, rfl, m24, n24⟩ := R_C r24
  obtain ⟨B25, d25, rfl, m25, n25⟩ := R_C (Kd.S_R r25)
  exact ⟨_, _, rfl, rfl, rfl, k29_mk w' (spM ansB x side) m16 n16 m19 n19 m20 n20, k31_mk w' (spR ansB x side) m24 n24 m25 n25, hb⟩
/-- Is nothing in it? -/
def emptyB (y : S31) : Bool := decide (y.f0.size + y.f1.size + y.f2.size + y.f3.length + y.f4.length = 0)
theorem empty15_x (y : S31) (rc : Array Value) (w : World) (h : k31.K w y rc.toList) (hs : y.f0.size + y.f1.size + y.f2.size + y.f3.length + y.f4.length ≤ 9223372036854775807) : Calls Try.prog 15 #[.agg rc] w fun e w' => e = .returned (.bool (emptyB y)) ∧ Below w.heap.size w w' := by
  obtain ⟨A3, c3, A4, c4, e, l3, g3, l4, g4⟩ := k31_open h
  have em : rc = _ := Array.toList_inj.1 e
  rw [em]
  exact residue_Empty.calls y.f0 y.f1 y.f2 A3 c3 y.f3 A4 c4 y.f4 _ w g3 l3 g4 l4 (by unfold residue_Empty.f; rw [if_pos hs]; rfl)
def T13_2 : Bool × List (List Nat × List Nat) := (true, [([], []), ([0], [0]), ([], []), ([2], [2]), ([1, 3], [1, 3]), ([], []), ([5], [5]), ([], []), ([7], [7]), ([6, 8, 4], [6, 8]), ([], []), ([10], [10]), ([], []), ([12], [12]), ([11, 13, 9], [11, 13]), ([0, 1, 2, 3, 4, 5, 6, 10, 11], []), ([15, 4, 14, 0, 1, 2, 3, 4, 5, 6, 10, 11], [4, 15]), ([0, 1, 2, 3, 4, 5, 6, 7, 8, 9, 10, 11, 15, 16], []), ([17, 9, 16, 0, 1, 2, 3, 4, 5, 6, 7, 8, 9, 10, 11, 15, 16], [9, 17]), ([0, 1, 2, 3, 4, 5, 6, 7, 8, 9, 10, 11, 12, 13, 14, 15, 16, 17, 18], []), ([19, 14, 18, 0, 1, 2, 3, 4, 5, 6, 7, 8, 9, 10, 11, 12, 13, 14, 15, 16, 17, 18], [14, 19])])
def B13_2 : List Nat := [0, 1, 0, 4, 15, 0, 32, 0, 128, 511, 0, 1024, 0, 4096, 16383, 3199, 65535, 131071, 262143, 524287, 1048575]
theorem tab13_2 : rtab .any (opsOf Try.f13 2) = T13_2 := by kernel_rfl
theorem bits13_2 : waitsOk T13_2.2 B13_2 = true := by kernel_rfl
theorem rowM_one3 (x : S29) {v16 v19 v20 : Value} (h : v16.oneCell' = true) (h9 : v19.oneCell' = true) (h0 : v20.oneCell' = true) : (rowM x v16 v19 v20).all (·.oneCell') = true := by
  rw [← Array.all_toList]
  simp only [rowM, List.all_cons, List.all_nil, h, h9, h0]
  rfl
def pickN (a b : ByteArray) : ByteArray := if a.toList = [] then b else a
structure JN (w : World) (p : Nat) (mc rc : Array Value) (W : World) : Prop where
  b : W.heap[p]? = some (.cells mc 29 (0, 0))
  r : W.heap[p + 1]? = some (.cells rc 31 (0, 0))
  o : ∃ old, W.heap[p + 2]? = some (.cells old 29 (0, 0)) ∧ old.size = 21
  bel : Below w.heap.size w W
  lo : w.heap.size ≤ p
theorem JN.below {w : World} {p : Nat} {mc rc : Array Value} {W W' : World} (h : JN w p mc rc W) (hb : Below W.heap.size W W') : JN w p mc rc W' := by
  obtain ⟨old, ho, hs⟩ := h.o
  exact ⟨blk_below h.b hb, blk_below h.r hb, ⟨old, blk_below ho hb, hs⟩, below_step h.bel hb, h.lo⟩
theorem JN.set {w : World} {p : Nat} {mc mc' rc : Array Value} {W : World} (h : JN w p mc rc W) (i : Nat) (v : Value) (hr : mc.setIfInBounds i v = mc') : JN w p mc' rc (W.setCell ⟨p, i, none⟩ v) := by
  obtain ⟨old, ho, hs⟩ := h.o
  have f : ∀ n, (W.setCell ⟨p, i, none⟩ v).heap[p + (n + 1)]? = W.heap[p + (n + 1)]? := fun n => Below.heap_setCell _ _ _ _ (by show p + (n + 1) ≠ p; omega)
  exact ⟨by rw [← hr]; exact blk_set h.b _ _, (f 0).trans h.r, ⟨old, (f 1).trans ho, hs⟩, below_set h.bel h.lo, h.lo⟩
theorem jn_start (w : World) (mc rc z : Array Value) (hz : z.size = 21) : JN w w.heap.size mc rc (((w.alloc (.cells mc 29)).alloc (.cells rc 31)).alloc (.cells z 29)) := by
  refine ⟨blk_alloc (blk_alloc (blk_new w _) _) _, blk_alloc (blk_new2 w _ _) _, ⟨z, ?_, hz⟩, below_alloc (below_alloc (below_alloc (Below.refl _ w) _) _) _, Nat.le_refl _⟩
  have := blk_new ((w.alloc (.cells mc 29)).alloc (.cells rc 31)) (.cells z 29)
  rw [show ((w.alloc (.cells mc 29)).alloc (.cells rc 31)).heap.size = w.heap.size + 2 by simp] at this
  exact this
set_option maxHeartbeats 8000000 in
set_option maxRecDepth 100000 in
theorem join_note (x : S29) (y : S31) (mc rc : Array Value) (w : World) (h : k29.K w x mc.toList) (g : k31.K w y rc.toList) (hr : Reach29 x) (e8 : x.f8 = ⟨#[]⟩) (e9 : x.f9 = ⟨#[]⟩) (y1 : y.f1 = ⟨#[]⟩) (y2 : y.f2 = ⟨#[]⟩) (y3 : y.f3 = []) (y4 : y.f4 = []) :
    Calls Try.prog 13 #[.agg mc, .agg rc] w fun e w' => ∃ (z : S29) (v16 v19 v20 : Value), e = .returned (.agg (rowM z v16 v19 v20)) ∧ z.f17 = pickN y.f0 x.f17 ∧ Below w.heap.size w w' := by
  have hu29 := Aside0.mk Try.underlying29
  have hu31 := Aside0.mk Try.underlying31
  obtain ⟨A16, c16, A19, c19, A20, c20, e, l16, g16, l19, g19, l20, g20⟩ := k29_open h
  obtain ⟨A3, c3, A4, c4, e', l3, g3, l4, g4⟩ := k31_open g
  have em : mc = rowM x (.slice A16 x.f15.length c16) (.slice A19 x.f18.length c19) (.slice A20 x.f19.length c20) := Array.toList_inj.1 e
  have er : rc = #[.string y.f0, .string y.f1, .string y.f2, .slice A3 y.f3.length c3, .slice A4 y.f4.length c4] := Array.toList_inj.1 e'
  have HEM := Aside0.mk em
  have HER := Aside0.mk er
  have HOWN : Aside0 (∀ W, Below w.heap.size w W → Calls Try.prog 23 #[.agg mc] W fun e w' => ∃ v16 v19 v20 : Value, e = .returned (.agg (rowM x v16 v19 v20)) ∧ (v16.oneCell' = true ∧ v19.oneCell' = true ∧ v20.oneCell' = true) ∧ Below W.heap.size W w') := ⟨fun W hB => by
    have ho := own_is (x.f15.length + x.f19.length + 3) x.f0 x.f1 x.f2 x.f3 x.f4 x.f5 x.f6 x.f7 x.f8 x.f9 x.f10 x.f11 x.f12 x.f13 x.f14.f0 x.f14.f1 x.f15 x.f16 x.f17 x.f18 x.f19 hr.h15 hr.d15 (by omega) hr.h18 hr.h19 hr.d19 (by omega)
    rw [em]
    refine (residue_own.calls _ x.f0 x.f1 x.f2 x.f3 x.f4 x.f5 x.f6 x.f7 x.f8 x.f9 x.f10 x.f11 x.f12 x.f13 x.f14.f0 x.f14.f1 A16 c16 x.f15 x.f16 x.f17 A19 c19 x.f18 A20 c20 x.f19 _ _ _ _ _ _ _ _ _ _ _ _ _ _ _ _ _ _ _ _ _ W (Kd.C_below g16 hB) l16 (Kd.C_below g19 hB) l19 (Kd.C_below g20 hB) l20 ho).mono ?_
    rintro e w' ⟨v16, v19, v20, rfl, r16, r19, r20, hb⟩
    obtain ⟨B16, d16, rfl, _, _⟩ := R_C (Kd.S_R r16)
    obtain ⟨B19, d19, rfl, _, _⟩ := R_C r19
    obtain ⟨B20, d20, rfl, _, _⟩ := R_C (Kd.S_R r20)
    exact ⟨_, _, _, rfl, ⟨rfl, rfl, rfl⟩, hb⟩⟩
  have HPX : Aside0 (∀ W, Below w.heap.size w W → Calls Try.prog 29 #[.agg rc] W fun e w' => e = .returned (.int .i64 0) ∧ Below W.heap.size W w') := ⟨fun W hB => by
    rw [er]
    exact residue_part_extra.calls y.f0 y.f1 y.f2 A3 c3 y.f3 A4 c4 y.f4 0 W (Kd.C_below g3 hB) l3 (Kd.C_below g4 hB) l4 (by rw [show residue_part_extra.f y.f0 y.f1 y.f2 y.f3 y.f4 = some (y.f3.length : Int) from rfl, y3]; rfl)⟩
  have HPO : Aside0 (∀ W, Below w.heap.size w W → Calls Try.prog 31 #[.agg rc] W fun e w' => e = .returned (.int .i64 0) ∧ Below W.heap.size W w') := ⟨fun W hB => by
    rw [er]
    exact residue_part_other.calls y.f0 y.f1 y.f2 A3 c3 y.f3 A4 c4 y.f4 0 W (Kd.C_below g3 hB) l3 (Kd.C_below g4 hB) l4 (by rw [show residue_part_other.f y.f0 y.f1 y.f2 y.f3 y.f4 = some (y.f4.length : Int) from rfl, y4]; rfl)⟩
  have HE := Aside0.mk (And.intro e8 (And.intro e9 (And.intro y1 y2)))
  clear e e' l16 g16 l19 g19 l20 g20 l3 g3 l4 g4 h g hr e8 e9 y1 y2 y3 y4 em er
  go_enter Try.func13, Try.ntmps13
  go_upto_region 1 with fail
  obtain ⟨p, hp⟩ : ∃ p, p = w.heap.size := ⟨_, rfl⟩
  have J0 := jn_start w mc rc zeroM rfl
  rw [← hp] at J0 ⊢
  clear hp
  revert J0
  change JN w p mc rc (((w.alloc (.cells mc 29)).alloc (.cells rc 31)).alloc (.cells zeroM 29)) → Code.wp _ _ _ _ (((w.alloc (.cells mc 29)).alloc (.cells rc 31)).alloc (.cells zeroM 29))
  generalize (((w.alloc (.cells mc 29)).alloc (.cells rc 31)).alloc (.cells zeroM 29)) = W0
  intro J0
  replace J0 := Aside0.mk J0
  go_wp2_with ((with_reducible refine gate_dst (N := 5) rfl ?_); refine wpList_load_row rfl 29 (.tmp 2) rfl p rfl 29 mc (0, 0) _ J0.out.b hu29.out rfl (by rw [HEM.out]; kernel_rfl) ?_)
  refine (HOWN.out _ J0.out.bel).mono ?_
  rintro e w1 ⟨v16, v19, v20, rfl, hv, hB⟩
  have J1 := Aside0.mk (J0.out.below hB)
  have HV := Aside0.mk hv
  clear hB J0 hv
  go_upto_region 2 with ((with_reducible refine gate_store (t := 29) (p := 2) rfl ?_); refine Go.Proofs.Ythapknnppabdaaa.Fill.store_event rfl 29 _ _ rfl p (rowM x v16 v19 v20) rfl rfl 29 mc J1.out.b (by kernel_rfl) (by rw [HEM.out]; rfl) (rowM_one3 x HV.out.1 HV.out.2.1 HV.out.2.2) ?_; intro w2 ea eb ec; have HS := Aside0.mk (And.intro ea (And.intro eb ec)); clear ea eb ec)
  have J2 : Aside0 (JN w p (rowM x v16 v19 v20) rc w2) := ⟨by obtain ⟨old, ho, hs⟩ := J1.out.o; exact ⟨HS.out.1, KeepBut.blk HS.out.2.1 J1.out.r (by omega) (by simp), ⟨old, KeepBut.blk HS.out.2.1 ho (by omega) (by simp), hs⟩, HS.out.2.2 _ _ J1.out.bel J1.out.lo, J1.out.lo⟩⟩
  clear HS J1
  have JD := Aside0.mk (J2.out.below (below_drew1 (Below.refl _ _))); clear J2
  refine start_ (n := 21) (ds := []) (S := fun w' => w'.cell? ⟨p + 1, 0, none⟩ = some (.string y.f0) ∧ w'.cell? ⟨p + 1, 1, none⟩ = some (.string ⟨#[]⟩) ∧ w'.cell? ⟨p + 1, 2, none⟩ = some (.string ⟨#[]⟩) ∧ w'.cell? ⟨p, 8, none⟩ = some (.string ⟨#[]⟩) ∧ w'.cell? ⟨p, 9, none⟩ = some (.string ⟨#[]⟩)) (V 21 0) (by rfl) (by rfl) (by kernel_rfl) (⟨(blk_cell JD.out.r 0).trans (by rw [HER.out]; rfl), (blk_cell JD.out.r 1).trans (by rw [HER.out, HE.out.2.2.1]; rfl), (blk_cell JD.out.r 2).trans (by rw [HER.out, HE.out.2.2.2]; rfl), (blk_cell JD.out.b 8).trans (by show some (Value.string x.f8) = _; rw [HE.out.1]), (blk_cell JD.out.b 9).trans (by show some (Value.string x.f9) = _; rw [HE.out.2.1])⟩) (fun hHeld => ?_); refine with_tabW tab13_2 bits13_2 (fun HT_ HW_ => ?_)
  generalize w2.drew = wd at JD hHeld ⊢
  refine pure_ (i := 0) (N := some 7) (v := ?_) (a' := ?_) (V 21 1) rfl rfl (any_of HT_.out (by kernel_rfl)) (fun _ _ _ h => h) (Or.inl ⟨by rfl, ?_⟩) ?_ ?_; rotate_left
  · intro w'; go_simp; with_reducible rfl
  rotate_left
  · simp only [Act.put, List.setIfInBounds_toArray, List.set_cons_zero, List.set_cons_succ, i64_w, i32_w]; rfl
  refine take_ (i := 1) (N := some 8) (v := ?_) (a' := ?_) (V 21 3) rfl rfl (take_ofW HT_.out HW_.out (by kernel_rfl)) (fun _ _ _ h => h) (Or.inl ⟨by rfl, ?_⟩) hHeld ?_ ?_; rotate_left
  · rintro w' ⟨s0, s1, s2, s3, s4⟩; go_simp; with_reducible rfl
  rotate_left
  · simp only [Act.put, List.setIfInBounds_toArray, List.set_cons_zero, List.set_cons_succ, i64_w, i32_w]; rfl
  refine pure_ (i := 2) (N := some 9) (v := ?_) (a' := ?_) (V 21 7) rfl rfl (any_of HT_.out (by kernel_rfl)) (fun _ _ _ h => h) (Or.inl ⟨by rfl, ?_⟩) ?_ ?_; rotate_left
  · intro w'; go_simp; with_reducible rfl
  rotate_left
  · simp only [Act.put, List.setIfInBounds_toArray, List.set_cons_zero, List.set_cons_succ, i64_w, i32_w]; rfl
  refine pure_ (i := 5) (N := some 12) (v := ?_) (a' := ?_) (V 21 39) rfl rfl (any_of HT_.out (by kernel_rfl)) (fun _ _ _ h => h) (Or.inl ⟨by rfl, ?_⟩) ?_ ?_; rotate_left
  · intro w'; go_simp; with_reducible rfl
  rotate_left
  · simp only [Act.put, List.setIfInBounds_toArray, List.set_cons_zero, List.set_cons_succ, i64_w, i32_w]; rfl
  refine take_ (i := 6) (N := some 13) (v := ?_) (a' := ?_) (V 21 103) rfl rfl (take_ofW HT_.out HW_.out (by kernel_rfl)) (fun _ _ _ h => h) (Or.inl ⟨by rfl, ?_⟩) hHeld ?_ ?_; rotate_left
  · rintro w' ⟨s0, s1, s2, s3, s4⟩; go_simp; with_reducible rfl
  rotate_left
  · simp only [Act.put, List.setIfInBounds_toArray, List.set_cons_zero, List.set_cons_succ, i64_w, i32_w]; rfl
  refine pure_ (i := 7) (N := some 14) (v := ?_) (a' := ?_) (V 21 231) rfl rfl (any_of HT_.out (by kernel_rfl)) (fun _ _ _ h => h) (Or.inl ⟨by rfl, ?_⟩) ?_ ?_; rotate_left
  · intro w'; go_simp; with_reducible rfl
  rotate_left
  · simp only [Act.put, List.setIfInBounds_toArray, List.set_cons_zero, List.set_cons_succ, i64_w, i32_w]; rfl
  refine take_ (i := 8) (N := some 15) (v := ?_) (a' := ?_) (V 21 487) rfl rfl (take_ofW HT_.out HW_.out (by kernel_rfl)) (fun _ _ _ h => h) (Or.inl ⟨by rfl, ?_⟩) hHeld ?_ ?_; rotate_left
  · rintro w' ⟨s0, s1, s2, s3, s4⟩; go_simp; with_reducible rfl
  rotate_left
  · simp only [Act.put, List.setIfInBounds_toArray, List.set_cons_zero, List.set_cons_succ, i64_w, i32_w]; rfl
  refine pure_ (i := 10) (N := some 17) (v := ?_) (a' := ?_) (V 21 1511) rfl rfl (any_of HT_.out (by kernel_rfl)) (fun _ _ _ h => h) (Or.inl ⟨by rfl, ?_⟩) ?_ ?_; rotate_left
  · intro w'; go_simp; with_reducible rfl
  rotate_left
  · simp only [Act.put, List.setIfInBounds_toArray, List.set_cons_zero, List.set_cons_succ, i64_w, i32_w]; rfl
  refine take_ (i := 11) (N := some 18) (v := ?_) (a' := ?_) (V 21 3559) rfl rfl (take_ofW HT_.out HW_.out (by kernel_rfl)) (fun _ _ _ h => h) (Or.inl ⟨by rfl, ?_⟩) hHeld ?_ ?_; rotate_left
  · rintro w' ⟨s0, s1, s2, s3, s4⟩; go_simp; with_reducible rfl
  rotate_left
  · simp only [Act.put, List.setIfInBounds_toArray, List.set_cons_zero, List.set_cons_succ, i64_w, i32_w]; rfl
  refine pure_ (i := 12) (N := some 19) (v := ?_) (a' := ?_) (V 21 7655) rfl rfl (any_of HT_.out (by kernel_rfl)) (fun _ _ _ h => h) (Or.inl ⟨by rfl, ?_⟩) ?_ ?_; rotate_left
  · intro w'; go_simp; with_reducible rfl
  rotate_left
  · simp only [Act.put, List.setIfInBounds_toArray, List.set_cons_zero, List.set_cons_succ, i64_w, i32_w]; rfl
  refine take_ (i := 13) (N := some 20) (v := ?_) (a' := ?_) (V 21 15847) rfl rfl (take_ofW HT_.out HW_.out (by kernel_rfl)) (fun _ _ _ h => h) (Or.inl ⟨by rfl, ?_⟩) hHeld ?_ ?_; rotate_left
  · rintro w' ⟨s0, s1, s2, s3, s4⟩; go_simp; with_reducible rfl
  rotate_left
  · simp only [Act.put, List.setIfInBounds_toArray, List.set_cons_zero, List.set_cons_succ, i64_w, i32_w]; rfl
  have d18 : wd.cell? ⟨p, 18, none⟩ = some (.string x.f17) := (blk_cell JD.out.b 18).trans rfl
  refine one_ (i := 3) (N := some 10) (V 21 15855) rfl rfl (one_of HT_.out (by kernel_rfl)) (by decide) (fun K hK => ?_)
  refine value_ (w1 := ?_) (v := ?_) (by rfl) rfl ?_ ?_; rotate_left 2
  · go_simp
    constructor
    · rfl
    · rfl
  refine hK.out _ _ (⟨(blk_cell JD.out.r 0).trans (by rw [HER.out]; rfl), (blk_cell JD.out.r 1).trans (by rw [HER.out, HE.out.2.2.1]; rfl), (blk_cell JD.out.r 2).trans (by rw [HER.out, HE.out.2.2.2]; rfl), (blk_cell JD.out.b 8).trans (by show some (Value.string x.f8) = _; rw [HE.out.1]), (blk_cell JD.out.b 9).trans (by show some (Value.string x.f9) = _; rw [HE.out.2.1])⟩) (fun hHeld => ?_)
  clear hK K
  refine norm_ (a' := ?_) ?_ ?_; rotate_left
  · show Act.put _ (some 10) _ = _; simp only [Act.put, List.setIfInBounds_toArray, List.set_cons_zero, List.set_cons_succ, i64_w, i32_w]; rfl
  clear d18
  refine one_ (i := 4) (N := some 11) (V 21 15871) rfl rfl (one_of HT_.out (by kernel_rfl)) (by decide) (fun K hK => ?_)
  refine goes_ Try.func27 (by kernel_rfl) rfl #[.string y.f0, .string x.f17] (by rfl) rfl rfl (by (try simp only [List.map_toArray, List.map_cons, List.map_nil]); first | done | rfl) ?_
  with_reducible refine (residue_or.calls y.f0 x.f17 (pickN y.f0 x.f17) _ (by unfold residue_or.f pickN; split <;> rfl)).mono ?_
  rintro e w104 ⟨rfl, hd⟩
  refine ⟨_, rfl, ?_⟩
  have JX := Aside0.mk (JD.out.below hd.below); clear JD hHeld hd; have JD := JX; clear JX
  refine hK.out _ _ (⟨(blk_cell JD.out.r 0).trans (by rw [HER.out]; rfl), (blk_cell JD.out.r 1).trans (by rw [HER.out, HE.out.2.2.1]; rfl), (blk_cell JD.out.r 2).trans (by rw [HER.out, HE.out.2.2.2]; rfl), (blk_cell JD.out.b 8).trans (by show some (Value.string x.f8) = _; rw [HE.out.1]), (blk_cell JD.out.b 9).trans (by show some (Value.string x.f9) = _; rw [HE.out.2.1])⟩) (fun hHeld => ?_)
  clear hK K
  refine norm_ (a' := ?_) ?_ ?_; rotate_left
  · show Act.put _ (some 11) _ = _; simp only [Act.put, List.setIfInBounds_toArray, List.set_cons_zero, List.set_cons_succ, i64_w, i32_w]; rfl
  refine pure_ (i := 15) (N := some 22) (v := ?_) (a' := ?_) (V 21 48639) rfl rfl (any_of HT_.out (by kernel_rfl)) (fun _ _ _ h => h) (Or.inl ⟨by rfl, ?_⟩) ?_ ?_; rotate_left
  · intro w'; go_simp; with_reducible rfl
  rotate_left
  · simp only [Act.put, List.setIfInBounds_toArray, List.set_cons_zero, List.set_cons_succ, i64_w, i32_w]; rfl
  refine one_ (i := 9) (N := some 16) (V 21 49151) rfl rfl (one_of HT_.out (by kernel_rfl)) (by decide) (fun K hK => ?_)
  refine goes_ Try.func28 (by kernel_rfl) rfl #[.string ⟨#[]⟩, .string ⟨#[]⟩] (by rfl) rfl rfl (by (try simp only [List.map_toArray, List.map_cons, List.map_nil]); first | done | rfl) ?_
  with_reducible refine (residue_known.calls ⟨#[]⟩ ⟨#[]⟩ ⟨#[]⟩ _ (by unfold residue_known.f; rw [if_pos (by rw [ByteArray.toList_eq])])).mono ?_
  rintro e w109 ⟨rfl, hd⟩
  refine ⟨_, rfl, ?_⟩
  have JX := Aside0.mk (JD.out.below hd.below); clear JD hHeld hd; have JD := JX; clear JX
  refine hK.out _ _ (⟨(blk_cell JD.out.r 0).trans (by rw [HER.out]; rfl), (blk_cell JD.out.r 1).trans (by rw [HER.out, HE.out.2.2.1]; rfl), (blk_cell JD.out.r 2).trans (by rw [HER.out, HE.out.2.2.2]; rfl), (blk_cell JD.out.b 8).trans (by show some (Value.string x.f8) = _; rw [HE.out.1]), (blk_cell JD.out.b 9).trans (by show some (Value.string x.f9) = _; rw [HE.out.2.1])⟩) (fun hHeld => ?_)
  clear hK K
  refine norm_ (a' := ?_) ?_ ?_; rotate_left
  · show Act.put _ (some 16) _ = _; simp only [Act.put, List.setIfInBounds_toArray, List.set_cons_zero, List.set_cons_succ, i64_w, i32_w]; rfl
  refine one_ (i := 14) (N := some 21) (V 21 65535) rfl rfl (one_of HT_.out (by kernel_rfl)) (by decide) (fun K hK => ?_)
  refine goes_ Try.func28 (by kernel_rfl) rfl #[.string ⟨#[]⟩, .string ⟨#[]⟩] (by rfl) rfl rfl (by (try simp only [List.map_toArray, List.map_cons, List.map_nil]); first | done | rfl) ?_
  with_reducible refine (residue_known.calls ⟨#[]⟩ ⟨#[]⟩ ⟨#[]⟩ _ (by unfold residue_known.f; rw [if_pos (by rw [ByteArray.toList_eq])])).mono ?_
  rintro e w114 ⟨rfl, hd⟩
  refine ⟨_, rfl, ?_⟩
  have JX := Aside0.mk (JD.out.below hd.below); clear JD hHeld hd; have JD := JX; clear JX
  refine hK.out _ _ (⟨(blk_cell JD.out.r 0).trans (by rw [HER.out]; rfl), (blk_cell JD.out.r 1).trans (by rw [HER.out, HE.out.2.2.1]; rfl), (blk_cell JD.out.r 2).trans (by rw [HER.out, HE.out.2.2.2]; rfl), (blk_cell JD.out.b 8).trans (by show some (Value.string x.f8) = _; rw [HE.out.1]), (blk_cell JD.out.b 9).trans (by show some (Value.string x.f9) = _; rw [HE.out.2.1])⟩) (fun hHeld => ?_)
  clear hK K
  refine norm_ (a' := ?_) ?_ ?_; rotate_left
  · show Act.put _ (some 21) _ = _; simp only [Act.put, List.setIfInBounds_toArray, List.set_cons_zero, List.set_cons_succ, i64_w, i32_w]; rfl
  have dq := (blk_cell JD.out.b 18).trans (show _ = some (Value.string x.f17) from rfl); have zq := blk_frozen JD.out.b 18
  refine one_ (i := 16) (N := none) (V 21 131071) rfl rfl (one_of HT_.out (by kernel_rfl)) (by decide) (fun K hK => ?_)
  refine skip_ (w1 := ?_) (by rfl) rfl ?_ ?_; rotate_left
  · go_simp
    rfl
  have JX := Aside0.mk (JN.set (mc' := rowM { x with f17 := pickN y.f0 x.f17 } v16 v19 v20) JD.out 18 (.string (pickN y.f0 x.f17)) rfl); clear JD hHeld dq zq; have JD := JX; clear JX
  refine hK.out _ _ (⟨(blk_cell JD.out.r 0).trans (by rw [HER.out]; rfl), (blk_cell JD.out.r 1).trans (by rw [HER.out, HE.out.2.2.1]; rfl), (blk_cell JD.out.r 2).trans (by rw [HER.out, HE.out.2.2.2]; rfl), (blk_cell JD.out.b 8).trans (by show some (Value.string x.f8) = _; rw [HE.out.1]), (blk_cell JD.out.b 9).trans (by show some (Value.string x.f9) = _; rw [HE.out.2.1])⟩) (fun hHeld => ?_)
  clear hK K
  refine pure_ (i := 17) (N := some 23) (v := ?_) (a' := ?_) (V 21 262143) rfl rfl (any_of HT_.out (by kernel_rfl)) (fun _ _ _ h => h) (Or.inl ⟨by rfl, ?_⟩) ?_ ?_; rotate_left
  · intro w'; go_simp; with_reducible rfl
  rotate_left
  · simp only [Act.put, List.setIfInBounds_toArray, List.set_cons_zero, List.set_cons_succ, i64_w, i32_w]; rfl
  have dq := (blk_cell JD.out.b 8).trans (show _ = some (Value.string x.f8) from rfl); have zq := blk_frozen JD.out.b 8
  refine one_ (i := 18) (N := none) (V 21 524287) rfl rfl (one_of HT_.out (by kernel_rfl)) (by decide) (fun K hK => ?_)
  refine skip_ (w1 := ?_) (by rfl) rfl ?_ ?_; rotate_left
  · go_simp
    rfl
  have JX := Aside0.mk (JN.set (mc' := rowM { x with f17 := pickN y.f0 x.f17, f8 := ⟨#[]⟩ } v16 v19 v20) JD.out 8 (.string ⟨#[]⟩) rfl); clear JD hHeld dq zq; have JD := JX; clear JX
  refine hK.out _ _ (⟨(blk_cell JD.out.r 0).trans (by rw [HER.out]; rfl), (blk_cell JD.out.r 1).trans (by rw [HER.out, HE.out.2.2.1]; rfl), (blk_cell JD.out.r 2).trans (by rw [HER.out, HE.out.2.2.2]; rfl), (blk_cell JD.out.b 8).trans rfl, (blk_cell JD.out.b 9).trans (by show some (Value.string x.f9) = _; rw [HE.out.2.1])⟩) (fun hHeld => ?_)
  clear hK K
  refine pure_ (i := 19) (N := some 24) (v := ?_) (a' := ?_) (V 21 1048575) rfl rfl (any_of HT_.out (by kernel_rfl)) (fun _ _ _ h => h) (Or.inl ⟨by rfl, ?_⟩) ?_ ?_; rotate_left
  · intro w'; go_simp; with_reducible rfl
  rotate_left
  · simp only [Act.put, List.setIfInBounds_toArray, List.set_cons_zero, List.set_cons_succ, i64_w, i32_w]; rfl
  have dq := (blk_cell JD.out.b 9).trans (show _ = some (Value.string x.f9) from rfl); have zq := blk_frozen JD.out.b 9
  refine one_ (i := 20) (N := none) (V 21 2097151) rfl rfl (one_of HT_.out (by kernel_rfl)) (by decide) (fun K hK => ?_)
  refine skip_ (w1 := ?_) (by rfl) rfl ?_ ?_; rotate_left
  · go_simp
    rfl
  have JX := Aside0.mk (JN.set (mc' := rowM { x with f17 := pickN y.f0 x.f17, f8 := ⟨#[]⟩, f9 := ⟨#[]⟩ } v16 v19 v20) JD.out 9 (.string ⟨#[]⟩) rfl); clear JD hHeld dq zq; have JD := JX; clear JX
  refine hK.out _ _ (⟨(blk_cell JD.out.r 0).trans (by rw [HER.out]; rfl), (blk_cell JD.out.r 1).trans (by rw [HER.out, HE.out.2.2.1]; rfl), (blk_cell JD.out.r 2).trans (by rw [HER.out, HE.out.2.2.2]; rfl), (blk_cell JD.out.b 8).trans rfl, (blk_cell JD.out.b 9).trans rfl⟩) (fun hHeld => ?_)
  clear hK K
  refine done_ (done_of HT_.out (by kernel_rfl)) ?_
  clear hHeld HT_ HW_
  go_upto_region 3 with fail
  obtain ⟨z, hz⟩ : ∃ z, z = rowM { x with f17 := pickN y.f0 x.f17, f8 := ⟨#[]⟩, f9 := ⟨#[]⟩ } v16 v19 v20 := ⟨_, rfl⟩
  rw [← hz] at JD
  have HZ := Aside0.mk hz
  clear hz
  go_wp2_with ((with_reducible refine gate_dst (N := 25) rfl ?_); refine wpList_load_row rfl 31 (.tmp 3) rfl (p + 1) rfl 31 rc (0, 0) _ JD.out.r hu31.out rfl (by rw [HER.out]; kernel_rfl) ?_)
  refine (HPX.out _ JD.out.bel).mono ?_
  rintro e w4 ⟨rfl, hB⟩
  have J4 := Aside0.mk (JD.out.below hB)
  clear hB JD
  go_wp2_with ((with_reducible refine gate_dst (N := 32) rfl ?_); refine wpList_load_row rfl 31 (.tmp 3) rfl (p + 1) rfl 31 rc (0, 0) _ J4.out.r hu31.out rfl (by rw [HER.out]; kernel_rfl) ?_)
  refine (HPO.out _ J4.out.bel).mono ?_
  rintro e w5 ⟨rfl, hB⟩
  have J5 := Aside0.mk (J4.out.below hB)
  clear hB J4
  obtain ⟨old, ho, hs⟩ := J5.out.o
  have HOLD := Aside0.mk (And.intro ho hs)
  clear ho hs
  go_wp2_with (first | ((with_reducible refine gate_dst (N := 39) rfl ?_); refine wpList_load_row rfl 29 (.tmp 2) rfl p rfl 29 z (0, 0) _ J5.out.b hu29.out rfl (by rw [HZ.out]; kernel_rfl) ?_) | ((with_reducible refine gate_store (t := 29) (p := 4) rfl ?_); refine Go.Proofs.Ythapknnppabdaaa.Fill.store_event rfl 29 _ _ rfl (p + 1 + 1) z rfl rfl 29 old HOLD.out.1 (by rw [HZ.out]; kernel_rfl) (by rw [HOLD.out.2, HZ.out]; rfl) (by rw [HZ.out]; exact rowM_one3 _ HV.out.1 HV.out.2.1 HV.out.2.2) ?_; intro w9 ea eb ec; have HF := Aside0.mk (And.intro ea (And.intro eb ec)); clear ea eb ec))
  refine bodyPost_ret (results_cell_row (fn := Try.f13) (p := 4) (ty := 29) (by rfl) _ _ (p + 1 + 1) 29 z (0, 0) _ (by rfl) HF.out.1 hu29.out rfl (by rw [HZ.out]; kernel_rfl)) rfl ?_
  exact ⟨{ x with f17 := pickN y.f0 x.f17, f8 := ⟨#[]⟩, f9 := ⟨#[]⟩ }, v16, v19, v20, by rw [HZ.out], rfl, HF.out.2.2 _ _ J5.out.bel (by have := J5.out.lo; omega)⟩
end Go.Proofs.Ythapknnppabdaaa.MR

/- ResidueTwice: awake, by hand. -/
namespace Go.Proofs.Ythapknnppabdaaa.MR
open Go.RowKit Go.Proofs.YthapknnppabdaaaW.PrintWords Go.Proofs.YthapknnppabdaaaW.PrintLast Go.Proofs.YthapknnppabdaaaW.PrintMore
set_option linter.unusedVariables false
set_option linter.unusedSimpArgs false

def noteM : S29 := ⟨0, 0, ⟨#[]⟩, ⟨#[]⟩, ⟨#[]⟩, ⟨#[]⟩, 0, ⟨#[]⟩, ⟨#[]⟩, ⟨#[]⟩, ⟨#[]⟩, 0, ⟨#[]⟩, ⟨#[]⟩, ⟨0, ⟨#[]⟩⟩, [], ⟨#[]⟩, ⟨#[110]⟩, [], []⟩
theorem nil_C {α : Type} (d : Kd α) (w : World) : d.C w none 0 [] := ⟨rfl, by omega, fun h => absurd h (by omega)⟩
theorem noteM_K (w : World) : k29.K w noteM (rowM noteM (.slice none 0 0) (.slice none 0 0) (.slice none 0 0)).toList := k29_mk w noteM (Nat.le_refl _) (nil_C _ _) (Nat.le_refl _) (nil_C _ _) (Nat.le_refl _) (nil_C _ _)
theorem noteM_R : Reach29 noteM := ⟨by decide, by simp [noteM], by decide, by decide, by simp [noteM]⟩
theorem out_nil (n : Int) : outB ansB ⟨#[]⟩ n = false := by
  unfold outB
  rw [show (⟨#[]⟩ : ByteArray).toList = [] by rw [ByteArray.toList_eq]]
  rfl
theorem note_spM : spM ansB noteM 1 = { noteM with f17 := noText } := by
  unfold spM
  rw [if_neg (by decide), if_pos rfl]
  show ({ noteM with f17 := noText, f18 := [], f8 := (if outB ansB ⟨#[]⟩ 15 = true then quest else ⟨#[]⟩), f9 := (if outB ansB ⟨#[]⟩ 8 = true then quest else ⟨#[]⟩) } : S29) = _
  rw [out_nil, out_nil]
  rfl
theorem note_spR : spR ansB noteM 1 = ⟨⟨#[110]⟩, noText, noText, [], []⟩ := by
  unfold spR
  rw [if_neg (by decide), if_pos rfl]
  show (⟨⟨#[110]⟩, (if outB ansB ⟨#[]⟩ 15 = true then ⟨#[]⟩ else noText), (if outB ansB ⟨#[]⟩ 8 = true then ⟨#[]⟩ else noText), [], []⟩ : S31) = _
  rw [out_nil, out_nil]
  rfl
theorem blk_one (w : World) (v v' : Obj) : ((w.alloc v).alloc v').heap[w.heap.size]? = some v := blk_alloc (blk_new w v) v'
set_option maxHeartbeats 8000000 in
set_option maxRecDepth 100000 in
theorem awake_x (w : World) : Calls Try.prog 8 #[] w fun e w' => e = .returned (.bool true) ∧ Below w.heap.size w w' := by
  have hu29 := Aside0.mk Try.underlying29
  have hu31 := Aside0.mk Try.underlying31
  have HSP := Aside0.mk (split9_x noteM 1 (rowM noteM (.slice none 0 0) (.slice none 0 0) (.slice none 0 0)) w (noteM_K w) noteM_R (by decide) (by decide))
  go_enter Try.func8, Try.ntmps8
  go_wp2_with fail
  refine HSP.out.mono ?_
  rintro e w1 ⟨nc, rc, rfl, h21, h5, hK, hR, hB⟩
  rw [note_spM] at hK
  rw [note_spR] at hR
  have hi29 : (Try.prog.info? 29).map (·.size) = some nc.size := by rw [h21]; kernel_rfl
  have hi31 : (Try.prog.info? 31).map (·.size) = some rc.size := by rw [h5]; kernel_rfl
  have hone : nc.all (·.oneCell') = true := by
    rw [Array.all_eq_true]
    intro i hlt
    exact k29.K_one hK _ (by rw [Array.mem_toList_iff]; exact Array.getElem_mem hlt)
  have hone' : rc.all (·.oneCell') = true := by
    rw [Array.all_eq_true]
    intro i hlt
    exact k31.K_one hR _ (by rw [Array.mem_toList_iff]; exact Array.getElem_mem hlt)
  have HN := Aside0.mk (And.intro h21 (And.intro h5 (And.intro hi29 (And.intro hi31 (And.intro hone hone')))))
  have HK := Aside0.mk (And.intro hK (And.intro hR hB))
  clear h21 h5 hK hR hB hi29 hi31 hone hone'
  go_upto_region 2 with (first | ((with_reducible refine gate_store (t := 29) (p := 1) rfl ?_); refine Go.Proofs.Ythapknnppabdaaa.Fill.store_event rfl 29 _ _ rfl w1.heap.size nc rfl rfl 29 _ (blk_one w1 _ _) HN.out.2.2.1 (by rw [HN.out.1]; rfl) HN.out.2.2.2.2.1 ?_; intro w2 ea eb ec; have HE := Aside0.mk (And.intro ea (And.intro eb ec)); clear ea eb ec) | ((with_reducible refine gate_store (t := 31) (p := 2) rfl ?_); refine Go.Proofs.Ythapknnppabdaaa.Fill.store_event rfl 31 _ _ rfl (w1.heap.size + 1) rc rfl rfl 31 _ (KeepBut.blk HE.out.2.1 (blk_new2 w1 _ _) (by omega) (by simp)) HN.out.2.2.2.1 (by rw [HN.out.2.1]; rfl) HN.out.2.2.2.2.2 ?_; intro w3 ea eb ec; have HG := Aside0.mk (And.intro ea (And.intro eb ec)); clear ea eb ec))
  have hb29 := KeepBut.blk HG.out.2.1 HE.out.1 (by omega) (by simp)
  have hbel := HG.out.2.2 _ _ (HE.out.2.2 _ _ (below_alloc (below_alloc (Below.refl w1.heap.size w1) _) _) (Nat.le_refl _)) (by omega)
  obtain ⟨q, hq⟩ : ∃ q, q = w1.heap.size := ⟨_, rfl⟩
  have HBK := Aside0.mk (And.intro hb29 (And.intro HG.out.1 (And.intro (k29.K_below hbel HK.out.1) (And.intro (k31.K_below hbel HK.out.2.1) (below_step HK.out.2.2 hbel)))))
  rw [← hq] at HBK ⊢
  clear hq hb29 hbel HE HG HK
  obtain ⟨A16, c16, A19, c19, A20, c20, e, l16, g16, l19, g19, l20, g20⟩ := k29_open HBK.out.2.2.1
  obtain ⟨A3, c3, A4, c4, e', l3, g3, l4, g4⟩ := k31_open HBK.out.2.2.2.1
  have em : nc = _ := Array.toList_inj.1 e
  have er : rc = _ := Array.toList_inj.1 e'
  have d18 : w3.cell? ⟨q, 18, none⟩ = some (.string ⟨#[]⟩) := (blk_cell HBK.out.1 18).trans (by rw [em]; rfl)
  have d0 : w3.cell? ⟨q + 1, 0, none⟩ = some (.string ⟨#[110]⟩) := (blk_cell HBK.out.2.1 0).trans (by rw [er]; rfl)
  clear e e' em er l16 g16 l19 g19 l20 g20 l3 g3 l4 g4
  have HEM : Aside0 (Calls Try.prog 15 #[.agg rc] w3 fun e w' => e = .returned (.bool false) ∧ Below w3.heap.size w3 w') := ⟨empty15_x _ rc w3 HBK.out.2.2.2.1 (by decide)⟩
  go_wp2_with ((with_reducible refine gate_dst (N := 17) rfl ?_); (try (refine gate_guard (by rfl) ?_; dsimp only)); refine wpList_load_row rfl 31 (.tmp 2) rfl (q + 1) rfl 31 rc (0, 0) _ HBK.out.2.1 hu31.out rfl HN.out.2.2.2.1 ?_)
  refine HEM.out.mono ?_
  rintro e w4 ⟨rfl, hB⟩
  have HB4 := Aside0.mk (And.intro (blk_below HBK.out.1 hB) (And.intro (blk_below HBK.out.2.1 hB) (And.intro (k29.K_below hB HBK.out.2.2.1) (And.intro (k31.K_below hB HBK.out.2.2.2.1) (below_step HBK.out.2.2.2.2 hB)))))
  clear hB d18 d0 HEM HBK
  go_wp2_with (first | ((with_reducible refine gate_dst (N := 22) rfl ?_); (try (refine gate_guard (by rfl) ?_; dsimp only)); refine wpList_load_row rfl 29 (.tmp 1) rfl q rfl 29 nc (0, 0) _ HB4.out.1 hu29.out rfl HN.out.2.2.1 ?_) | ((with_reducible refine gate_dst (N := 23) rfl ?_); (try (refine gate_guard (by rfl) ?_; dsimp only)); refine wpList_load_row rfl 31 (.tmp 2) rfl (q + 1) rfl 31 rc (0, 0) _ HB4.out.2.1 hu31.out rfl HN.out.2.2.2.1 ?_))
  refine (join_note _ _ nc rc _ HB4.out.2.2.1 HB4.out.2.2.2.1 ⟨by decide, by simp [noteM], by decide, by decide, by simp [noteM]⟩ rfl rfl rfl rfl rfl rfl).mono ?_
  rintro e w5 ⟨z, v16, v19, v20, rfl, h17, hB⟩
  have BE := Aside0.mk (below_step HB4.out.2.2.2.2 hB)
  have hz : z.f17 = ⟨#[110]⟩ := h17.trans (by
    unfold pickN
    rw [if_neg (by rw [ByteArray.toList_eq]; simp)])
  clear hB h17 HB4
  obtain ⟨z0, z1, z2, z3, z4, z5, z6, z7, z8, z9, z10, z11, z12, z13, ⟨z14, z15⟩, z16, z17, z18, z19, z20⟩ := z
  replace hz : z18 = ⟨#[110]⟩ := hz
  subst hz
  have hfd_29_17 : ∀ (v0 v1 v2 v3 v4 v5 v6 v7 v8 v9 v10 v11 v12 v13 v14 v15 v16 v17 v18 v19 v20 : Value) (W : World), (Instr.field 29 (.agg #[v0, v1, v2, v3, v4, v5, v6, v7, v8, v9, v10, v11, v12, v13, v14, v15, v16, v17, v18, v19, v20]) 17).run Try.prog W = .ok v18 W := fun _ _ _ _ _ _ _ _ _ _ _ _ _ _ _ _ _ _ _ _ _ _ => by kernel_rfl
  simp only [rowM]
  go_wp2_with fail
  go_ret
  exact ⟨rfl, BE.out⟩
end Go.Proofs.Ythapknnppabdaaa.MR

/- ResidueTwice walked: split again nothing is left; a side's own message has no residue for it. -/
namespace Go.Proofs.Ythapknnppabdaaa.MR
open Go.RowKit Go.Proofs.YthapknnppabdaaaW.PrintWords Go.Proofs.YthapknnppabdaaaW.PrintLast Go.Proofs.YthapknnppabdaaaW.PrintMore
set_option linter.unusedVariables false
set_option linter.unusedSimpArgs false

theorem info29' : (Try.prog.info? 29).map (·.size) = some 21 := by kernel_rfl
theorem info31' : (Try.prog.info? 31).map (·.size) = some 5 := by kernel_rfl
theorem info29 {w : World} {x : S29} {mc : Array Value} (h : k29.K w x mc.toList) : (Try.prog.info? 29).map (·.size) = some mc.size := by
  have h1 : mc.toList.length = k29.sz := k29.K_len h
  have h2 : k29.sz = 21 := rfl
  rw [h2, Array.length_toList] at h1
  rw [h1]; exact info29'
theorem info31 {w : World} {x : S31} {mc : Array Value} (h : k31.K w x mc.toList) : (Try.prog.info? 31).map (·.size) = some mc.size := by
  have h1 : mc.toList.length = k31.sz := k31.K_len h
  have h2 : k31.sz = 5 := rfl
  rw [h2, Array.length_toList] at h1
  rw [h1]; exact info31'
theorem one29 {w : World} {x : S29} {mc : Array Value} (h : k29.K w x mc.toList) : mc.all (·.oneCell') = true := by
  rw [Array.all_eq_true]
  intro i hlt
  exact k29.K_one h _ (by rw [Array.mem_toList_iff]; exact Array.getElem_mem hlt)
theorem one31 {w : World} {y : S31} {mc : Array Value} (h : k31.K w y mc.toList) : mc.all (·.oneCell') = true := by
  rw [Array.all_eq_true]
  intro i hlt
  exact k31.K_one h _ (by rw [Array.mem_toList_iff]; exact Array.getElem_mem hlt)
theorem blk_new1 (w : World) (v v' : Obj) : ((w.alloc v).alloc v').heap[w.heap.size + 1]? = some v' := by
  have := blk_new (w.alloc v) v'
  rw [show (w.alloc v).heap.size = w.heap.size + 1 by simp] at this
  exact this
theorem two_stored {w4 w5 w6 : World} {z z5 : Obj} {a x : Array Value} (h1 : w5.heap[w4.heap.size]? = some (.cells a 29 (0, 0))) (k1 : KeepBut ((w4.alloc z).alloc z5) w5 w4.heap.size none) (b1 : ∀ B w0, Below B w0 ((w4.alloc z).alloc z5) → B ≤ w4.heap.size → Below B w0 w5)
    (h2 : w6.heap[w4.heap.size + 1]? = some (.cells x 31 (0, 0))) (k2 : KeepBut w5 w6 (w4.heap.size + 1) none) (b2 : ∀ B w0, Below B w0 w5 → B ≤ w4.heap.size + 1 → Below B w0 w6) :
    w6.heap[w4.heap.size]? = some (.cells a 29 (0, 0)) ∧ w6.heap[w4.heap.size + 1]? = some (.cells x 31 (0, 0)) ∧ Below w4.heap.size w4 w6 :=
  ⟨KeepBut.blk k2 h1 (by omega) (by simp), h2, b2 _ _ (b1 _ _ (below_alloc (below_alloc (Below.refl _ w4) _) _) (Nat.le_refl _)) (by omega)⟩
theorem one_stored {w4 w5 : World} {z : Obj} {a : Array Value} (h1 : w5.heap[w4.heap.size]? = some (.cells a 29 (0, 0))) (b1 : ∀ B w0, Below B w0 (w4.alloc z) → B ≤ w4.heap.size → Below B w0 w5) :
    w5.heap[w4.heap.size]? = some (.cells a 29 (0, 0)) ∧ Below w4.heap.size w4 w5 :=
  ⟨h1, b1 _ _ (below_alloc (Below.refl _ w4) _) (Nat.le_refl _)⟩
/-- Messages and residues in their blocks. -/
structure TZ (w0 : World) (ms : List (Nat × S29 × Array Value)) (rs : List (Nat × S31 × Array Value)) (w : World) : Prop where
  m : ∀ b ∈ ms, w.heap[b.1]? = some (.cells b.2.2 29 (0, 0)) ∧ k29.K w b.2.1 b.2.2.toList
  r : ∀ b ∈ rs, w.heap[b.1]? = some (.cells b.2.2 31 (0, 0)) ∧ k31.K w b.2.1 b.2.2.toList
  bel : Below w0.heap.size w0 w
theorem TZ.below {w0 : World} {ms : List (Nat × S29 × Array Value)} {rs : List (Nat × S31 × Array Value)} {w w' : World} (h : TZ w0 ms rs w) (hb : Below w.heap.size w w') : TZ w0 ms rs w' :=
  ⟨fun b h1 => ⟨blk_below (h.m b h1).1 hb, k29.K_below hb (h.m b h1).2⟩, fun b h1 => ⟨blk_below (h.r b h1).1 hb, k31.K_below hb (h.r b h1).2⟩, below_step h.bel hb⟩
theorem TZ.addm {w0 : World} {ms : List (Nat × S29 × Array Value)} {rs : List (Nat × S31 × Array Value)} {w : World} (h : TZ w0 ms rs w) {q : Nat} {x : S29} {mc : Array Value} (h1 : w.heap[q]? = some (.cells mc 29 (0, 0))) (h2 : k29.K w x mc.toList) : TZ w0 ((q, x, mc) :: ms) rs w :=
  ⟨fun b hb => (List.mem_cons.1 hb).elim (fun e => by subst e; exact ⟨h1, h2⟩) (h.m b), h.r, h.bel⟩
theorem TZ.addr {w0 : World} {ms : List (Nat × S29 × Array Value)} {rs : List (Nat × S31 × Array Value)} {w : World} (h : TZ w0 ms rs w) {q : Nat} {x : S31} {mc : Array Value} (h1 : w.heap[q]? = some (.cells mc 31 (0, 0))) (h2 : k31.K w x mc.toList) : TZ w0 ms ((q, x, mc) :: rs) w :=
  ⟨h.m, fun b hb => (List.mem_cons.1 hb).elim (fun e => by subst e; exact ⟨h1, h2⟩) (h.r b), h.bel⟩
theorem side_x (v : Int) (w : World) : Calls Try.prog 17 #[.int .i64 v] w fun e w' => ∃ s : Int, e = .returned (.int .i64 s) ∧ (s = 0 ∨ s = 1) ∧ Below w.heap.size w w' := by
  have HM := Aside0.mk (mod_x v 2 w (by decide) (by decide))
  go_enter Try.func17, Try.ntmps17
  go_wp2_with fail
  refine HM.out.mono ?_
  rintro e w1 ⟨r, rfl, hr, hB⟩
  have HR := Aside0.mk (And.intro hr hB)
  clear hr hB
  go_wp2_with fail
  go_ret
  exact ⟨r, rfl, by have := HR.out.1; unfold InMod at this; omega, HR.out.2⟩
theorem msgk_x (x : S29) (side : Int) (mc : Array Value) (w : World) (h : k29.K w x mc.toList) (hx : MsgIn x) : Calls Try.prog 18 #[.agg mc, .int .i64 side] w fun e w' => ∃ (z : S29) (oc : Array Value), e = .returned (.agg oc) ∧ MsgOf side z ∧ k29.K w' z oc.toList ∧ Below w.heap.size w w' := by
  obtain ⟨A16, c16, A19, c19, A20, c20, e, l16, g16, l19, g19, l20, g20⟩ := k29_open h
  have em : mc = rowM x (.slice A16 x.f15.length c16) (.slice A19 x.f18.length c19) (.slice A20 x.f19.length c20) := Array.toList_inj.1 e
  rw [em]
  refine (msg_x x side A16 c16 A19 c19 A20 c20 w hx l16 g16 l19 g19 l20 g20).mono ?_
  rintro e w' ⟨z, B16, d16, B19, d19, B20, d20, rfl, hz, m16, n16, m19, n19, m20, n20, hb⟩
  exact ⟨z, _, rfl, hz, k29_mk w' z m16 n16 m19 n19 m20 n20, hb⟩
theorem quest_out (n : Int) (hn : 1 ≤ n) : outB ansB quest n = false := by
  have : ansB quest n = true := by
    unfold ansB
    rw [show (quest.size : Int) = 1 from rfl, show allB quest [(32, 126)] = true by decide +kernel]
    simp [hn]
  unfold outB
  rw [this]; simp
theorem half_out (b : ByteArray) (n : Int) (hn : 1 ≤ n) : outB ansB (if outB ansB b n = true then quest else b) n = false := by
  cases h : outB ansB b n with
  | true => rw [if_pos rfl]; exact quest_out n hn
  | false => rw [if_neg (by decide)]; exact h
theorem twice_M (x : S29) (s : Int) : spM ansB (spM ansB x s) s = spM ansB x s := by
  unfold spM
  by_cases s0 : s = 0
  · simp only [if_pos s0]
  · by_cases s1 : s = 1
    · simp only [if_neg s0, if_pos s1]
      rw [half_out _ _ (by decide), half_out _ _ (by decide)]
      rfl
    · simp only [if_neg s0, if_neg s1]
theorem twice_R (x : S29) (s : Int) : emptyB (spR ansB (spM ansB x s) s) = true := by
  unfold spR spM
  by_cases s0 : s = 0
  · simp only [if_pos s0]; rfl
  · by_cases s1 : s = 1
    · simp only [if_neg s0, if_pos s1]
      rw [half_out _ _ (by decide), half_out _ _ (by decide)]
      rfl
    · simp only [if_neg s0, if_neg s1]; rfl
theorem own_out {b : ByteArray} {n : Int} (h : b.size = 0 ∨ ((b.size : Int) ≤ n ∧ Signs b)) : outB ansB b n = false := by
  have e : b.toList = b.data.toList := ByteArray.toList_eq b
  have e2 : b.size = b.data.toList.length := rfl
  unfold outB
  rw [e]
  by_cases hz : b.data.toList = []
  · rw [hz]; rfl
  · have hp : 1 ≤ b.size := by
      rw [e2]
      rcases hl : b.data.toList with _ | ⟨y, l⟩
      · exact absurd hl hz
      · simp
    rcases h with h | ⟨h1, h2⟩
    · omega
    · have ha : allB b [(32, 126)] = true := by
        unfold allB
        rw [List.all_eq_true]
        intro y hy
        obtain ⟨h3, h4⟩ := h2 y hy
        have h5 : decide ((32 : Int) ≤ (y.toNat : Int)) = true := decide_eq_true (by omega)
        have h6 : decide ((y.toNat : Int) ≤ 126) = true := decide_eq_true (by omega)
        simp [anyB, inB, h5, h6]
      have : ansB b n = true := by
        unfold ansB
        rw [ha, decide_eq_true h1, decide_eq_true (by omega : (1 : Int) ≤ (b.size : Int))]; rfl
      rw [this]; simp
theorem own_M {z : S29} {s : Int} (h : MsgOf s z) (hs : s = 0 ∨ s = 1) : spM ansB z s = z := by
  unfold spM
  rcases hs with rfl | rfl
  · rw [if_pos rfl, ← h.xml rfl]
  · rw [if_neg (by decide), if_pos rfl, own_out (h.b8 rfl), own_out (h.b9 rfl)]
    obtain ⟨h1, h2⟩ := h.bit (by decide)
    show ({ z with f17 := noText, f18 := [] } : S29) = z
    rw [show noText = z.f17 from h1.symm, ← h2]
theorem own_R {z : S29} {s : Int} (h : MsgOf s z) (hs : s = 0 ∨ s = 1) : emptyB (spR ansB z s) = true := by
  unfold spR
  rcases hs with rfl | rfl
  · rw [if_pos rfl, h.xml rfl]; rfl
  · rw [if_neg (by decide), if_pos rfl, own_out (h.b8 rfl), own_out (h.b9 rfl)]
    obtain ⟨h1, h2⟩ := h.bit (by decide)
    rw [h1, h2]; rfl
theorem spM_R {x : S29} {s : Int} (h : Reach29 x) : Reach29 (spM ansB x s) := by
  unfold spM
  by_cases s0 : s = 0
  · simp only [if_pos s0]; exact ⟨h.h15, h.d15, h.h18, by simp, by simp⟩
  · by_cases s1 : s = 1
    · simp only [if_neg s0, if_pos s1]; exact ⟨h.h15, h.d15, by simp, h.h19, h.d19⟩
    · simp only [if_neg s0, if_neg s1]; exact h
theorem spM_S {x : S29} {s : Int} (h8 : x.f8.size ≤ 140737488355328) (h9 : x.f9.size ≤ 140737488355328) : (spM ansB x s).f8.size ≤ 140737488355328 ∧ (spM ansB x s).f9.size ≤ 140737488355328 := by
  have hq : quest.size = 1 := rfl
  unfold spM
  by_cases s0 : s = 0
  · simp only [if_pos s0]; exact ⟨h8, h9⟩
  · by_cases s1 : s = 1
    · simp only [if_neg s0, if_pos s1]
      constructor
      · cases outB ansB x.f8 15 <;> simp only [if_true, if_false, Bool.false_eq_true, reduceIte] <;> omega
      · cases outB ansB x.f9 8 <;> simp only [if_true, if_false, Bool.false_eq_true, reduceIte] <;> omega
    · simp only [if_neg s0, if_neg s1]; exact ⟨h8, h9⟩
theorem empty_size {y : S31} (h : emptyB y = true) : y.f0.size + y.f1.size + y.f2.size + y.f3.length + y.f4.length ≤ 9223372036854775807 := by
  have := of_decide_eq_true h
  omega
theorem own_Reach {z : S29} {s : Int} (h : MsgOf s z) : Reach29 z := by
  have h1 := h.few.1
  have h2 := h.l18
  have h3 := h.l19
  exact ⟨by omega, fun t ht => by have := h.few.2 t ht; omega, by omega, by omega, h.d19⟩
set_option maxHeartbeats 8000000 in
set_option maxRecDepth 100000 in
theorem twice_walk (x : S29) (side : Int) (mc : Array Value) (w : World) (h : k29.K w x mc.toList) (hr : Reach29 x) (hi : MsgIn x) :
    Calls Try.prog 4 #[.agg mc, .int .i64 side] w fun e w' => e = .returned (.bool true) ∧ Below w.heap.size w w' := by
  have hu29 := Aside0.mk Try.underlying29
  have hu31 := Aside0.mk Try.underlying31
  have HI := Aside0.mk (info29 h)
  have HR := Aside0.mk (And.intro hr hi)
  have HK := Aside0.mk h
  clear h hr hi
  go_enter Try.func4, Try.ntmps4
  go_upto_region 1 with fail
  obtain ⟨p, hp⟩ : ∃ p, p = w.heap.size := ⟨_, rfl⟩
  have J0 : TZ w [(w.heap.size, x, mc)] [] (w.alloc (.cells mc 29)) := ⟨fun b hb => by
    rw [List.mem_singleton] at hb
    subst hb
    exact ⟨blk_new w _, k29.K_below (below_alloc (Below.refl _ w) _) HK.out⟩, fun b hb => absurd hb (by simp), below_alloc (Below.refl _ w) _⟩
  rw [← hp] at J0 ⊢; clear hp; revert J0
  generalize (w.alloc _) = W1; intro J0
  replace J0 := Aside0.mk J0
  clear HK
  have HS := Aside0.mk (small_x x mc W1 (J0.out.m _ (List.mem_singleton.2 rfl)).2 HR.out.1)
  go_wp2_with (first | ((with_reducible refine gate_dst (N := 12) rfl ?_); refine wpList_load_row rfl 29 (.tmp 2) rfl p rfl 29 mc (0, 0) _ (J0.out.m _ (List.mem_singleton.2 rfl)).1 hu29.out rfl HI.out ?_))
  refine HS.out.mono ?_
  rintro e w2 ⟨b, rfl, hb⟩
  have J1 := Aside0.mk (J0.out.below hb)
  have HA2 := Aside0.mk (awake_x w2)
  clear hb HS J0
  cases b with
  | false =>
    go_wp2_with fail
    refine HA2.out.mono ?_
    rintro e w3 ⟨rfl, hb⟩
    go_wp2_with fail
    go_ret
    exact ⟨rfl, below_step J1.out.bel hb⟩
  | true =>
    clear HA2
    go_wp2_with fail
    refine (side_x _ _).mono ?_
    rintro e w3 ⟨s, rfl, hs, hb⟩
    have HSD := Aside0.mk hs
    have J2 := Aside0.mk (J1.out.below hb)
    clear hb hs J1
    go_upto_region 4 with fail
    have HS3 := Aside0.mk (split9_x x s mc w3 (J2.out.m (p, x, mc) (by simp)).2 HR.out.1 HR.out.2.s8 HR.out.2.s9)
    go_wp2_with (first | ((with_reducible refine gate_dst (N := 19) rfl ?_); refine wpList_load_row rfl 29 (.tmp 2) rfl p rfl 29 mc (0, 0) _ (J2.out.m (p, x, mc) (by simp)).1 hu29.out rfl HI.out ?_))
    refine HS3.out.mono ?_
    rintro e w34 ⟨ac3, xc3, rfl, ha, hx, hka, hkx, hb⟩
    have hia : (Try.prog.info? 29).map (·.size) = some ac3.size := info29 hka
    have hix : (Try.prog.info? 31).map (·.size) = some xc3.size := info31 hkx
    have hoa : ac3.all (·.oneCell') = true := one29 hka
    have hox : xc3.all (·.oneCell') = true := one31 hkx
    have HQ3 := Aside0.mk (And.intro ha (And.intro hx (And.intro hia (And.intro hix (And.intro hoa hox)))))
    have HKS3 := Aside0.mk (And.intro hka (And.intro hkx hb)); clear ha hx hka hkx hb hia hix hoa hox
    go_upto_region 5 with (first | ((with_reducible refine gate_store (t := 29) (p := 5) rfl ?_); refine Go.Proofs.Ythapknnppabdaaa.Fill.store_event rfl 29 _ _ rfl w34.heap.size ac3 rfl rfl 29 _ (blk_alloc (blk_new w34 _) _) HQ3.out.2.2.1 (by rw [HQ3.out.1]; rfl) HQ3.out.2.2.2.2.1 ?_; intro w35 ea eb ec; have HE3 := Aside0.mk (And.intro ea (And.intro eb ec)); clear ea eb ec) | ((with_reducible refine gate_store (t := 31) (p := 6) rfl ?_); refine Go.Proofs.Ythapknnppabdaaa.Fill.store_event rfl 31 _ _ rfl (w34.heap.size + 1) xc3 rfl rfl 31 _ (KeepBut.blk HE3.out.2.1 (blk_new1 w34 _ _) (by omega) (by simp)) HQ3.out.2.2.2.1 (by rw [HQ3.out.2.1]; rfl) HQ3.out.2.2.2.2.2 ?_; intro w36 ea eb ec; have HG3 := Aside0.mk (And.intro ea (And.intro eb ec)); clear ea eb ec))
    have E := two_stored HE3.out.1 HE3.out.2.1 HE3.out.2.2 HG3.out.1 HG3.out.2.1 HG3.out.2.2
    have bA : Below w3.heap.size w3 w36 := below_step HKS3.out.2.2 E.2.2
    have KA := k29.K_below E.2.2 HKS3.out.1
    have RA := k31.K_below E.2.2 HKS3.out.2.1
    have JN_ := ((J2.out.below bA).addm E.1 KA).addr E.2.1 RA
    have I3 := Aside0.mk (And.intro HQ3.out.2.2.1 HQ3.out.2.2.2.1)
    obtain ⟨q3, hq⟩ : ∃ q, q = w34.heap.size := ⟨_, rfl⟩
    rw [← hq] at JN_ ⊢
    have J3 := Aside0.mk JN_
    clear JN_ KA RA bA E hq HE3 HG3 HKS3 HS3 HQ3 J2
    have HS4 := Aside0.mk (split9_x (spM ansB x s) s ac3 w36 (J3.out.m (q3, (spM ansB x s), ac3) (by simp)).2 (spM_R HR.out.1) (spM_S HR.out.2.s8 HR.out.2.s9).1 (spM_S HR.out.2.s8 HR.out.2.s9).2)
    go_wp2_with (first | ((with_reducible refine gate_dst (N := 25) rfl ?_); refine wpList_load_row rfl 29 (.tmp 5) rfl q3 rfl 29 ac3 (0, 0) _ (J3.out.m (q3, (spM ansB x s), ac3) (by simp)).1 hu29.out rfl I3.out.1 ?_))
    refine HS4.out.mono ?_
    rintro e w44 ⟨ac4, xc4, rfl, ha, hx, hka, hkx, hb⟩
    have hia : (Try.prog.info? 29).map (·.size) = some ac4.size := info29 hka
    have hix : (Try.prog.info? 31).map (·.size) = some xc4.size := info31 hkx
    have hoa : ac4.all (·.oneCell') = true := one29 hka
    have hox : xc4.all (·.oneCell') = true := one31 hkx
    have HQ4 := Aside0.mk (And.intro ha (And.intro hx (And.intro hia (And.intro hix (And.intro hoa hox)))))
    have HKS4 := Aside0.mk (And.intro hka (And.intro hkx hb)); clear ha hx hka hkx hb hia hix hoa hox
    go_upto_region 6 with (first | ((with_reducible refine gate_store (t := 29) (p := 7) rfl ?_); refine Go.Proofs.Ythapknnppabdaaa.Fill.store_event rfl 29 _ _ rfl w44.heap.size ac4 rfl rfl 29 _ (blk_alloc (blk_new w44 _) _) HQ4.out.2.2.1 (by rw [HQ4.out.1]; rfl) HQ4.out.2.2.2.2.1 ?_; intro w45 ea eb ec; have HE4 := Aside0.mk (And.intro ea (And.intro eb ec)); clear ea eb ec) | ((with_reducible refine gate_store (t := 31) (p := 8) rfl ?_); refine Go.Proofs.Ythapknnppabdaaa.Fill.store_event rfl 31 _ _ rfl (w44.heap.size + 1) xc4 rfl rfl 31 _ (KeepBut.blk HE4.out.2.1 (blk_new1 w44 _ _) (by omega) (by simp)) HQ4.out.2.2.2.1 (by rw [HQ4.out.2.1]; rfl) HQ4.out.2.2.2.2.2 ?_; intro w46 ea eb ec; have HG4 := Aside0.mk (And.intro ea (And.intro eb ec)); clear ea eb ec))
    have E := two_stored HE4.out.1 HE4.out.2.1 HE4.out.2.2 HG4.out.1 HG4.out.2.1 HG4.out.2.2
    have bA : Below w36.heap.size w36 w46 := below_step HKS4.out.2.2 E.2.2
    have KA := k29.K_below E.2.2 HKS4.out.1
    have RA := k31.K_below E.2.2 HKS4.out.2.1
    rw [twice_M] at KA
    have JN_ := ((J3.out.below bA).addm E.1 KA).addr E.2.1 RA
    have I4 := Aside0.mk (And.intro HQ4.out.2.2.1 HQ4.out.2.2.2.1)
    obtain ⟨q4, hq⟩ : ∃ q, q = w44.heap.size := ⟨_, rfl⟩
    rw [← hq] at JN_ ⊢
    have J4 := Aside0.mk JN_
    clear JN_ KA RA bA E hq HE4 HG4 HKS4 HS4 HQ4 J3
    have HS5 := Aside0.mk (msgk_x x s mc w46 (J4.out.m (p, x, mc) (by simp)).2 HR.out.2)
    go_wp2_with (first | ((with_reducible refine gate_dst (N := 30) rfl ?_); refine wpList_load_row rfl 29 (.tmp 2) rfl p rfl 29 mc (0, 0) _ (J4.out.m (p, x, mc) (by simp)).1 hu29.out rfl HI.out ?_))
    refine HS5.out.mono ?_
    rintro e w54 ⟨z, oc, rfl, hz, hko, hb⟩
    have HZ := Aside0.mk hz
    have HQ5 := Aside0.mk (And.intro (info29 hko) (one29 hko))
    have HKS5 := Aside0.mk (And.intro hko hb); clear hz hko hb
    go_upto_region 7 with (first | ((with_reducible refine gate_store (t := 29) (p := 9) rfl ?_); refine Go.Proofs.Ythapknnppabdaaa.Fill.store_event rfl 29 _ _ rfl w54.heap.size oc rfl rfl 29 _ (blk_new w54 _) HQ5.out.1 (by have h1 := HQ5.out.1; rw [info29'] at h1; rw [← Option.some.inj h1]; rfl) HQ5.out.2 ?_; intro w56 ea eb ec; have HE5 := Aside0.mk (And.intro ea (And.intro eb ec)); clear ea eb ec))
    have E := one_stored HE5.out.1 HE5.out.2.2
    have JN_ := (J4.out.below (below_step HKS5.out.2 E.2)).addm E.1 (k29.K_below E.2 HKS5.out.1)
    have I5 := Aside0.mk HQ5.out.1
    obtain ⟨q5, hq⟩ : ∃ q, q = w54.heap.size := ⟨_, rfl⟩
    rw [← hq] at JN_ ⊢
    have J5 := Aside0.mk JN_
    clear JN_ E hq HE5 HKS5 HS5 HQ5 J4
    have HS6 := Aside0.mk (split9_x z s oc w56 (J5.out.m (q5, z, oc) (by simp)).2 (own_Reach HZ.out) HZ.out.s8 HZ.out.s9)
    go_wp2_with (first | ((with_reducible refine gate_dst (N := 34) rfl ?_); refine wpList_load_row rfl 29 (.tmp 9) rfl q5 rfl 29 oc (0, 0) _ (J5.out.m (q5, z, oc) (by simp)).1 hu29.out rfl I5.out ?_))
    refine HS6.out.mono ?_
    rintro e w64 ⟨ac6, xc6, rfl, ha, hx, hka, hkx, hb⟩
    have hia : (Try.prog.info? 29).map (·.size) = some ac6.size := info29 hka
    have hix : (Try.prog.info? 31).map (·.size) = some xc6.size := info31 hkx
    have hoa : ac6.all (·.oneCell') = true := one29 hka
    have hox : xc6.all (·.oneCell') = true := one31 hkx
    have HQ6 := Aside0.mk (And.intro ha (And.intro hx (And.intro hia (And.intro hix (And.intro hoa hox)))))
    have HKS6 := Aside0.mk (And.intro hka (And.intro hkx hb)); clear ha hx hka hkx hb hia hix hoa hox
    go_upto_region 8 with (first | ((with_reducible refine gate_store (t := 29) (p := 10) rfl ?_); refine Go.Proofs.Ythapknnppabdaaa.Fill.store_event rfl 29 _ _ rfl w64.heap.size ac6 rfl rfl 29 _ (blk_alloc (blk_new w64 _) _) HQ6.out.2.2.1 (by rw [HQ6.out.1]; rfl) HQ6.out.2.2.2.2.1 ?_; intro w65 ea eb ec; have HE6 := Aside0.mk (And.intro ea (And.intro eb ec)); clear ea eb ec) | ((with_reducible refine gate_store (t := 31) (p := 11) rfl ?_); refine Go.Proofs.Ythapknnppabdaaa.Fill.store_event rfl 31 _ _ rfl (w64.heap.size + 1) xc6 rfl rfl 31 _ (KeepBut.blk HE6.out.2.1 (blk_new1 w64 _ _) (by omega) (by simp)) HQ6.out.2.2.2.1 (by rw [HQ6.out.2.1]; rfl) HQ6.out.2.2.2.2.2 ?_; intro w66 ea eb ec; have HG6 := Aside0.mk (And.intro ea (And.intro eb ec)); clear ea eb ec))
    have E := two_stored HE6.out.1 HE6.out.2.1 HE6.out.2.2 HG6.out.1 HG6.out.2.1 HG6.out.2.2
    have bA : Below w56.heap.size w56 w66 := below_step HKS6.out.2.2 E.2.2
    have KA := k29.K_below E.2.2 HKS6.out.1
    have RA := k31.K_below E.2.2 HKS6.out.2.1
    rw [own_M HZ.out HSD.out] at KA
    have JN_ := ((J5.out.below bA).addm E.1 KA).addr E.2.1 RA
    have I6 := Aside0.mk (And.intro HQ6.out.2.2.1 HQ6.out.2.2.2.1)
    obtain ⟨q6, hq⟩ : ∃ q, q = w64.heap.size := ⟨_, rfl⟩
    rw [← hq] at JN_ ⊢
    have J6 := Aside0.mk JN_
    clear JN_ KA RA bA E hq HE6 HG6 HKS6 HS6 HQ6 J5
    have E4 := Aside0.mk (twice_R x s)
    have E6 := Aside0.mk (own_R HZ.out HSD.out)
    go_wp2_with fail
    refine (awake_x _).mono ?_
    rintro e w7 ⟨rfl, hb⟩
    have J7 := Aside0.mk (J6.out.below hb); clear hb J6
    go_wp2_with (first | ((with_reducible refine gate_dst (N := 41) rfl ?_); (try (refine gate_guard (by rfl) ?_; dsimp only)); refine wpList_load_row rfl 29 (.tmp 5) rfl q3 rfl 29 ac3 (0, 0) _ (J7.out.m (q3, (spM ansB x s), ac3) (by simp)).1 hu29.out rfl I3.out.1 ?_) | ((with_reducible refine gate_dst (N := 42) rfl ?_); (try (refine gate_guard (by rfl) ?_; dsimp only)); refine wpList_load_row rfl 29 (.tmp 7) rfl q4 rfl 29 ac4 (0, 0) _ (J7.out.m (q4, (spM ansB x s), ac4) (by simp)).1 hu29.out rfl I4.out.1 ?_))
    refine (message_x (spM ansB x s) ac3 ac4 _ (J7.out.m (q3, (spM ansB x s), ac3) (by simp)).2 (J7.out.m (q4, (spM ansB x s), ac4) (by simp)).2).mono ?_
    rintro e w8 ⟨rfl, hb⟩
    have J8 := Aside0.mk (J7.out.below hb); clear hb J7
    go_wp2_with (first | ((with_reducible refine gate_dst (N := 46) rfl ?_); (try (refine gate_guard (by rfl) ?_; dsimp only)); refine wpList_load_row rfl 31 (.tmp 8) rfl (q4 + 1) rfl 31 xc4 (0, 0) _ (J8.out.r (q4 + 1, (spR ansB (spM ansB x s) s), xc4) (by simp)).1 hu31.out rfl I4.out.2 ?_))
    refine (empty15_x (spR ansB (spM ansB x s) s) xc4 _ (J8.out.r (q4 + 1, (spR ansB (spM ansB x s) s), xc4) (by simp)).2 (empty_size E4.out)).mono ?_
    rw [E4.out]
    rintro e w9 ⟨rfl, hb⟩
    have J9 := Aside0.mk (J8.out.below hb); clear hb J8
    go_wp2_with (first | ((with_reducible refine gate_dst (N := 50) rfl ?_); (try (refine gate_guard (by rfl) ?_; dsimp only)); refine wpList_load_row rfl 29 (.tmp 10) rfl q6 rfl 29 ac6 (0, 0) _ (J9.out.m (q6, z, ac6) (by simp)).1 hu29.out rfl I6.out.1 ?_) | ((with_reducible refine gate_dst (N := 51) rfl ?_); (try (refine gate_guard (by rfl) ?_; dsimp only)); refine wpList_load_row rfl 29 (.tmp 9) rfl q5 rfl 29 oc (0, 0) _ (J9.out.m (q5, z, oc) (by simp)).1 hu29.out rfl I5.out ?_))
    refine (message_x z ac6 oc _ (J9.out.m (q6, z, ac6) (by simp)).2 (J9.out.m (q5, z, oc) (by simp)).2).mono ?_
    rintro e wa ⟨rfl, hb⟩
    have Ja := Aside0.mk (J9.out.below hb); clear hb J9
    go_wp2_with (first | ((with_reducible refine gate_dst (N := 55) rfl ?_); (try (refine gate_guard (by rfl) ?_; dsimp only)); refine wpList_load_row rfl 31 (.tmp 11) rfl (q6 + 1) rfl 31 xc6 (0, 0) _ (Ja.out.r (q6 + 1, spR ansB z s, xc6) (by simp)).1 hu31.out rfl I6.out.2 ?_))
    refine (empty15_x (spR ansB z s) xc6 _ (Ja.out.r (q6 + 1, spR ansB z s, xc6) (by simp)).2 (empty_size E6.out)).mono ?_
    rw [E6.out]
    rintro e wb ⟨rfl, hb⟩
    have Jb := Aside0.mk (Ja.out.below hb); clear hb Ja
    go_wp2_with fail
    go_ret
    exact ⟨rfl, Jb.out.bel⟩
end Go.Proofs.Ythapknnppabdaaa.MR
