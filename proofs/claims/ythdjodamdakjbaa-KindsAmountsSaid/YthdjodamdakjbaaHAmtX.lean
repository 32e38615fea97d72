/- KindsAmounts walked. -/
import Derived.Test.YthdjodamdakjbaaHAmtC
namespace Go.Proofs.Ythdjodamdakjbaa.MK
open Go.RowKit Go.Proofs.YthdjodamdakjbaaW.PrintWords Go.Proofs.YthdjodamdakjbaaW.PrintLast Go.Proofs.YthdjodamdakjbaaW.PrintMore
set_option linter.unusedVariables false
set_option linter.unusedSimpArgs false
def T4_4 : Bool × List (List Nat × List Nat) := (true, [([], []), ([0], [0]), ([], []), ([2], [2]), ([], []), ([4], [4]), ([], []), ([6], [6]), ([], []), ([8], [8]), ([0, 1], []), ([10, 1, 0, 1], [1, 10]), ([0, 1, 2, 3, 10, 11], []), ([12, 3, 11, 0, 1, 2, 3, 10, 11], [3, 12]), ([0, 1, 2, 3, 4, 5, 10, 11, 12, 13], []), ([14, 5, 13, 0, 1, 2, 3, 4, 5, 10, 11, 12, 13], [5, 14]), ([0, 1, 2, 3, 4, 5, 6, 7, 10, 11, 12, 13, 14, 15], []), ([16, 7, 15, 0, 1, 2, 3, 4, 5, 6, 7, 10, 11, 12, 13, 14, 15], [7, 16]), ([0, 1, 2, 3, 4, 5, 6, 7, 8, 9, 10, 11, 12, 13, 14, 15, 16, 17], []), ([18, 9, 17, 0, 1, 2, 3, 4, 5, 6, 7, 8, 9, 10, 11, 12, 13, 14, 15, 16, 17], [9, 18])])
def B4_4 : List Nat := [0, 1, 0, 4, 0, 16, 0, 64, 0, 256, 3, 1027, 3087, 7183, 15423, 31807, 64767, 130303, 262143, 524287]
theorem tab4_4 : rtab .any (opsOf Try.f4 4) = T4_4 := by kernel_rfl
theorem bits4_4 : waitsOk T4_4.2 B4_4 = true := by kernel_rfl
def T4_7 : Bool × List (List Nat × List Nat) := (true, [([], []), ([], []), ([], []), ([], []), ([2, 0, 0, 2, 3], [0, 2]), ([3, 1, 4, 0, 1, 2, 3, 4], [1, 3])])
def B4_7 : List Nat := [0, 0, 0, 0, 13, 31]
theorem tab4_7 : rtab .any (opsOf Try.f4 7) = T4_7 := by kernel_rfl
theorem bits4_7 : waitsOk T4_7.2 B4_7 = true := by kernel_rfl
def T4_10 : Bool × List (List Nat × List Nat) := (true, [([], []), ([0], [0]), ([], []), ([2, 1], [2]), ([1, 3], [1, 3]), ([4, 3], [4]), ([5], [5]), ([6, 5, 5], [5, 6]), ([5], [5]), ([8, 7, 5], [5, 8]), ([7, 9, 5], [5, 7, 9]), ([5, 10], [5, 10]), ([11, 9], [11]), ([12], [12]), ([13, 12], [12, 13]), ([14, 12, 12], [12, 14]), ([15], [15]), ([16, 15, 15], [15, 16]), ([17, 15], [15, 17]), ([15, 18, 12], [12, 15, 18]), ([12, 19], [12, 19]), ([20, 17], [20]), ([21], [21]), ([22, 21], [21, 22]), ([23, 21, 21], [21, 23]), ([24], [24]), ([25, 24, 24], [24, 25]), ([26, 24], [24, 26]), ([24, 27, 21], [21, 24, 27]), ([21, 28], [21, 28]), ([29, 26, 0, 1, 2, 3, 4, 5, 6, 7, 8, 9, 10, 11, 12, 13, 14, 15, 16, 17, 18, 19, 20, 21, 22, 23, 24, 25, 26, 27, 28, 29], [29])])
def B4_10 : List Nat := [0, 1, 0, 7, 15, 31, 63, 127, 63, 511, 1023, 2047, 4095, 8191, 16383, 32767, 65535, 131071, 262143, 524287, 1048575, 2097151, 4194303, 8388607, 16777215, 33554431, 67108863, 134217727, 268435455, 536870911, 1073741823]
theorem tab4_10 : rtab .any (opsOf Try.f4 10) = T4_10 := by kernel_rfl
theorem bits4_10 : waitsOk T4_10.2 B4_10 = true := by kernel_rfl

/-- A message in the block q. -/
structure AX (w3 : World) (q : Nat) (zc : Array Value) (W : World) : Prop where
  a : W.heap[q]? = some (.cells zc 29 (0, 0))
  bel : Below w3.heap.size w3 W
  lo : w3.heap.size ≤ q
theorem AX.below {w3 : World} {q : Nat} {zc : Array Value} {W W' : World} (h : AX w3 q zc W) (hb : Below W.heap.size W W') : AX w3 q zc W' :=
  ⟨blk_below h.a hb, below_step h.bel hb, h.lo⟩
theorem AX.set {w3 : World} {q : Nat} {zc zc' : Array Value} {W : World} (h : AX w3 q zc W) (i : Nat) (v : Value) (hr : zc.setIfInBounds i v = zc') : AX w3 q zc' (W.setCell ⟨q, i, none⟩ v) :=
  ⟨by rw [← hr]; exact blk_set h.a _ _, below_set h.bel (by show w3.heap.size ≤ q; exact h.lo), h.lo⟩
/-- Two messages in blocks of their own. -/
structure AY (w3 : World) (p q : Nat) (yc uc : Array Value) (W : World) : Prop where
  a : AX w3 p yc W
  b : AX w3 q uc W
  ne : p ≠ q
theorem AY.below {w3 : World} {p q : Nat} {yc uc : Array Value} {W W' : World} (h : AY w3 p q yc uc W) (hb : Below W.heap.size W W') : AY w3 p q yc uc W' := ⟨h.a.below hb, h.b.below hb, h.ne⟩
theorem AY.setA {w3 : World} {p q : Nat} {yc yc' uc : Array Value} {W : World} (h : AY w3 p q yc uc W) (i : Nat) (v : Value) (hr : yc.setIfInBounds i v = yc') : AY w3 p q yc' uc (W.setCell ⟨p, i, none⟩ v) :=
  ⟨h.a.set i v hr, ⟨(Below.heap_setCell _ _ _ _ (by show q ≠ p; exact fun e => h.ne e.symm)).trans h.b.a, (h.a.set i v hr).bel, h.b.lo⟩, h.ne⟩
theorem AY.setB {w3 : World} {p q : Nat} {yc uc uc' : Array Value} {W : World} (h : AY w3 p q yc uc W) (i : Nat) (v : Value) (hr : uc.setIfInBounds i v = uc') : AY w3 p q yc uc' (W.setCell ⟨q, i, none⟩ v) :=
  ⟨⟨(Below.heap_setCell _ _ _ _ (by show p ≠ q; exact h.ne)).trans h.a.a, (h.b.set i v hr).bel, h.a.lo⟩, h.b.set i v hr, h.ne⟩
set_option maxHeartbeats 16000000 in
set_option maxRecDepth 100000 in
theorem amounts_walk (x : S29) (amount stan : Int) (mc : Array Value) (w : World) (h : k29.K w x mc.toList) (hr : Small29 x) (hi : MsgIn x) :
    Calls Try.prog 4 #[.agg mc, .int .u64 amount, .int .i64 stan] w fun e w' => e = .returned (.bool true) ∧ Below w.heap.size w w' := by
  have hu29 := Aside0.mk Try.underlying29
  have hu24 := Try.underlying24
  have HI := Aside0.mk (info29 h)
  have HR := Aside0.mk (And.intro hr hi)
  have HK := Aside0.mk h
  clear h hr hi
  go_enter Try.func4, Try.ntmps4
  go_upto_region 1 with fail
  obtain ⟨p, hp⟩ : ∃ p, p = w.heap.size := ⟨_, rfl⟩
  have J0 : w.heap.size ≤ w.heap.size ∧ (w.alloc (.cells mc 29)).heap[w.heap.size]? = some (.cells mc 29 (0, 0)) ∧ k29.K (w.alloc (.cells mc 29)) x mc.toList ∧ Below w.heap.size w (w.alloc (.cells mc 29)) := ⟨Nat.le_refl _, blk_new w _, k29.K_below (below_alloc (Below.refl _ w) _) HK.out, below_alloc (Below.refl _ w) _⟩
  have J0 : w.heap.size ≤ p ∧ (w.alloc (.cells mc 29)).heap[p]? = some (.cells mc 29 (0, 0)) ∧ k29.K (w.alloc (.cells mc 29)) x mc.toList ∧ Below w.heap.size w (w.alloc (.cells mc 29)) := by rw [hp]; exact J0
  rw [← hp]; clear hp; revert J0
  generalize (w.alloc (.cells mc 29)) = W1; intro J0
  replace J0 := Aside0.mk J0
  clear HK
  have HS := Aside0.mk (small_x x mc W1 J0.out.2.2.1 HR.out.1)
  go_wp2_with (first | ((with_reducible refine gate_dst (N := 10) rfl ?_); refine wpList_load_row rfl 29 (.tmp 3) rfl p rfl 29 mc (0, 0) _ J0.out.2.1 hu29.out rfl HI.out ?_))
  refine HS.out.mono ?_
  rintro e w2 ⟨b, rfl, hb⟩
  have J1 := Aside0.mk (And.intro J0.out.1 (And.intro (blk_below J0.out.2.1 hb) (And.intro (k29.K_below hb J0.out.2.2.1) (below_step J0.out.2.2.2 hb))))
  clear hb HS J0
  cases b with
  | false =>
    go_wp2_with fail
    refine (awake_x _).mono ?_
    rintro e w3 ⟨rfl, hb⟩
    go_wp2_with fail
    go_ret
    exact ⟨rfl, below_step J1.out.2.2.2 hb⟩
  | true =>
    go_wp2_with (first | ((with_reducible refine gate_dst (N := 14) rfl ?_); refine wpList_load_row rfl 29 (.tmp 3) rfl p rfl 29 mc (0, 0) _ J1.out.2.1 hu29.out rfl HI.out ?_))
    refine (msgk_x x 0 mc _ J1.out.2.2.1 HR.out.2).mono ?_
    rintro e w3 ⟨z, oc, rfl, hz, hk, hb⟩
    have HZ := Aside0.mk hz
    have J2 := Aside0.mk (And.intro (blk_below J1.out.2.1 hb) (And.intro (k29.K_below hb J1.out.2.2.1) (below_step J1.out.2.2.2 hb)))
    have HO := Aside0.mk (And.intro (info29 hk.now) (And.intro (size29 hk.now) (one29 hk.now)))
    obtain ⟨A16, c16, A19, c19, A20, c20, em, l16, g16, l19, g19, l20, g20⟩ := k29_open J2.out.2.1
    obtain ⟨B16, d16, B19, d19, B20, d20, eo, m16, m19, m20, hC⟩ := KS_open hk
    have HM : Aside0 (mc[2]? = some (.string x.f2) ∧ mc[3]? = some (.string x.f3) ∧ mc[18]? = some (.string x.f17) ∧ mc[19]? = some (.slice A19 x.f18.length c19) ∧ mc[17]? = some (.string x.f16)) := by
      have em' : mc = _ := Array.toList_inj.1 em
      rw [em']; exact ⟨rfl, rfl, rfl, rfl, rfl⟩
    have HOC := Aside0.mk eo
    have HKK : Aside0 (∀ W', Below w3.heap.size w3 W' → ∀ y : S29, y.f15 = z.f15 → y.f18 = x.f18 → y.f19 = z.f19 → k29.K W' y (rowM y (.slice B16 z.f15.length d16) (.slice A19 x.f18.length c19) (.slice B20 z.f19.length d20)).toList) := ⟨by
      intro W' hW y e1 e2 e3
      obtain ⟨n16, _, n20⟩ := hC W' (fun k h1 _ => hW.block k h1)
      obtain ⟨_, _, _, _, _, _, ew, _, _, _, n19, _⟩ := k29_open (k29.K_below hW J2.out.2.1)
      rw [em] at ew
      simp only [List.cons.injEq, Value.slice.injEq, true_and, and_true] at ew
      obtain ⟨⟨rfl, rfl⟩, ⟨rfl, rfl⟩, rfl, rfl⟩ := ew
      rw [← e1] at m16 n16 ⊢; rw [← e2] at l19 n19 ⊢; rw [← e3] at m20 n20 ⊢
      exact k29_mk W' y m16 n16 l19 n19 m20 n20⟩
    clear hz hk hb em eo l16 g16 l19 g19 l20 g20 m16 m19 m20 hC J1
    go_upto_region 4 with ((with_reducible refine gate_store (t := 29) (p := 7) rfl ?_); refine Go.Proofs.Ythdjodamdakjbaa.Fill.store_event rfl 29 _ _ rfl w3.heap.size oc rfl rfl 29 zeroM (blk_new w3 _) HO.out.1 (by rw [HO.out.2.1]; rfl) HO.out.2.2 ?_; intro wb ea eb ec; have JX : Aside0 (AX w3 w3.heap.size oc wb) := ⟨ea, ec _ _ (below_alloc (Below.refl _ w3) _) (Nat.le_refl _), Nat.le_refl _⟩; clear ea eb ec)
    obtain ⟨q, hq⟩ : ∃ q, q = w3.heap.size := ⟨_, rfl⟩
    have JX' : Aside0 (AX w3 q oc wb) := by rw [hq]; exact JX
    rw [← hq]
    clear hq JX
    have JX := Aside0.mk (JX'.out.below (below_drew1 (Below.refl _ _)))
    clear JX' 
    rw [HOC.out] at JX
    refine start_ (n := 20) (ds := []) (S := fun w' => w'.cell? ⟨p, 2, none⟩ = some (.string x.f2) ∧ w'.cell? ⟨p, 3, none⟩ = some (.string x.f3) ∧ w'.cell? ⟨p, 18, none⟩ = some (.string x.f17) ∧ w'.cell? ⟨p, 19, none⟩ = some (.slice A19 x.f18.length c19) ∧ w'.cell? ⟨p, 17, none⟩ = some (.string x.f16)) (V 20 0) (by rfl) (by rfl) (by kernel_rfl) (⟨(blk_cell (blk_below J2.out.1 JX.out.bel) 2).trans HM.out.1, (blk_cell (blk_below J2.out.1 JX.out.bel) 3).trans HM.out.2.1, (blk_cell (blk_below J2.out.1 JX.out.bel) 18).trans HM.out.2.2.1, (blk_cell (blk_below J2.out.1 JX.out.bel) 19).trans HM.out.2.2.2.1, (blk_cell (blk_below J2.out.1 JX.out.bel) 17).trans HM.out.2.2.2.2⟩) (fun hHeld => ?_); refine with_tabW tab4_4 bits4_4 (fun HT_ HW_ => ?_)
    generalize wb.drew = wd at JX hHeld ⊢
    refine pure_ (i := 0) (N := some 16) (v := ?_) (a' := ?_) (V 20 1) rfl rfl (any_of HT_.out (by kernel_rfl)) (fun _ _ _ h => h) (Or.inl ⟨by rfl, ?_⟩) ?_ ?_; rotate_left
    · intro w'; go_simp; with_reducible rfl
    rotate_left
    · simp only [Act.put, List.setIfInBounds_toArray, List.set_cons_zero, List.set_cons_succ, i64_w, i32_w]; rfl
    refine take_ (i := 1) (N := some 17) (v := ?_) (a' := ?_) (V 20 3) rfl rfl (take_ofW HT_.out HW_.out (by kernel_rfl)) (fun _ _ _ h => h) (Or.inl ⟨by rfl, ?_⟩) hHeld ?_ ?_; rotate_left
    · rintro w' ⟨s0, s1, s2, s3, s4⟩; go_simp; with_reducible rfl
    rotate_left
    · simp only [Act.put, List.setIfInBounds_toArray, List.set_cons_zero, List.set_cons_succ, i64_w, i32_w]; rfl
    refine pure_ (i := 2) (N := some 18) (v := ?_) (a' := ?_) (V 20 7) rfl rfl (any_of HT_.out (by kernel_rfl)) (fun _ _ _ h => h) (Or.inl ⟨by rfl, ?_⟩) ?_ ?_; rotate_left
    · intro w'; go_simp; with_reducible rfl
    rotate_left
    · simp only [Act.put, List.setIfInBounds_toArray, List.set_cons_zero, List.set_cons_succ, i64_w, i32_w]; rfl
    refine take_ (i := 3) (N := some 19) (v := ?_) (a' := ?_) (V 20 15) rfl rfl (take_ofW HT_.out HW_.out (by kernel_rfl)) (fun _ _ _ h => h) (Or.inl ⟨by rfl, ?_⟩) hHeld ?_ ?_; rotate_left
    · rintro w' ⟨s0, s1, s2, s3, s4⟩; go_simp; with_reducible rfl
    rotate_left
    · simp only [Act.put, List.setIfInBounds_toArray, List.set_cons_zero, List.set_cons_succ, i64_w, i32_w]; rfl
    refine pure_ (i := 4) (N := some 20) (v := ?_) (a' := ?_) (V 20 31) rfl rfl (any_of HT_.out (by kernel_rfl)) (fun _ _ _ h => h) (Or.inl ⟨by rfl, ?_⟩) ?_ ?_; rotate_left
    · intro w'; go_simp; with_reducible rfl
    rotate_left
    · simp only [Act.put, List.setIfInBounds_toArray, List.set_cons_zero, List.set_cons_succ, i64_w, i32_w]; rfl
    refine take_ (i := 5) (N := some 21) (v := ?_) (a' := ?_) (V 20 63) rfl rfl (take_ofW HT_.out HW_.out (by kernel_rfl)) (fun _ _ _ h => h) (Or.inl ⟨by rfl, ?_⟩) hHeld ?_ ?_; rotate_left
    · rintro w' ⟨s0, s1, s2, s3, s4⟩; go_simp; with_reducible rfl
    rotate_left
    · simp only [Act.put, List.setIfInBounds_toArray, List.set_cons_zero, List.set_cons_succ, i64_w, i32_w]; rfl
    refine pure_ (i := 6) (N := some 22) (v := ?_) (a' := ?_) (V 20 127) rfl rfl (any_of HT_.out (by kernel_rfl)) (fun _ _ _ h => h) (Or.inl ⟨by rfl, ?_⟩) ?_ ?_; rotate_left
    · intro w'; go_simp; with_reducible rfl
    rotate_left
    · simp only [Act.put, List.setIfInBounds_toArray, List.set_cons_zero, List.set_cons_succ, i64_w, i32_w]; rfl
    refine take_ (i := 7) (N := some 23) (v := ?_) (a' := ?_) (V 20 255) rfl rfl (take_ofW HT_.out HW_.out (by kernel_rfl)) (fun _ _ _ h => h) (Or.inl ⟨by rfl, ?_⟩) hHeld ?_ ?_; rotate_left
    · rintro w' ⟨s0, s1, s2, s3, s4⟩; go_simp; with_reducible rfl
    rotate_left
    · simp only [Act.put, List.setIfInBounds_toArray, List.set_cons_zero, List.set_cons_succ, i64_w, i32_w]; rfl
    refine pure_ (i := 8) (N := some 24) (v := ?_) (a' := ?_) (V 20 511) rfl rfl (any_of HT_.out (by kernel_rfl)) (fun _ _ _ h => h) (Or.inl ⟨by rfl, ?_⟩) ?_ ?_; rotate_left
    · intro w'; go_simp; with_reducible rfl
    rotate_left
    · simp only [Act.put, List.setIfInBounds_toArray, List.set_cons_zero, List.set_cons_succ, i64_w, i32_w]; rfl
    refine take_ (i := 9) (N := some 25) (v := ?_) (a' := ?_) (V 20 1023) rfl rfl (take_ofW HT_.out HW_.out (by kernel_rfl)) (fun _ _ _ h => h) (Or.inl ⟨by rfl, ?_⟩) hHeld ?_ ?_; rotate_left
    · rintro w' ⟨s0, s1, s2, s3, s4⟩; go_simp; with_reducible rfl
    rotate_left
    · simp only [Act.put, List.setIfInBounds_toArray, List.set_cons_zero, List.set_cons_succ, i64_w, i32_w]; rfl
    refine pure_ (i := 10) (N := some 26) (v := ?_) (a' := ?_) (V 20 2047) rfl rfl (any_of HT_.out (by kernel_rfl)) (fun _ _ _ h => h) (Or.inl ⟨by rfl, ?_⟩) ?_ ?_; rotate_left
    · intro w'; go_simp; with_reducible rfl
    rotate_left
    · simp only [Act.put, List.setIfInBounds_toArray, List.set_cons_zero, List.set_cons_succ, i64_w, i32_w]; rfl
    have dq := (blk_cell JX.out.a 2).trans (show _ = some (Value.string z.f2) from rfl); have zq := blk_frozen JX.out.a 2
    refine one_ (i := 11) (N := none) (V 20 4095) rfl rfl (one_of HT_.out (by kernel_rfl)) (by decide) (fun K hK => ?_)
    refine skip_ (w1 := ?_) (by rfl) rfl ?_ ?_; rotate_left
    · go_simp
      rfl
    have JQ := Aside0.mk (AX.set (zc' := rowM { z with f2 := x.f2 } (.slice B16 z.f15.length d16) (.slice B19 z.f18.length d19) (.slice B20 z.f19.length d20)) JX.out 2 (.string x.f2) rfl); clear JX hHeld dq zq; have JX := JQ; clear JQ
    refine hK.out _ _ (⟨(blk_cell (blk_below J2.out.1 JX.out.bel) 2).trans HM.out.1, (blk_cell (blk_below J2.out.1 JX.out.bel) 3).trans HM.out.2.1, (blk_cell (blk_below J2.out.1 JX.out.bel) 18).trans HM.out.2.2.1, (blk_cell (blk_below J2.out.1 JX.out.bel) 19).trans HM.out.2.2.2.1, (blk_cell (blk_below J2.out.1 JX.out.bel) 17).trans HM.out.2.2.2.2⟩) (fun hHeld => ?_)
    clear hK K
    refine pure_ (i := 12) (N := some 27) (v := ?_) (a' := ?_) (V 20 8191) rfl rfl (any_of HT_.out (by kernel_rfl)) (fun _ _ _ h => h) (Or.inl ⟨by rfl, ?_⟩) ?_ ?_; rotate_left
    · intro w'; go_simp; with_reducible rfl
    rotate_left
    · simp only [Act.put, List.setIfInBounds_toArray, List.set_cons_zero, List.set_cons_succ, i64_w, i32_w]; rfl
    have dq := (blk_cell JX.out.a 3).trans (show _ = some (Value.string z.f3) from rfl); have zq := blk_frozen JX.out.a 3
    refine one_ (i := 13) (N := none) (V 20 16383) rfl rfl (one_of HT_.out (by kernel_rfl)) (by decide) (fun K hK => ?_)
    refine skip_ (w1 := ?_) (by rfl) rfl ?_ ?_; rotate_left
    · go_simp
      rfl
    have JQ := Aside0.mk (AX.set (zc' := rowM { z with f2 := x.f2, f3 := x.f3 } (.slice B16 z.f15.length d16) (.slice B19 z.f18.length d19) (.slice B20 z.f19.length d20)) JX.out 3 (.string x.f3) rfl); clear JX hHeld dq zq; have JX := JQ; clear JQ
    refine hK.out _ _ (⟨(blk_cell (blk_below J2.out.1 JX.out.bel) 2).trans HM.out.1, (blk_cell (blk_below J2.out.1 JX.out.bel) 3).trans HM.out.2.1, (blk_cell (blk_below J2.out.1 JX.out.bel) 18).trans HM.out.2.2.1, (blk_cell (blk_below J2.out.1 JX.out.bel) 19).trans HM.out.2.2.2.1, (blk_cell (blk_below J2.out.1 JX.out.bel) 17).trans HM.out.2.2.2.2⟩) (fun hHeld => ?_)
    clear hK K
    refine pure_ (i := 14) (N := some 28) (v := ?_) (a' := ?_) (V 20 32767) rfl rfl (any_of HT_.out (by kernel_rfl)) (fun _ _ _ h => h) (Or.inl ⟨by rfl, ?_⟩) ?_ ?_; rotate_left
    · intro w'; go_simp; with_reducible rfl
    rotate_left
    · simp only [Act.put, List.setIfInBounds_toArray, List.set_cons_zero, List.set_cons_succ, i64_w, i32_w]; rfl
    have dq := (blk_cell JX.out.a 18).trans (show _ = some (Value.string z.f17) from rfl); have zq := blk_frozen JX.out.a 18
    refine one_ (i := 15) (N := none) (V 20 65535) rfl rfl (one_of HT_.out (by kernel_rfl)) (by decide) (fun K hK => ?_)
    refine skip_ (w1 := ?_) (by rfl) rfl ?_ ?_; rotate_left
    · go_simp
      rfl
    have JQ := Aside0.mk (AX.set (zc' := rowM { z with f2 := x.f2, f3 := x.f3, f17 := x.f17 } (.slice B16 z.f15.length d16) (.slice B19 z.f18.length d19) (.slice B20 z.f19.length d20)) JX.out 18 (.string x.f17) rfl); clear JX hHeld dq zq; have JX := JQ; clear JQ
    refine hK.out _ _ (⟨(blk_cell (blk_below J2.out.1 JX.out.bel) 2).trans HM.out.1, (blk_cell (blk_below J2.out.1 JX.out.bel) 3).trans HM.out.2.1, (blk_cell (blk_below J2.out.1 JX.out.bel) 18).trans HM.out.2.2.1, (blk_cell (blk_below J2.out.1 JX.out.bel) 19).trans HM.out.2.2.2.1, (blk_cell (blk_below J2.out.1 JX.out.bel) 17).trans HM.out.2.2.2.2⟩) (fun hHeld => ?_)
    clear hK K
    refine pure_ (i := 16) (N := some 29) (v := ?_) (a' := ?_) (V 20 131071) rfl rfl (any_of HT_.out (by kernel_rfl)) (fun _ _ _ h => h) (Or.inl ⟨by rfl, ?_⟩) ?_ ?_; rotate_left
    · intro w'; go_simp; with_reducible rfl
    rotate_left
    · simp only [Act.put, List.setIfInBounds_toArray, List.set_cons_zero, List.set_cons_succ, i64_w, i32_w]; rfl
    have dq := (blk_cell JX.out.a 19).trans (show _ = some (Value.slice B19 z.f18.length d19) from rfl); have zq := blk_frozen JX.out.a 19
    refine one_ (i := 17) (N := none) (V 20 262143) rfl rfl (one_of HT_.out (by kernel_rfl)) (by decide) (fun K hK => ?_)
    refine skip_ (w1 := ?_) (by rfl) rfl ?_ ?_; rotate_left
    · go_simp
      rfl
    have JQ := Aside0.mk (AX.set (zc' := rowM { z with f2 := x.f2, f3 := x.f3, f17 := x.f17, f18 := x.f18 } (.slice B16 z.f15.length d16) (.slice A19 x.f18.length c19) (.slice B20 z.f19.length d20)) JX.out 19 (.slice A19 x.f18.length c19) rfl); clear JX hHeld dq zq; have JX := JQ; clear JQ
    refine hK.out _ _ (⟨(blk_cell (blk_below J2.out.1 JX.out.bel) 2).trans HM.out.1, (blk_cell (blk_below J2.out.1 JX.out.bel) 3).trans HM.out.2.1, (blk_cell (blk_below J2.out.1 JX.out.bel) 18).trans HM.out.2.2.1, (blk_cell (blk_below J2.out.1 JX.out.bel) 19).trans HM.out.2.2.2.1, (blk_cell (blk_below J2.out.1 JX.out.bel) 17).trans HM.out.2.2.2.2⟩) (fun hHeld => ?_)
    clear hK K
    refine pure_ (i := 18) (N := some 30) (v := ?_) (a' := ?_) (V 20 524287) rfl rfl (any_of HT_.out (by kernel_rfl)) (fun _ _ _ h => h) (Or.inl ⟨by rfl, ?_⟩) ?_ ?_; rotate_left
    · intro w'; go_simp; with_reducible rfl
    rotate_left
    · simp only [Act.put, List.setIfInBounds_toArray, List.set_cons_zero, List.set_cons_succ, i64_w, i32_w]; rfl
    have dq := (blk_cell JX.out.a 17).trans (show _ = some (Value.string z.f16) from rfl); have zq := blk_frozen JX.out.a 17
    refine one_ (i := 19) (N := none) (V 20 1048575) rfl rfl (one_of HT_.out (by kernel_rfl)) (by decide) (fun K hK => ?_)
    refine skip_ (w1 := ?_) (by rfl) rfl ?_ ?_; rotate_left
    · go_simp
      rfl
    have JQ := Aside0.mk (AX.set (zc' := rowM (mixM z x) (.slice B16 z.f15.length d16) (.slice A19 x.f18.length c19) (.slice B20 z.f19.length d20)) JX.out 17 (.string x.f16) rfl); clear JX hHeld dq zq; have JX := JQ; clear JQ
    refine hK.out _ _ (⟨(blk_cell (blk_below J2.out.1 JX.out.bel) 2).trans HM.out.1, (blk_cell (blk_below J2.out.1 JX.out.bel) 3).trans HM.out.2.1, (blk_cell (blk_below J2.out.1 JX.out.bel) 18).trans HM.out.2.2.1, (blk_cell (blk_below J2.out.1 JX.out.bel) 19).trans HM.out.2.2.2.1, (blk_cell (blk_below J2.out.1 JX.out.bel) 17).trans HM.out.2.2.2.2⟩) (fun hHeld => ?_)
    clear hK K
    refine done_ (done_of HT_.out (by kernel_rfl)) ?_
    clear hHeld HT_ HW_ HM HOC
    obtain ⟨xc, hxc⟩ : ∃ c, c = rowM (mixM z x) (.slice B16 z.f15.length d16) (.slice A19 x.f18.length c19) (.slice B20 z.f19.length d20) := ⟨_, rfl⟩
    have HXK : Aside0 (∀ W', Below w3.heap.size w3 W' → k29.K W' (mixM z x) xc.toList) := ⟨fun W' hW => by rw [hxc]; exact HKK.out W' hW (mixM z x) rfl rfl rfl⟩
    rw [← hxc] at JX
    have HXC := Aside0.mk hxc; clear hxc
    have HX := Aside0.mk (And.intro (info29 (HXK.out _ JX.out.bel)) (And.intro (size29 (HXK.out _ JX.out.bel)) (one29 (HXK.out _ JX.out.bel))))
    go_wp2_with fail
    refine (awake_x _).mono ?_
    rintro e w7 ⟨rfl, hb⟩
    have JQ := Aside0.mk (JX.out.below hb); clear hb JX; have JX := JQ; clear JQ
    go_wp2_with (first | ((with_reducible refine gate_dst (N := 34) rfl ?_); (try (refine gate_guard (by rfl) ?_; dsimp only)); refine wpList_load_row rfl 29 (.tmp 7) rfl q rfl 29 xc (0, 0) _ JX.out.a hu29.out rfl HX.out.1 ?_))
    refine (fits_x (mixM z x) xc 0 _ (HXK.out _ JX.out.bel) (mix_fits x HZ.out)).mono ?_
    rintro e w8 ⟨rfl, hb⟩
    have JQ := Aside0.mk (JX.out.below hb); clear hb JX; have JX := JQ; clear JQ
    go_upto_region 7 with fail
    have JQ := Aside0.mk (JX.out.below (below_drew1 (Below.refl _ _))); clear JX; have JX := JQ; clear JQ
    have JB := Aside0.mk (Below.refl w8.drew.heap.size w8.drew)
    refine start_ (n := 6) (ds := []) (S := fun w' => w'.heap[q]? = some (.cells xc 29 (0, 0))) (V 6 0) (by rfl) (by rfl) (by kernel_rfl) (JX.out.a) (fun hHeld => ?_); refine with_tabW tab4_7 bits4_7 (fun HT_ HW_ => ?_)
    generalize w8.drew = we at JX JB hHeld ⊢
    refine take_ (i := 0) (N := some 38) (v := .agg xc) (a' := ?_) (V 6 1) rfl rfl (take_ofW HT_.out HW_.out (by kernel_rfl)) (fun _ _ _ h => h) (Or.inl ⟨by rfl, fun w' hs => Go.Proofs.Ythdjodamdakjbaa.Fill.row_yields 29 _ rfl q rfl 29 xc (0, 0) _ hs hu29.out rfl HX.out.1⟩) hHeld ?_ ?_; rotate_left
    · simp only [Act.put, List.setIfInBounds_toArray, List.set_cons_zero, List.set_cons_succ, i64_w, i32_w]; rfl
    refine take_ (i := 1) (N := some 39) (v := .agg xc) (a' := ?_) (V 6 3) rfl rfl (take_ofW HT_.out HW_.out (by kernel_rfl)) (fun _ _ _ h => h) (Or.inl ⟨by rfl, fun w' hs => Go.Proofs.Ythdjodamdakjbaa.Fill.row_yields 29 _ rfl q rfl 29 xc (0, 0) _ hs hu29.out rfl HX.out.1⟩) hHeld ?_ ?_; rotate_left
    · simp only [Act.put, List.setIfInBounds_toArray, List.set_cons_zero, List.set_cons_succ, i64_w, i32_w]; rfl
    refine join_ (σ := Nat × Nat) 2 (V 6 15) (fun s => [(8, .pointer (some ⟨s.1, 0, none⟩)), (9, .pointer (some ⟨s.2, 0, none⟩))]) (fun s w' => Below we.heap.size we w' ∧ w'.heap[s.1]? = some (.cells zeroM 29 (0, 0)) ∧ w'.heap[s.2]? = some (.cells zeroM 29 (0, 0)) ∧ we.heap.size ≤ s.1 ∧ we.heap.size ≤ s.2 ∧ s.1 ≠ s.2) ?_ ?_
    rotate_left
    · intro hcont
      have G := Aside0.mk hcont; clear hcont
      refine two_ (i := 2) (j := 3) (Ni := some 8) (Nj := some 9) (V 6 7) (V 6 11) rfl rfl rfl rfl (two_of HT_.out (by kernel_rfl)) (by decide) (by decide) (fun K hK => ?_) (fun K hK => ?_)
      · skip
        refine value_ (w1 := ?_) (v := ?_) (by rfl) rfl ?_ ?_; rotate_left 2
        · go_simp
          constructor
          · rfl
          · rfl
        refine hK.out _ _ (blk_below JX.out.a (below_alloc (Below.refl _ _) _)) (fun hHeld => ?_)
        clear hK K
        refine norm_ (a' := ?_) ?_ ?_; rotate_left
        · show Act.put _ (some 8) _ = _; simp only [Act.put, List.setIfInBounds_toArray, List.set_cons_zero, List.set_cons_succ, i64_w, i32_w]; rfl
        have JU : Aside0 (Below we.heap.size we (we.alloc (.cells zeroM 29)) ∧ (we.alloc (.cells zeroM 29)).heap[we.heap.size]? = some (.cells zeroM 29 (0, 0))) := ⟨below_alloc JB.out _, blk_new we _⟩
        change wpAnyLast _ _ _ _ _ _ _ _ _ (we.alloc (.cells zeroM 29))
        generalize we.alloc (.cells zeroM 29) = u at JU hHeld ⊢
        refine one_ (i := 3) (N := some 9) (V 6 15) rfl rfl (one_of HT_.out (by kernel_rfl)) (by decide) (fun K hK => ?_)
        refine value_ (w1 := ?_) (v := ?_) (by rfl) rfl ?_ ?_; rotate_left 2
        · go_simp
          constructor
          · rfl
          · rfl
        refine hK.out _ _ (blk_below JX.out.a (below_step JU.out.1 (below_alloc (Below.refl _ _) _))) (fun hHeld => ?_)
        clear hK K
        refine norm_ (a' := putAll _ _) ?_ (G.out (we.heap.size, u.heap.size) _ ⟨below_step JU.out.1 (below_alloc (Below.refl _ _) _), blk_below JU.out.2 (below_alloc (Below.refl _ _) _), blk_new u _, Nat.le_refl _, JU.out.1.size, (by have := (Array.getElem?_eq_some_iff.1 JU.out.2).1; show (_ : Nat) ≠ _; dsimp only; omega)⟩)
        simp only [putAll, Act.put, List.setIfInBounds_toArray, List.set_cons_zero, List.set_cons_succ]
      · skip
        refine value_ (w1 := ?_) (v := ?_) (by rfl) rfl ?_ ?_; rotate_left 2
        · go_simp
          constructor
          · rfl
          · rfl
        refine hK.out _ _ (blk_below JX.out.a (below_alloc (Below.refl _ _) _)) (fun hHeld => ?_)
        clear hK K
        refine norm_ (a' := ?_) ?_ ?_; rotate_left
        · show Act.put _ (some 9) _ = _; simp only [Act.put, List.setIfInBounds_toArray, List.set_cons_zero, List.set_cons_succ, i64_w, i32_w]; rfl
        have JU : Aside0 (Below we.heap.size we (we.alloc (.cells zeroM 29)) ∧ (we.alloc (.cells zeroM 29)).heap[we.heap.size]? = some (.cells zeroM 29 (0, 0))) := ⟨below_alloc JB.out _, blk_new we _⟩
        change wpAnyLast _ _ _ _ _ _ _ _ _ (we.alloc (.cells zeroM 29))
        generalize we.alloc (.cells zeroM 29) = u at JU hHeld ⊢
        refine one_ (i := 2) (N := some 8) (V 6 15) rfl rfl (one_of HT_.out (by kernel_rfl)) (by decide) (fun K hK => ?_)
        refine value_ (w1 := ?_) (v := ?_) (by rfl) rfl ?_ ?_; rotate_left 2
        · go_simp
          constructor
          · rfl
          · rfl
        refine hK.out _ _ (blk_below JX.out.a (below_step JU.out.1 (below_alloc (Below.refl _ _) _))) (fun hHeld => ?_)
        clear hK K
        refine norm_ (a' := putAll _ _) ?_ (G.out (u.heap.size, we.heap.size) _ ⟨below_step JU.out.1 (below_alloc (Below.refl _ _) _), blk_new u _, blk_below JU.out.2 (below_alloc (Below.refl _ _) _), JU.out.1.size, Nat.le_refl _, (by have := (Array.getElem?_eq_some_iff.1 JU.out.2).1; show (_ : Nat) ≠ _; dsimp only; omega)⟩)
        simp only [putAll, Act.put, List.setIfInBounds_toArray, List.set_cons_zero, List.set_cons_succ]
    rintro ⟨p8, p9⟩ u ⟨jb, j8, j9, l8, l9, ne⟩
    dsimp only at j8 j9 l8 l9 ne ⊢
    have hHeld : u.heap[q]? = some (.cells xc 29 (0, 0)) := blk_below JX.out.a jb
    have JU := Aside0.mk (And.intro jb (And.intro j8 (And.intro j9 (And.intro l8 (And.intro l9 ne))))); clear jb j8 j9 l8 l9 ne JB
    refine norm_ (a' := ?_) ?_ ?_; rotate_left
    · simp only [putAll, Act.put, List.setIfInBounds_toArray, List.set_cons_zero, List.set_cons_succ]; rfl
    refine one_ (i := 4) (N := none) (V 6 31) rfl rfl (one_of HT_.out (by kernel_rfl)) (by decide) (fun K hK => ?_)
    refine Go.Proofs.Ythdjodamdakjbaa.Fill.skip_event (by rfl) rfl 29 _ _ rfl p8 xc rfl rfl 29 zeroM JU.out.2.1 HX.out.1 (by rw [HX.out.2.1]; rfl) HX.out.2.2 ?_
    intro w9 ea eb ec
    have JV : Aside0 (w9.heap[p8]? = some (.cells xc 29 (0, 0)) ∧ w9.heap[p9]? = some (.cells zeroM 29 (0, 0)) ∧ Below we.heap.size we w9) := ⟨ea, (eb.2 p9 (Array.getElem?_eq_some_iff.1 JU.out.2.2.1).1 (fun h => JU.out.2.2.2.2.2 h.symm) (by simp)).trans JU.out.2.2.1, ec _ _ JU.out.1 JU.out.2.2.2.1⟩
    clear ea eb ec hHeld
    refine hK.out _ _ (blk_below JX.out.a JV.out.2.2) (fun hHeld => ?_)
    clear hK K
    refine one_ (i := 5) (N := none) (V 6 63) rfl rfl (one_of HT_.out (by kernel_rfl)) (by decide) (fun K hK => ?_)
    refine Go.Proofs.Ythdjodamdakjbaa.Fill.skip_event (by rfl) rfl 29 _ _ rfl p9 xc rfl rfl 29 zeroM JV.out.2.1 HX.out.1 (by rw [HX.out.2.1]; rfl) HX.out.2.2 ?_
    intro w10 ea eb ec
    have hbe := ec _ _ JV.out.2.2 JU.out.2.2.2.2.1
    have lo := JX.out.bel.size
    have JY : Aside0 (AY w3 p8 p9 xc xc w10) := ⟨⟨(eb.2 p8 (Array.getElem?_eq_some_iff.1 JV.out.1).1 JU.out.2.2.2.2.2 (by simp)).trans JV.out.1, below_step JX.out.bel hbe, Nat.le_trans lo JU.out.2.2.2.1⟩, ⟨ea, below_step JX.out.bel hbe, Nat.le_trans lo JU.out.2.2.2.2.1⟩, JU.out.2.2.2.2.2⟩
    have hq10 := blk_below JX.out.a hbe; clear hbe lo
    clear ea eb ec hHeld
    refine hK.out _ _ (hq10) (fun hHeld => ?_)
    clear hK K
    refine done_ (done_of HT_.out (by kernel_rfl)) ?_
    clear hHeld hq10 HT_ HW_ JU JV JX
    rw [HXC.out] at JY
    go_upto_region 8 with fail
    have dq5 := (blk_cell JY.out.a.a 5).trans (show _ = some (Value.string z.f5) from rfl); have zq5 := blk_frozen JY.out.a.a 5
    have dq6 := (blk_cell JY.out.a.a 6).trans (show _ = some (Value.int .u64 z.f6) from rfl); have zq6 := blk_frozen JY.out.a.a 6
    go_upto_region 9 with fail
    have JQ := Aside0.mk (AY.setA (yc' := rowM (noCur (mixM z x) amount) (.slice B16 z.f15.length d16) (.slice A19 x.f18.length c19) (.slice B20 z.f19.length d20)) (AY.setA (yc' := rowM { (mixM z x) with f5 := ⟨#[]⟩ } (.slice B16 z.f15.length d16) (.slice A19 x.f18.length c19) (.slice B20 z.f19.length d20)) JY.out 5 (.string ⟨#[]⟩) rfl) 6 (.int .u64 amount) rfl); clear JY dq5 dq6 zq5 zq6; have JY := JQ; clear JQ
    revert JY
    generalize (World.setCell (World.setCell w10 _ _) _ _) = w11
    intro JY
    have dq14 := (blk_cell JY.out.b.a 14).trans (show _ = some (Value.int .i64 z.f14.f0) from rfl); have zq14 := blk_frozen JY.out.b.a 14
    have dq15 := (blk_cell JY.out.b.a 15).trans (show _ = some (Value.string z.f14.f1) from rfl); have zq15 := blk_frozen JY.out.b.a 15
    go_upto_region 10 with fail
    have JQ := Aside0.mk (AY.setB (uc' := rowM (otherO (mixM z x) stan) (.slice B16 z.f15.length d16) (.slice A19 x.f18.length c19) (.slice B20 z.f19.length d20)) (AY.setB (uc' := rowM { (mixM z x) with f14 := ⟨stan, z.f14.f1⟩ } (.slice B16 z.f15.length d16) (.slice A19 x.f18.length c19) (.slice B20 z.f19.length d20)) JY.out 14 (.int .i64 stan) rfl) 15 (.string ⟨#[]⟩) rfl); clear JY dq14 dq15 zq14 zq15; have JY := JQ; clear JQ
    obtain ⟨yc, hyc⟩ : ∃ c, c = rowM (noCur (mixM z x) amount) (.slice B16 z.f15.length d16) (.slice A19 x.f18.length c19) (.slice B20 z.f19.length d20) := ⟨_, rfl⟩
    obtain ⟨uc, huc⟩ : ∃ c, c = rowM (otherO (mixM z x) stan) (.slice B16 z.f15.length d16) (.slice A19 x.f18.length c19) (.slice B20 z.f19.length d20) := ⟨_, rfl⟩
    have HYK : Aside0 (∀ W', Below w3.heap.size w3 W' → k29.K W' (noCur (mixM z x) amount) yc.toList) := ⟨fun W' hW => by rw [hyc]; exact HKK.out W' hW (noCur (mixM z x) amount) rfl rfl rfl⟩
    have HUK : Aside0 (∀ W', Below w3.heap.size w3 W' → k29.K W' (otherO (mixM z x) stan) uc.toList) := ⟨fun W' hW => by rw [huc]; exact HKK.out W' hW (otherO (mixM z x) stan) rfl rfl rfl⟩
    rw [← hyc, ← huc] at JY; clear hyc huc HKK HX HXC HXK
    have HY := Aside0.mk (And.intro (info29 (HYK.out _ JY.out.a.bel)) (info29 (HUK.out _ JY.out.b.bel)))
    obtain ⟨r1, hr1, hq1⟩ := cur_fits x HZ.out amount; have HF1 := Aside0.mk hr1; have HQ1 := Aside0.mk hq1; clear hr1 hq1
    obtain ⟨r2, hr2, hq2⟩ := ori_fits x HZ.out stan; have HF2 := Aside0.mk hr2; have HQ2 := Aside0.mk hq2; clear hr2 hq2
    have e1 : (r1 == r1) = true := beq_self_eq_true _
    have e2 : (r2 == r2) = true := beq_self_eq_true _
    revert JY
    generalize (World.setCell (World.setCell w11 _ _) _ _) = w12
    intro JY
    have JQ := Aside0.mk (JY.out.below (below_drew1 (Below.refl _ _))); clear JY; have JY := JQ; clear JQ
    refine start_ (n := 31) (ds := []) (S := fun w' => w'.heap[p8]? = some (.cells yc 29 (0, 0)) ∧ w'.heap[p9]? = some (.cells uc 29 (0, 0))) (V 31 0) (by rfl) (by rfl) (by kernel_rfl) (⟨JY.out.a.a, JY.out.b.a⟩) (fun hHeld => ?_); refine with_tabW tab4_10 bits4_10 (fun HT_ HW_ => ?_)
    generalize w12.drew = wz at JY hHeld ⊢
    refine take_ (i := 0) (N := some 46) (v := .agg yc) (a' := ?_) (V 31 1) rfl rfl (take_ofW HT_.out HW_.out (by kernel_rfl)) (fun _ _ _ h => h) (Or.inl ⟨by rfl, fun w' hs => Go.Proofs.Ythdjodamdakjbaa.Fill.row_yields 29 _ rfl p8 rfl 29 yc (0, 0) _ hs.1 hu29.out rfl HY.out.1⟩) hHeld ?_ ?_; rotate_left
    · simp only [Act.put, List.setIfInBounds_toArray, List.set_cons_zero, List.set_cons_succ, i64_w, i32_w]; rfl
    refine take_ (i := 2) (N := some 48) (v := .agg yc) (a' := ?_) (V 31 5) rfl rfl (take_ofW HT_.out HW_.out (by kernel_rfl)) (fun _ _ _ h => h) (Or.inl ⟨by rfl, fun w' hs => Go.Proofs.Ythdjodamdakjbaa.Fill.row_yields 29 _ rfl p8 rfl 29 yc (0, 0) _ hs.1 hu29.out rfl HY.out.1⟩) hHeld ?_ ?_; rotate_left
    · simp only [Act.put, List.setIfInBounds_toArray, List.set_cons_zero, List.set_cons_succ, i64_w, i32_w]; rfl
    refine one_ (i := 1) (N := some 47) (V 31 7) rfl rfl (one_of HT_.out (by kernel_rfl)) (by decide) (fun K hK => ?_)
    refine goes_ Try.func12 (by kernel_rfl) rfl #[.agg yc] (by rfl) rfl rfl (by (try simp only [List.map_toArray, List.map_cons, List.map_nil]); first | done | rfl) ?_
    with_reducible refine (fits_x (noCur (mixM z x) amount) yc r1 _ (HYK.out _ JY.out.a.bel) HF1.out).mono ?_
    rintro e w101 ⟨rfl, hb⟩
    refine ⟨_, rfl, ?_⟩
    have JQ := Aside0.mk (JY.out.below hb); clear JY hHeld hb; have JY := JQ; clear JQ
    refine hK.out _ _ (⟨JY.out.a.a, JY.out.b.a⟩) (fun hHeld => ?_)
    clear hK K
    refine norm_ (a' := ?_) ?_ ?_; rotate_left
    · show Act.put _ (some 47) _ = _; simp only [Act.put, List.setIfInBounds_toArray, List.set_cons_zero, List.set_cons_succ, i64_w, i32_w]; rfl
    refine one_ (i := 3) (N := some 49) (V 31 15) rfl rfl (one_of HT_.out (by kernel_rfl)) (by decide) (fun K hK => ?_)
    refine goes_ Try.func15 (by kernel_rfl) rfl #[.agg yc] (by rfl) rfl rfl (by (try simp only [List.map_toArray, List.map_cons, List.map_nil]); first | done | rfl) ?_
    with_reducible refine (ref_x (noCur (mixM z x) amount) yc r1 _ (HYK.out _ JY.out.a.bel) HF1.out).mono ?_
    rintro e w103 ⟨rfl, hb⟩
    refine ⟨_, rfl, ?_⟩
    have JQ := Aside0.mk (JY.out.below hb); clear JY hHeld hb; have JY := JQ; clear JQ
    refine hK.out _ _ (⟨JY.out.a.a, JY.out.b.a⟩) (fun hHeld => ?_)
    clear hK K
    refine norm_ (a' := ?_) ?_ ?_; rotate_left
    · show Act.put _ (some 49) _ = _; simp only [Act.put, List.setIfInBounds_toArray, List.set_cons_zero, List.set_cons_succ, i64_w, i32_w]; rfl
    refine pure_ (i := 4) (N := some 50) (v := ?_) (a' := ?_) (V 31 31) rfl rfl (any_of HT_.out (by kernel_rfl)) (fun _ _ _ h => h) (Or.inl ⟨by rfl, ?_⟩) ?_ ?_; rotate_left
    · intro w'; go_simp; with_reducible rfl
    rotate_left
    · simp only [Act.put, List.setIfInBounds_toArray, List.set_cons_zero, List.set_cons_succ, i64_w, i32_w]; rfl
    refine pure_ (i := 5) (N := some 51) (v := ?_) (a' := ?_) (V 31 63) rfl rfl (any_of HT_.out (by kernel_rfl)) (fun _ _ _ h => h) (Or.inl ⟨by rfl, ?_⟩) ?_ ?_; rotate_left
    · intro w'; go_simp; with_reducible rfl
    rotate_left
    · simp only [Act.put, List.setIfInBounds_toArray, List.set_cons_zero, List.set_cons_succ, i64_w, i32_w]; rfl
    refine take_ (i := 6) (N := some 52) (v := .agg uc) (a' := ?_) (V 31 127) rfl rfl (take_ofW HT_.out HW_.out (by kernel_rfl)) (fun _ _ _ h => h) (Or.inl ⟨by rfl, fun w' hs => Go.Proofs.Ythdjodamdakjbaa.Fill.row_yields 29 _ rfl p9 rfl 29 uc (0, 0) _ hs.2 hu29.out rfl HY.out.2⟩) hHeld ?_ ?_; rotate_left
    · simp only [Act.put, List.setIfInBounds_toArray, List.set_cons_zero, List.set_cons_succ, i64_w, i32_w]; rfl
    refine take_ (i := 8) (N := some 54) (v := .agg uc) (a' := ?_) (V 31 383) rfl rfl (take_ofW HT_.out HW_.out (by kernel_rfl)) (fun _ _ _ h => h) (Or.inl ⟨by rfl, fun w' hs => Go.Proofs.Ythdjodamdakjbaa.Fill.row_yields 29 _ rfl p9 rfl 29 uc (0, 0) _ hs.2 hu29.out rfl HY.out.2⟩) hHeld ?_ ?_; rotate_left
    · simp only [Act.put, List.setIfInBounds_toArray, List.set_cons_zero, List.set_cons_succ, i64_w, i32_w]; rfl
    refine one_ (i := 7) (N := some 53) (V 31 511) rfl rfl (one_of HT_.out (by kernel_rfl)) (by decide) (fun K hK => ?_)
    refine goes_ Try.func12 (by kernel_rfl) rfl #[.agg uc] (by rfl) rfl rfl (by (try simp only [List.map_toArray, List.map_cons, List.map_nil]); first | done | rfl) ?_
    with_reducible refine (fits_x (otherO (mixM z x) stan) uc r2 _ (HUK.out _ JY.out.b.bel) HF2.out).mono ?_
    rintro e w107 ⟨rfl, hb⟩
    refine ⟨_, rfl, ?_⟩
    have JQ := Aside0.mk (JY.out.below hb); clear JY hHeld hb; have JY := JQ; clear JQ
    refine hK.out _ _ (⟨JY.out.a.a, JY.out.b.a⟩) (fun hHeld => ?_)
    clear hK K
    refine norm_ (a' := ?_) ?_ ?_; rotate_left
    · show Act.put _ (some 53) _ = _; simp only [Act.put, List.setIfInBounds_toArray, List.set_cons_zero, List.set_cons_succ, i64_w, i32_w]; rfl
    refine one_ (i := 9) (N := some 55) (V 31 1023) rfl rfl (one_of HT_.out (by kernel_rfl)) (by decide) (fun K hK => ?_)
    refine goes_ Try.func15 (by kernel_rfl) rfl #[.agg uc] (by rfl) rfl rfl (by (try simp only [List.map_toArray, List.map_cons, List.map_nil]); first | done | rfl) ?_
    with_reducible refine (ref_x (otherO (mixM z x) stan) uc r2 _ (HUK.out _ JY.out.b.bel) HF2.out).mono ?_
    rintro e w109 ⟨rfl, hb⟩
    refine ⟨_, rfl, ?_⟩
    have JQ := Aside0.mk (JY.out.below hb); clear JY hHeld hb; have JY := JQ; clear JQ
    refine hK.out _ _ (⟨JY.out.a.a, JY.out.b.a⟩) (fun hHeld => ?_)
    clear hK K
    refine norm_ (a' := ?_) ?_ ?_; rotate_left
    · show Act.put _ (some 55) _ = _; simp only [Act.put, List.setIfInBounds_toArray, List.set_cons_zero, List.set_cons_succ, i64_w, i32_w]; rfl
    refine pure_ (i := 10) (N := some 56) (v := ?_) (a' := ?_) (V 31 2047) rfl rfl (any_of HT_.out (by kernel_rfl)) (fun _ _ _ h => h) (Or.inl ⟨by rfl, ?_⟩) ?_ ?_; rotate_left
    · intro w'; go_simp; with_reducible rfl
    rotate_left
    · simp only [Act.put, List.setIfInBounds_toArray, List.set_cons_zero, List.set_cons_succ, i64_w, i32_w]; rfl
    refine pure_ (i := 11) (N := some 57) (v := ?_) (a' := ?_) (V 31 4095) rfl rfl (any_of HT_.out (by kernel_rfl)) (fun _ _ _ h => h) (Or.inl ⟨by rfl, ?_⟩) ?_ ?_; rotate_left
    · intro w'; go_simp; with_reducible rfl
    rotate_left
    · simp only [Act.put, List.setIfInBounds_toArray, List.set_cons_zero, List.set_cons_succ, i64_w, i32_w]; rfl
    refine pure_ (i := 12) (N := some 58) (v := ?_) (a' := ?_) (V 31 8191) rfl rfl (any_of HT_.out (by kernel_rfl)) (fun _ _ _ h => h) (Or.inl ⟨by rfl, ?_⟩) ?_ ?_; rotate_left
    · intro w'; go_simp; with_reducible rfl
    rotate_left
    · simp only [Act.put, List.setIfInBounds_toArray, List.set_cons_zero, List.set_cons_succ, i64_w, i32_w]; rfl
    refine pure_ (i := 13) (N := some 59) (v := ?_) (a' := ?_) (V 31 16383) rfl rfl (any_of HT_.out (by kernel_rfl)) (fun _ _ _ h => h) (Or.inl ⟨by rfl, ?_⟩) ?_ ?_; rotate_left
    · intro w'; go_simp; with_reducible rfl
    rotate_left
    · simp only [Act.put, List.setIfInBounds_toArray, List.set_cons_zero, List.set_cons_succ, i64_w, i32_w]; rfl
    by_cases ha0 : amount = 0
    · skip
      subst ha0
      refine pure_ (i := 14) (N := some 60) (v := ?_) (a' := ?_) (V 31 32767) rfl rfl (any_of HT_.out (by kernel_rfl)) (fun _ _ _ h => h) (Or.inl ⟨by rfl, ?_⟩) ?_ ?_; rotate_left
      · intro w'; go_simp; with_reducible rfl
      rotate_left
      · simp only [Act.put, List.setIfInBounds_toArray, List.set_cons_zero, List.set_cons_succ, i64_w, i32_w]; rfl
      refine pure_ (i := 15) (N := some 61) (v := ?_) (a' := ?_) (V 31 65535) rfl rfl (any_of HT_.out (by kernel_rfl)) (fun _ _ _ h => h) (Or.inl ⟨by rfl, ?_⟩) ?_ ?_; rotate_left
      · intro w'; go_simp; with_reducible rfl
      rotate_left
      · simp only [Act.put, List.setIfInBounds_toArray, List.set_cons_zero, List.set_cons_succ, i64_w, i32_w]; rfl
      refine pure_ (i := 16) (N := some 62) (v := undef) (a' := ?_) (V 31 131071) rfl rfl (any_of HT_.out (by kernel_rfl)) (fun _ _ _ h => h) (Or.inr ⟨by rfl, rfl⟩) ?_ ?_; rotate_left
      · simp only [Act.put, List.setIfInBounds_toArray, List.set_cons_zero, List.set_cons_succ, i64_w, i32_w]; rfl
      refine pure_ (i := 17) (N := some 63) (v := undef) (a' := ?_) (V 31 262143) rfl rfl (any_of HT_.out (by kernel_rfl)) (fun _ _ _ h => h) (Or.inr ⟨by rfl, rfl⟩) ?_ ?_; rotate_left
      · simp only [Act.put, List.setIfInBounds_toArray, List.set_cons_zero, List.set_cons_succ, i64_w, i32_w]; rfl
      refine pure_ (i := 18) (N := some 64) (v := undef) (a' := ?_) (V 31 524287) rfl rfl (any_of HT_.out (by kernel_rfl)) (fun _ _ _ h => h) (Or.inr ⟨by rfl, rfl⟩) ?_ ?_; rotate_left
      · simp only [Act.put, List.setIfInBounds_toArray, List.set_cons_zero, List.set_cons_succ, i64_w, i32_w]; rfl
      refine pure_ (i := 19) (N := some 65) (v := ?_) (a' := ?_) (V 31 1048575) rfl rfl (any_of HT_.out (by kernel_rfl)) (fun _ _ _ h => h) (Or.inl ⟨by rfl, ?_⟩) ?_ ?_; rotate_left
      · intro w'; go_simp; with_reducible rfl
      rotate_left
      · simp only [Act.put, List.setIfInBounds_toArray, List.set_cons_zero, List.set_cons_succ, i64_w, i32_w]; rfl
      refine pure_ (i := 20) (N := some 66) (v := ?_) (a' := ?_) (V 31 2097151) rfl rfl (any_of HT_.out (by kernel_rfl)) (fun _ _ _ h => h) (Or.inl ⟨by rfl, ?_⟩) ?_ ?_; rotate_left
      · intro w'; go_simp; with_reducible rfl
      rotate_left
      · simp only [Act.put, List.setIfInBounds_toArray, List.set_cons_zero, List.set_cons_succ, i64_w, i32_w]; rfl
      refine pure_ (i := 21) (N := some 67) (v := ?_) (a' := ?_) (V 31 4194303) rfl rfl (any_of HT_.out (by kernel_rfl)) (fun _ _ _ h => h) (Or.inl ⟨by rfl, ?_⟩) ?_ ?_; rotate_left
      · intro w'; go_simp; with_reducible rfl
      rotate_left
      · simp only [Act.put, List.setIfInBounds_toArray, List.set_cons_zero, List.set_cons_succ, i64_w, i32_w]; rfl
      refine pure_ (i := 22) (N := some 68) (v := ?_) (a' := ?_) (V 31 8388607) rfl rfl (any_of HT_.out (by kernel_rfl)) (fun _ _ _ h => h) (Or.inl ⟨by rfl, ?_⟩) ?_ ?_; rotate_left
      · intro w'; go_simp; with_reducible rfl
      rotate_left
      · simp only [Act.put, List.setIfInBounds_toArray, List.set_cons_zero, List.set_cons_succ, i64_w, i32_w]; rfl
      by_cases ha1 : stan = 0
      · skip
        subst ha1
        refine pure_ (i := 23) (N := some 69) (v := ?_) (a' := ?_) (V 31 16777215) rfl rfl (any_of HT_.out (by kernel_rfl)) (fun _ _ _ h => h) (Or.inl ⟨by rfl, ?_⟩) ?_ ?_; rotate_left
        · intro w'; go_simp; with_reducible rfl
        rotate_left
        · simp only [Act.put, List.setIfInBounds_toArray, List.set_cons_zero, List.set_cons_succ, i64_w, i32_w]; rfl
        refine pure_ (i := 24) (N := some 70) (v := ?_) (a' := ?_) (V 31 33554431) rfl rfl (any_of HT_.out (by kernel_rfl)) (fun _ _ _ h => h) (Or.inl ⟨by rfl, ?_⟩) ?_ ?_; rotate_left
        · intro w'; go_simp; with_reducible rfl
        rotate_left
        · simp only [Act.put, List.setIfInBounds_toArray, List.set_cons_zero, List.set_cons_succ, i64_w, i32_w]; rfl
        refine pure_ (i := 25) (N := some 71) (v := undef) (a' := ?_) (V 31 67108863) rfl rfl (any_of HT_.out (by kernel_rfl)) (fun _ _ _ h => h) (Or.inr ⟨by rfl, rfl⟩) ?_ ?_; rotate_left
        · simp only [Act.put, List.setIfInBounds_toArray, List.set_cons_zero, List.set_cons_succ, i64_w, i32_w]; rfl
        refine pure_ (i := 26) (N := some 72) (v := undef) (a' := ?_) (V 31 134217727) rfl rfl (any_of HT_.out (by kernel_rfl)) (fun _ _ _ h => h) (Or.inr ⟨by rfl, rfl⟩) ?_ ?_; rotate_left
        · simp only [Act.put, List.setIfInBounds_toArray, List.set_cons_zero, List.set_cons_succ, i64_w, i32_w]; rfl
        refine pure_ (i := 27) (N := some 73) (v := undef) (a' := ?_) (V 31 268435455) rfl rfl (any_of HT_.out (by kernel_rfl)) (fun _ _ _ h => h) (Or.inr ⟨by rfl, rfl⟩) ?_ ?_; rotate_left
        · simp only [Act.put, List.setIfInBounds_toArray, List.set_cons_zero, List.set_cons_succ, i64_w, i32_w]; rfl
        refine pure_ (i := 28) (N := some 74) (v := ?_) (a' := ?_) (V 31 536870911) rfl rfl (any_of HT_.out (by kernel_rfl)) (fun _ _ _ h => h) (Or.inl ⟨by rfl, ?_⟩) ?_ ?_; rotate_left
        · intro w'; go_simp; with_reducible rfl
        rotate_left
        · simp only [Act.put, List.setIfInBounds_toArray, List.set_cons_zero, List.set_cons_succ, i64_w, i32_w]; rfl
        refine pure_ (i := 29) (N := some 75) (v := ?_) (a' := ?_) (V 31 1073741823) rfl rfl (any_of HT_.out (by kernel_rfl)) (fun _ _ _ h => h) (Or.inl ⟨by rfl, ?_⟩) ?_ ?_; rotate_left
        · intro w'; go_simp; with_reducible rfl
        rotate_left
        · simp only [Act.put, List.setIfInBounds_toArray, List.set_cons_zero, List.set_cons_succ, i64_w, i32_w]; rfl
        refine pure_ (i := 30) (N := some 6) (v := ?_) (a' := ?_) (V 31 2147483647) rfl rfl (any_of HT_.out (by kernel_rfl)) (fun _ _ _ h => h) (Or.inl ⟨by rfl, ?_⟩) ?_ ?_; rotate_left
        · intro w'; go_simp; with_reducible rfl
        rotate_left
        · simp only [Act.put, List.setIfInBounds_toArray, List.set_cons_zero, List.set_cons_succ, i64_w, i32_w]; rfl
        refine done_ (done_of HT_.out (by kernel_rfl)) ?_
        go_wp2_with fail
        go_ret
        exact ⟨rfl, below_step J2.out.2.2 JY.out.a.bel⟩
      · skip
        have hn := HQ2.out ha1; subst hn
        have q1 : (stan == 0) = false := beq_eq_false_iff_ne.mpr ha1
        have q2 : decide (stan = 0) = false := decide_eq_false ha1
        refine pure_ (i := 23) (N := some 69) (v := ?_) (a' := ?_) (V 31 16777215) rfl rfl (any_of HT_.out (by kernel_rfl)) (fun _ _ _ h => h) (Or.inl ⟨by rfl, ?_⟩) ?_ ?_; rotate_left
        · intro w'; go_simp; with_reducible rfl
        rotate_left
        · simp only [Act.put, List.setIfInBounds_toArray, List.set_cons_zero, List.set_cons_succ, i64_w, i32_w]; rfl
        refine pure_ (i := 24) (N := some 70) (v := ?_) (a' := ?_) (V 31 33554431) rfl rfl (any_of HT_.out (by kernel_rfl)) (fun _ _ _ h => h) (Or.inl ⟨by rfl, ?_⟩) ?_ ?_; rotate_left
        · intro w'; go_simp; with_reducible rfl
        rotate_left
        · simp only [Act.put, List.setIfInBounds_toArray, List.set_cons_zero, List.set_cons_succ, i64_w, i32_w]; rfl
        clear q1 q2
        refine take_ (i := 25) (N := some 71) (v := .agg uc) (a' := ?_) (V 31 67108863) rfl rfl (take_ofW HT_.out HW_.out (by kernel_rfl)) (fun _ _ _ h => h) (Or.inl ⟨by rfl, fun w' hs => Go.Proofs.Ythdjodamdakjbaa.Fill.row_yields 29 _ rfl p9 rfl 29 uc (0, 0) _ hs.2 hu29.out rfl HY.out.2⟩) hHeld ?_ ?_; rotate_left
        · simp only [Act.put, List.setIfInBounds_toArray, List.set_cons_zero, List.set_cons_succ, i64_w, i32_w]; rfl
        refine one_ (i := 26) (N := some 72) (V 31 134217727) rfl rfl (one_of HT_.out (by kernel_rfl)) (by decide) (fun K hK => ?_)
        refine goes_ Try.func12 (by kernel_rfl) rfl #[.agg uc] (by rfl) rfl rfl (by (try simp only [List.map_toArray, List.map_cons, List.map_nil]); first | done | rfl) ?_
        with_reducible refine (fits_x _ uc 19 _ (HUK.out _ JY.out.b.bel) HF2.out).mono ?_
        rintro e w126 ⟨rfl, hb⟩
        refine ⟨_, rfl, ?_⟩
        have JQ := Aside0.mk (JY.out.below hb); clear JY hHeld hb; have JY := JQ; clear JQ
        refine hK.out _ _ (⟨JY.out.a.a, JY.out.b.a⟩) (fun hHeld => ?_)
        clear hK K
        refine norm_ (a' := ?_) ?_ ?_; rotate_left
        · show Act.put _ (some 72) _ = _; simp only [Act.put, List.setIfInBounds_toArray, List.set_cons_zero, List.set_cons_succ, i64_w, i32_w]; rfl
        refine pure_ (i := 27) (N := some 73) (v := ?_) (a' := ?_) (V 31 268435455) rfl rfl (any_of HT_.out (by kernel_rfl)) (fun _ _ _ h => h) (Or.inl ⟨by rfl, ?_⟩) ?_ ?_; rotate_left
        · intro w'; go_simp; with_reducible rfl
        rotate_left
        · simp only [Act.put, List.setIfInBounds_toArray, List.set_cons_zero, List.set_cons_succ, i64_w, i32_w]; rfl
        refine pure_ (i := 28) (N := some 74) (v := ?_) (a' := ?_) (V 31 536870911) rfl rfl (any_of HT_.out (by kernel_rfl)) (fun _ _ _ h => h) (Or.inl ⟨by rfl, ?_⟩) ?_ ?_; rotate_left
        · intro w'; go_simp; with_reducible rfl
        rotate_left
        · simp only [Act.put, List.setIfInBounds_toArray, List.set_cons_zero, List.set_cons_succ, i64_w, i32_w]; rfl
        refine pure_ (i := 29) (N := some 75) (v := ?_) (a' := ?_) (V 31 1073741823) rfl rfl (any_of HT_.out (by kernel_rfl)) (fun _ _ _ h => h) (Or.inl ⟨by rfl, ?_⟩) ?_ ?_; rotate_left
        · intro w'; go_simp; with_reducible rfl
        rotate_left
        · simp only [Act.put, List.setIfInBounds_toArray, List.set_cons_zero, List.set_cons_succ, i64_w, i32_w]; rfl
        refine pure_ (i := 30) (N := some 6) (v := ?_) (a' := ?_) (V 31 2147483647) rfl rfl (any_of HT_.out (by kernel_rfl)) (fun _ _ _ h => h) (Or.inl ⟨by rfl, ?_⟩) ?_ ?_; rotate_left
        · intro w'; go_simp; with_reducible rfl
        rotate_left
        · simp only [Act.put, List.setIfInBounds_toArray, List.set_cons_zero, List.set_cons_succ, i64_w, i32_w]; rfl
        refine done_ (done_of HT_.out (by kernel_rfl)) ?_
        go_wp2_with fail
        go_ret
        exact ⟨rfl, below_step J2.out.2.2 JY.out.a.bel⟩
    · skip
      have hn := HQ1.out ha0; subst hn
      have q1 : (amount == 0) = false := beq_eq_false_iff_ne.mpr ha0
      have q2 : decide (amount = 0) = false := decide_eq_false ha0
      refine pure_ (i := 14) (N := some 60) (v := ?_) (a' := ?_) (V 31 32767) rfl rfl (any_of HT_.out (by kernel_rfl)) (fun _ _ _ h => h) (Or.inl ⟨by rfl, ?_⟩) ?_ ?_; rotate_left
      · intro w'; go_simp; with_reducible rfl
      rotate_left
      · simp only [Act.put, List.setIfInBounds_toArray, List.set_cons_zero, List.set_cons_succ, i64_w, i32_w]; rfl
      refine pure_ (i := 15) (N := some 61) (v := ?_) (a' := ?_) (V 31 65535) rfl rfl (any_of HT_.out (by kernel_rfl)) (fun _ _ _ h => h) (Or.inl ⟨by rfl, ?_⟩) ?_ ?_; rotate_left
      · intro w'; go_simp; with_reducible rfl
      rotate_left
      · simp only [Act.put, List.setIfInBounds_toArray, List.set_cons_zero, List.set_cons_succ, i64_w, i32_w]; rfl
      clear q1 q2
      refine take_ (i := 16) (N := some 62) (v := .agg yc) (a' := ?_) (V 31 131071) rfl rfl (take_ofW HT_.out HW_.out (by kernel_rfl)) (fun _ _ _ h => h) (Or.inl ⟨by rfl, fun w' hs => Go.Proofs.Ythdjodamdakjbaa.Fill.row_yields 29 _ rfl p8 rfl 29 yc (0, 0) _ hs.1 hu29.out rfl HY.out.1⟩) hHeld ?_ ?_; rotate_left
      · simp only [Act.put, List.setIfInBounds_toArray, List.set_cons_zero, List.set_cons_succ, i64_w, i32_w]; rfl
      refine one_ (i := 17) (N := some 63) (V 31 262143) rfl rfl (one_of HT_.out (by kernel_rfl)) (by decide) (fun K hK => ?_)
      refine goes_ Try.func12 (by kernel_rfl) rfl #[.agg yc] (by rfl) rfl rfl (by (try simp only [List.map_toArray, List.map_cons, List.map_nil]); first | done | rfl) ?_
      with_reducible refine (fits_x _ yc 19 _ (HYK.out _ JY.out.a.bel) HF1.out).mono ?_
      rintro e w117 ⟨rfl, hb⟩
      refine ⟨_, rfl, ?_⟩
      have JQ := Aside0.mk (JY.out.below hb); clear JY hHeld hb; have JY := JQ; clear JQ
      refine hK.out _ _ (⟨JY.out.a.a, JY.out.b.a⟩) (fun hHeld => ?_)
      clear hK K
      refine norm_ (a' := ?_) ?_ ?_; rotate_left
      · show Act.put _ (some 63) _ = _; simp only [Act.put, List.setIfInBounds_toArray, List.set_cons_zero, List.set_cons_succ, i64_w, i32_w]; rfl
      refine pure_ (i := 18) (N := some 64) (v := ?_) (a' := ?_) (V 31 524287) rfl rfl (any_of HT_.out (by kernel_rfl)) (fun _ _ _ h => h) (Or.inl ⟨by rfl, ?_⟩) ?_ ?_; rotate_left
      · intro w'; go_simp; with_reducible rfl
      rotate_left
      · simp only [Act.put, List.setIfInBounds_toArray, List.set_cons_zero, List.set_cons_succ, i64_w, i32_w]; rfl
      refine pure_ (i := 19) (N := some 65) (v := ?_) (a' := ?_) (V 31 1048575) rfl rfl (any_of HT_.out (by kernel_rfl)) (fun _ _ _ h => h) (Or.inl ⟨by rfl, ?_⟩) ?_ ?_; rotate_left
      · intro w'; go_simp; with_reducible rfl
      rotate_left
      · simp only [Act.put, List.setIfInBounds_toArray, List.set_cons_zero, List.set_cons_succ, i64_w, i32_w]; rfl
      refine pure_ (i := 20) (N := some 66) (v := ?_) (a' := ?_) (V 31 2097151) rfl rfl (any_of HT_.out (by kernel_rfl)) (fun _ _ _ h => h) (Or.inl ⟨by rfl, ?_⟩) ?_ ?_; rotate_left
      · intro w'; go_simp; with_reducible rfl
      rotate_left
      · simp only [Act.put, List.setIfInBounds_toArray, List.set_cons_zero, List.set_cons_succ, i64_w, i32_w]; rfl
      refine pure_ (i := 21) (N := some 67) (v := ?_) (a' := ?_) (V 31 4194303) rfl rfl (any_of HT_.out (by kernel_rfl)) (fun _ _ _ h => h) (Or.inl ⟨by rfl, ?_⟩) ?_ ?_; rotate_left
      · intro w'; go_simp; with_reducible rfl
      rotate_left
      · simp only [Act.put, List.setIfInBounds_toArray, List.set_cons_zero, List.set_cons_succ, i64_w, i32_w]; rfl
      refine pure_ (i := 22) (N := some 68) (v := ?_) (a' := ?_) (V 31 8388607) rfl rfl (any_of HT_.out (by kernel_rfl)) (fun _ _ _ h => h) (Or.inl ⟨by rfl, ?_⟩) ?_ ?_; rotate_left
      · intro w'; go_simp; with_reducible rfl
      rotate_left
      · simp only [Act.put, List.setIfInBounds_toArray, List.set_cons_zero, List.set_cons_succ, i64_w, i32_w]; rfl
      by_cases ha1 : stan = 0
      · skip
        subst ha1
        refine pure_ (i := 23) (N := some 69) (v := ?_) (a' := ?_) (V 31 16777215) rfl rfl (any_of HT_.out (by kernel_rfl)) (fun _ _ _ h => h) (Or.inl ⟨by rfl, ?_⟩) ?_ ?_; rotate_left
        · intro w'; go_simp; with_reducible rfl
        rotate_left
        · simp only [Act.put, List.setIfInBounds_toArray, List.set_cons_zero, List.set_cons_succ, i64_w, i32_w]; rfl
        refine pure_ (i := 24) (N := some 70) (v := ?_) (a' := ?_) (V 31 33554431) rfl rfl (any_of HT_.out (by kernel_rfl)) (fun _ _ _ h => h) (Or.inl ⟨by rfl, ?_⟩) ?_ ?_; rotate_left
        · intro w'; go_simp; with_reducible rfl
        rotate_left
        · simp only [Act.put, List.setIfInBounds_toArray, List.set_cons_zero, List.set_cons_succ, i64_w, i32_w]; rfl
        refine pure_ (i := 25) (N := some 71) (v := undef) (a' := ?_) (V 31 67108863) rfl rfl (any_of HT_.out (by kernel_rfl)) (fun _ _ _ h => h) (Or.inr ⟨by rfl, rfl⟩) ?_ ?_; rotate_left
        · simp only [Act.put, List.setIfInBounds_toArray, List.set_cons_zero, List.set_cons_succ, i64_w, i32_w]; rfl
        refine pure_ (i := 26) (N := some 72) (v := undef) (a' := ?_) (V 31 134217727) rfl rfl (any_of HT_.out (by kernel_rfl)) (fun _ _ _ h => h) (Or.inr ⟨by rfl, rfl⟩) ?_ ?_; rotate_left
        · simp only [Act.put, List.setIfInBounds_toArray, List.set_cons_zero, List.set_cons_succ, i64_w, i32_w]; rfl
        refine pure_ (i := 27) (N := some 73) (v := undef) (a' := ?_) (V 31 268435455) rfl rfl (any_of HT_.out (by kernel_rfl)) (fun _ _ _ h => h) (Or.inr ⟨by rfl, rfl⟩) ?_ ?_; rotate_left
        · simp only [Act.put, List.setIfInBounds_toArray, List.set_cons_zero, List.set_cons_succ, i64_w, i32_w]; rfl
        refine pure_ (i := 28) (N := some 74) (v := ?_) (a' := ?_) (V 31 536870911) rfl rfl (any_of HT_.out (by kernel_rfl)) (fun _ _ _ h => h) (Or.inl ⟨by rfl, ?_⟩) ?_ ?_; rotate_left
        · intro w'; go_simp; with_reducible rfl
        rotate_left
        · simp only [Act.put, List.setIfInBounds_toArray, List.set_cons_zero, List.set_cons_succ, i64_w, i32_w]; rfl
        refine pure_ (i := 29) (N := some 75) (v := ?_) (a' := ?_) (V 31 1073741823) rfl rfl (any_of HT_.out (by kernel_rfl)) (fun _ _ _ h => h) (Or.inl ⟨by rfl, ?_⟩) ?_ ?_; rotate_left
        · intro w'; go_simp; with_reducible rfl
        rotate_left
        · simp only [Act.put, List.setIfInBounds_toArray, List.set_cons_zero, List.set_cons_succ, i64_w, i32_w]; rfl
        refine pure_ (i := 30) (N := some 6) (v := ?_) (a' := ?_) (V 31 2147483647) rfl rfl (any_of HT_.out (by kernel_rfl)) (fun _ _ _ h => h) (Or.inl ⟨by rfl, ?_⟩) ?_ ?_; rotate_left
        · intro w'; go_simp; with_reducible rfl
        rotate_left
        · simp only [Act.put, List.setIfInBounds_toArray, List.set_cons_zero, List.set_cons_succ, i64_w, i32_w]; rfl
        refine done_ (done_of HT_.out (by kernel_rfl)) ?_
        go_wp2_with fail
        go_ret
        exact ⟨rfl, below_step J2.out.2.2 JY.out.a.bel⟩
      · skip
        have hn := HQ2.out ha1; subst hn
        have q1 : (stan == 0) = false := beq_eq_false_iff_ne.mpr ha1
        have q2 : decide (stan = 0) = false := decide_eq_false ha1
        refine pure_ (i := 23) (N := some 69) (v := ?_) (a' := ?_) (V 31 16777215) rfl rfl (any_of HT_.out (by kernel_rfl)) (fun _ _ _ h => h) (Or.inl ⟨by rfl, ?_⟩) ?_ ?_; rotate_left
        · intro w'; go_simp; with_reducible rfl
        rotate_left
        · simp only [Act.put, List.setIfInBounds_toArray, List.set_cons_zero, List.set_cons_succ, i64_w, i32_w]; rfl
        refine pure_ (i := 24) (N := some 70) (v := ?_) (a' := ?_) (V 31 33554431) rfl rfl (any_of HT_.out (by kernel_rfl)) (fun _ _ _ h => h) (Or.inl ⟨by rfl, ?_⟩) ?_ ?_; rotate_left
        · intro w'; go_simp; with_reducible rfl
        rotate_left
        · simp only [Act.put, List.setIfInBounds_toArray, List.set_cons_zero, List.set_cons_succ, i64_w, i32_w]; rfl
        clear q1 q2
        refine take_ (i := 25) (N := some 71) (v := .agg uc) (a' := ?_) (V 31 67108863) rfl rfl (take_ofW HT_.out HW_.out (by kernel_rfl)) (fun _ _ _ h => h) (Or.inl ⟨by rfl, fun w' hs => Go.Proofs.Ythdjodamdakjbaa.Fill.row_yields 29 _ rfl p9 rfl 29 uc (0, 0) _ hs.2 hu29.out rfl HY.out.2⟩) hHeld ?_ ?_; rotate_left
        · simp only [Act.put, List.setIfInBounds_toArray, List.set_cons_zero, List.set_cons_succ, i64_w, i32_w]; rfl
        refine one_ (i := 26) (N := some 72) (V 31 134217727) rfl rfl (one_of HT_.out (by kernel_rfl)) (by decide) (fun K hK => ?_)
        refine goes_ Try.func12 (by kernel_rfl) rfl #[.agg uc] (by rfl) rfl rfl (by (try simp only [List.map_toArray, List.map_cons, List.map_nil]); first | done | rfl) ?_
        with_reducible refine (fits_x _ uc 19 _ (HUK.out _ JY.out.b.bel) HF2.out).mono ?_
        rintro e w126 ⟨rfl, hb⟩
        refine ⟨_, rfl, ?_⟩
        have JQ := Aside0.mk (JY.out.below hb); clear JY hHeld hb; have JY := JQ; clear JQ
        refine hK.out _ _ (⟨JY.out.a.a, JY.out.b.a⟩) (fun hHeld => ?_)
        clear hK K
        refine norm_ (a' := ?_) ?_ ?_; rotate_left
        · show Act.put _ (some 72) _ = _; simp only [Act.put, List.setIfInBounds_toArray, List.set_cons_zero, List.set_cons_succ, i64_w, i32_w]; rfl
        refine pure_ (i := 27) (N := some 73) (v := ?_) (a' := ?_) (V 31 268435455) rfl rfl (any_of HT_.out (by kernel_rfl)) (fun _ _ _ h => h) (Or.inl ⟨by rfl, ?_⟩) ?_ ?_; rotate_left
        · intro w'; go_simp; with_reducible rfl
        rotate_left
        · simp only [Act.put, List.setIfInBounds_toArray, List.set_cons_zero, List.set_cons_succ, i64_w, i32_w]; rfl
        refine pure_ (i := 28) (N := some 74) (v := ?_) (a' := ?_) (V 31 536870911) rfl rfl (any_of HT_.out (by kernel_rfl)) (fun _ _ _ h => h) (Or.inl ⟨by rfl, ?_⟩) ?_ ?_; rotate_left
        · intro w'; go_simp; with_reducible rfl
        rotate_left
        · simp only [Act.put, List.setIfInBounds_toArray, List.set_cons_zero, List.set_cons_succ, i64_w, i32_w]; rfl
        refine pure_ (i := 29) (N := some 75) (v := ?_) (a' := ?_) (V 31 1073741823) rfl rfl (any_of HT_.out (by kernel_rfl)) (fun _ _ _ h => h) (Or.inl ⟨by rfl, ?_⟩) ?_ ?_; rotate_left
        · intro w'; go_simp; with_reducible rfl
        rotate_left
        · simp only [Act.put, List.setIfInBounds_toArray, List.set_cons_zero, List.set_cons_succ, i64_w, i32_w]; rfl
        refine pure_ (i := 30) (N := some 6) (v := ?_) (a' := ?_) (V 31 2147483647) rfl rfl (any_of HT_.out (by kernel_rfl)) (fun _ _ _ h => h) (Or.inl ⟨by rfl, ?_⟩) ?_ ?_; rotate_left
        · intro w'; go_simp; with_reducible rfl
        rotate_left
        · simp only [Act.put, List.setIfInBounds_toArray, List.set_cons_zero, List.set_cons_succ, i64_w, i32_w]; rfl
        refine done_ (done_of HT_.out (by kernel_rfl)) ?_
        go_wp2_with fail
        go_ret
        exact ⟨rfl, below_step J2.out.2.2 JY.out.a.bel⟩
end Go.Proofs.Ythdjodamdakjbaa.MK
