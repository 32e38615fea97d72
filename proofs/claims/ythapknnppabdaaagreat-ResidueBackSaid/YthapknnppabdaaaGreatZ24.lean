/- ResidueBack: part 24 of its proof. -/
import Derived.Test.YthapknnppabdaaaGreatZ23
import Derived.Test.YthapknnppabdaaaGreatZ02
namespace Go.Proofs.YthapknnppabdaaaGreat.MQ
open Go.RowKit Go.Proofs.YthapknnppabdaaaGreatW.PrintWords Go.Proofs.YthapknnppabdaaaGreatW.PrintLast Go.Proofs.YthapknnppabdaaaGreatW.PrintMore
set_option linter.unusedVariables false
set_option linter.unusedSimpArgs false
def quest : ByteArray := ⟨#[63]⟩
/-- May bits say such a text? -/
def saidB (s : ByteArray) (n : Int) : Bool := decide (1 ≤ (s.size : Int)) && decide ((s.size : Int) ≤ n) && allB s [(32, 126)]
def labF (s : ByteArray) (n : Int) : ByteArray := if s.toList = [] then s else if saidB s n = true then s else quest
def outF (s : ByteArray) (n : Int) : ByteArray := if s.toList = [] then ⟨#[]⟩ else if saidB s n = true then ⟨#[]⟩ else s
set_option maxHeartbeats 4000000 in
theorem label_e (s : ByteArray) (n : Int) (w : World) (hs : s.size ≤ 9223372036854775807) : Calls Tryz.prog 26 #[.string s, .int .i64 n] w fun e w' => e = .returned (.tuple #[.string (labF s n), .string (outF s n)]) ∧ Below w.heap.size w w' := by
  have ha : text_Ans.f s n = some (saidB s n) := by unfold text_Ans.f saidB; rw [if_pos hs]
  have HA := Aside0.mk (text_Ans.calls s n (saidB s n) w ha)
  have BW := Aside0.mk (Below.refl w.heap.size w)
  clear ha hs
  by_cases q : s.toList = []
  · have q1 : (s.toList == ([] : List UInt8)) = true := beq_iff_eq.mpr q
    have q2 : s.toList.isEmpty = true := by rw [q]; rfl
    have HL : Aside0 (labF s n = s ∧ outF s n = ⟨#[]⟩) := ⟨by unfold labF; rw [if_pos q], by unfold outF; rw [if_pos q]⟩
    replace q := Aside0.mk q
    go_enter Tryz.func26, Tryz.ntmps26
    go_wp2_with fail
    go_ret2
    exact ⟨by rw [HL.out.1, HL.out.2]; rfl, BW.out⟩
  · have q1 : (s.toList == ([] : List UInt8)) = false := beq_eq_false_iff_ne.mpr q
    have q2 : s.toList.isEmpty = false := by cases h : s.toList with | nil => exact absurd h q | cons a b => rfl
    go_enter Tryz.func26, Tryz.ntmps26
    cases hb : saidB s n with
    | true =>
      have HL : Aside0 (labF s n = s ∧ outF s n = ⟨#[]⟩) := ⟨by unfold labF; rw [if_neg q, if_pos hb], by unfold outF; rw [if_neg q, if_pos hb]⟩
      have HB := Aside0.mk hb
      replace q := Aside0.mk q
      clear hb
      go_wp2_with fail
      refine HA.out.mono ?_
      rintro e w' ⟨rfl, hB⟩
      rw [HB.out]
      go_wp2_with fail
      go_ret2
      exact ⟨by rw [HL.out.1, HL.out.2]; rfl, hB⟩
    | false =>
      have HL : Aside0 (labF s n = quest ∧ outF s n = s) := ⟨by unfold labF; rw [if_neg q, hb]; rfl, by unfold outF; rw [if_neg q, hb]; rfl⟩
      have HB := Aside0.mk hb
      replace q := Aside0.mk q
      clear hb
      go_wp2_with fail
      refine HA.out.mono ?_
      rintro e w' ⟨rfl, hB⟩
      rw [HB.out]
      go_wp2_with fail
      go_ret2
      exact ⟨by rw [HL.out.1, HL.out.2]; rfl, hB⟩
def zeroR : Array Value := #[.string ⟨#[]⟩, .string ⟨#[]⟩, .string ⟨#[]⟩, .slice none 0 0, .slice none 0 0]
/-- The message that is split, the two results, the residue that is made. -/
structure SJ (w w1 : World) (p b q : Nat) (mc rc : Array Value) (W : World) : Prop where
  m : W.heap[p]? = some (.cells mc 29 (0, 0))
  o : W.heap[p + 1]? = some (.cells zeroM 29 (0, 0))
  r : W.heap[p + 2]? = some (.cells zeroR 35 (0, 0))
  k : W.heap[q]? = some (.cells rc 35 (0, 0))
  kb : KB b w1 W
  bel : Below w.heap.size w W
  lo : w.heap.size ≤ p
  lt : p + 2 < b
  lb : b ≤ w1.heap.size
  lq : w1.heap.size ≤ q
theorem SJ.below {w w1 : World} {p b q : Nat} {mc rc : Array Value} {W W' : World} (h : SJ w w1 p b q mc rc W) (hb : Below W.heap.size W W') : SJ w w1 p b q mc rc W' :=
  ⟨blk_below h.m hb, blk_below h.o hb, blk_below h.r hb, blk_below h.k hb, h.kb.below hb, below_step h.bel hb, h.lo, h.lt, h.lb, h.lq⟩
theorem SJ.setM {w w1 : World} {p b q : Nat} {mc mc' rc : Array Value} {W : World} (h : SJ w w1 p b q mc rc W) (i : Nat) (v : Value) (hr : mc.setIfInBounds i v = mc') : SJ w w1 p b q mc' rc (W.setCell ⟨p, i, none⟩ v) := by
  have h1 := h.lt; have h2 := h.lq; have h3 := h.lb
  have f : ∀ n, n ≠ p → (W.setCell ⟨p, i, none⟩ v).heap[n]? = W.heap[n]? := fun n hn => Below.heap_setCell _ _ _ _ hn
  exact ⟨by rw [← hr]; exact blk_set h.m _ _, (f _ (by omega)).trans h.o, (f _ (by omega)).trans h.r, (f _ (by omega)).trans h.k, h.kb.set (by omega) _ _, below_set h.bel h.lo, h.lo, h1, h3, h2⟩
theorem SJ.setK {w w1 : World} {p b q : Nat} {mc rc rc' : Array Value} {W : World} (h : SJ w w1 p b q mc rc W) (i : Nat) (v : Value) (hr : rc.setIfInBounds i v = rc') : SJ w w1 p b q mc rc' (W.setCell ⟨q, i, none⟩ v) := by
  have h1 := h.lt; have h2 := h.lq; have h3 := h.lb
  have f : ∀ n, n ≠ q → (W.setCell ⟨q, i, none⟩ v).heap[n]? = W.heap[n]? := fun n hn => Below.heap_setCell _ _ _ _ hn
  exact ⟨(f _ (by omega)).trans h.m, (f _ (by omega)).trans h.o, (f _ (by omega)).trans h.r, by rw [← hr]; exact blk_set h.k _ _, h.kb.set (by omega) _ _, below_set h.bel (by have := h.lo; omega), h.lo, h1, h3, h2⟩
/-- A message and a residue come back. -/
def SplitEnd (a : S29) (r : S35) (w : World) (e : Ending) (w' : World) : Prop := ∃ nc rc : Array Value, e = .returned (.tuple #[.agg nc, .agg rc]) ∧ k29.K w' a nc.toList ∧ k35.K w' r rc.toList ∧ Below w.heap.size w w'
def T8_11 : Bool × List (List Nat × List Nat) := (true, [([], []), ([], []), ([0, 0], [0]), ([1, 2, 0, 1, 2], [1])])
def B8_11 : List Nat := [0, 0, 1, 7]
theorem tab8_11 : rtab .any (opsOf Tryz.f8 11) = T8_11 := by kernel_rfl
theorem bits8_11 : waitsOk T8_11.2 B8_11 = true := by kernel_rfl
set_option maxHeartbeats 16000000 in
set_option maxRecDepth 100000 in
theorem split0_x (x : S29) (mc : Array Value) (w : World) (h : k29.K w x mc.toList) (hr : ReachL x) :
    Calls Tryz.prog 8 #[.agg mc, .int .i64 0] w (SplitEnd { x with f19 := [] } ⟨⟨#[]⟩, ⟨#[]⟩, ⟨#[]⟩, [], x.f19⟩ w) := by
  have hu29 := Aside0.mk Tryz.underlying29
  have hu35 := Aside0.mk Tryz.underlying35
  have HX := Aside0.mk (And.intro h hr)
  have HSZ : Aside0 (mc.size = 21) := ⟨by obtain ⟨A16, c16, A19, c19, A20, c20, e, _⟩ := k29_open h; rw [← Array.length_toList, e]; rfl⟩
  have HI : Aside0 ((Tryz.prog.info? 29).map (·.size) = some mc.size) := ⟨by rw [HSZ.out]; kernel_rfl⟩
  clear h hr
  go_enter Tryz.func8, Tryz.ntmps8
  go_upto_region 1 with fail
  obtain ⟨p, hp⟩ : ∃ p, p = w.heap.size := ⟨_, rfl⟩
  have J0 : (((w.alloc (.cells mc 29)).alloc (.cells zeroM 29)).alloc (.cells zeroR 35)).heap[w.heap.size]? = some (.cells mc 29 (0, 0)) ∧ (((w.alloc (.cells mc 29)).alloc (.cells zeroM 29)).alloc (.cells zeroR 35)).heap[w.heap.size + 1]? = some (.cells zeroM 29 (0, 0)) ∧ (((w.alloc (.cells mc 29)).alloc (.cells zeroM 29)).alloc (.cells zeroR 35)).heap[w.heap.size + 2]? = some (.cells zeroR 35 (0, 0)) ∧ (∀ n, n = w.heap.size → Below n w (((w.alloc (.cells mc 29)).alloc (.cells zeroM 29)).alloc (.cells zeroR 35))) := by
    refine ⟨blk_alloc (blk_alloc (blk_new w _) _) _, blk_alloc (blk_new2 w _ _) _, ?_, fun n hn => hn ▸ below_alloc (below_alloc (below_alloc (Below.refl _ w) _) _) _⟩
    have := blk_new ((w.alloc (.cells mc 29)).alloc (.cells zeroM 29)) (.cells zeroR 35)
    rw [show ((w.alloc (.cells mc 29)).alloc (.cells zeroM 29)).heap.size = w.heap.size + 2 by simp] at this
    exact this
  have HP : Aside0 (p = w.heap.size) := ⟨hp⟩
  rw [← hp] at J0 ⊢
  clear hp
  revert J0
  change _ → Code.wp _ _ _ _ (((w.alloc (.cells mc 29)).alloc (.cells zeroM 29)).alloc (.cells zeroR 35))
  generalize (((w.alloc (.cells mc 29)).alloc (.cells zeroM 29)).alloc (.cells zeroR 35)) = W0
  intro J0
  have HJ := Aside0.mk J0
  clear J0
  go_wp2_with ((with_reducible refine gate_dst (N := 7) rfl ?_); refine wpList_load_row rfl 29 (.tmp 2) rfl p rfl 29 mc (0, 0) _ HJ.out.1 hu29.out rfl HI.out ?_)
  refine (own_x x mc _ (k29.K_below (HJ.out.2.2.2 _ HP.out.symm) HX.out.1) HX.out.2).mono ?_
  rintro e w1 ⟨v16, v19, v20, rfl, G16, G19, G20, hB⟩
  obtain ⟨B16, d16, e16, -, -⟩ := id G16
  obtain ⟨B19, d19, e19, -, -⟩ := id G19
  obtain ⟨B20, d20, e20, -, -⟩ := id G20
  subst e16; subst e19; subst e20
  have HG := Aside0.mk (And.intro G16 (And.intro G19 G20))
  have HB := Aside0.mk hB
  clear G16 G19 G20 hB
  go_upto_region 2 with ((with_reducible refine gate_store (t := 29) (p := 2) rfl ?_); refine Fill.store_event rfl 29 _ _ rfl p (rowM x (.slice B16 x.f15.length d16) (.slice B19 x.f18.length d19) (.slice B20 x.f19.length d20)) rfl rfl 29 mc (blk_below HJ.out.1 HB.out) (by kernel_rfl) (by rw [HSZ.out]; rfl) (rowM_one3 x rfl rfl rfl) ?_; intro w2 ea eb ec; have HS := Aside0.mk (And.intro ea (And.intro eb ec)); clear ea eb ec)
  go_upto_region 3 with fail
  obtain ⟨q, hq⟩ : ∃ q, q = w2.heap.size := ⟨_, rfl⟩
  have J3 : SJ w w1 p W0.heap.size q (rowM x (.slice B16 x.f15.length d16) (.slice B19 x.f18.length d19) (.slice B20 x.f19.length d20)) zeroR (w2.alloc (.cells zeroR 35)) := by
    have hs := HS.out
    have hj := HJ.out
    have hl := blk_lt hj.2.2.1
    have hw := HB.out.size
    exact ⟨blk_alloc hs.1 _, blk_alloc (KeepBut.blk hs.2.1 (blk_below hj.2.1 HB.out) (by omega) (by simp)) _, blk_alloc (KeepBut.blk hs.2.1 (blk_below hj.2.2.1 HB.out) (by omega) (by simp)) _, by rw [hq]; exact blk_new w2 _, ((KB.refl _ _).but (g := p) (by omega) hs.2.1).below (below_alloc (Below.refl _ _) _), below_alloc (hs.2.2 _ _ (below_step (hj.2.2.2 _ HP.out.symm) HB.out) (by rw [HP.out]; exact Nat.le_refl _)) _, by rw [HP.out]; exact Nat.le_refl _, hl, hw, by rw [hq]; exact hs.2.1.1⟩
  rw [← hq]
  clear hq
  revert J3
  change _ → Code.wp _ _ _ _ (w2.alloc (.cells zeroR 35))
  generalize w2.alloc (.cells zeroR 35) = W3
  intro J3
  have J := Aside0.mk J3
  clear J3 HS
  have dm20 := (blk_cell J.out.m 20).trans (show _ = some (Value.slice B20 x.f19.length d20) from rfl); have zm20 := blk_frozen J.out.m 20
  have dk4 := (blk_cell J.out.k 4).trans (show _ = some (Value.slice none 0 0) from rfl); have zk4 := blk_frozen J.out.k 4
  go_upto_region 11 with fail
  have J4 := Aside0.mk ((J.out.setK (rc' := #[.string ⟨#[]⟩, .string ⟨#[]⟩, .string ⟨#[]⟩, .slice none 0 0, .slice B20 x.f19.length d20]) 4 (.slice B20 x.f19.length d20) rfl).setM (mc' := rowM x (.slice B16 x.f15.length d16) (.slice B19 x.f18.length d19) (.slice none 0 0)) 20 (.slice none 0 0) rfl)
  clear dm20 zm20 dk4 zk4
  clear J; have J := J4; clear J4
  revert J; generalize World.setCell _ _ _ = W4; intro J
  go_upto_region 11 with fail
  have JX := Aside0.mk (J.out.below (below_drew1 (Below.refl _ _)))
  refine start_ (n := 4) (ds := []) (S := fun w' => w'.heap[p]? = some (.cells (rowM x (.slice B16 x.f15.length d16) (.slice B19 x.f18.length d19) (.slice none 0 0)) 29 (0, 0)) ∧ w'.heap[q]? = some (.cells #[.string ⟨#[]⟩, .string ⟨#[]⟩, .string ⟨#[]⟩, .slice none 0 0, .slice B20 x.f19.length d20] 35 (0, 0))) (V 4 0) (by rfl) (by rfl) (by kernel_rfl) (⟨JX.out.m, JX.out.k⟩) (fun hHeld => ?_); refine with_tabW tab8_11 bits8_11 (fun HT_ HW_ => ?_)
  generalize World.drew _ = wd at JX hHeld ⊢
  refine take_ (i := 0) (N := some 42) (v := .agg (rowM x (.slice B16 x.f15.length d16) (.slice B19 x.f18.length d19) (.slice none 0 0))) (a' := ?_) (V 4 1) rfl rfl (take_ofW HT_.out HW_.out (by kernel_rfl)) (fun _ _ _ h => h) (Or.inl ⟨by rfl, fun w' hs => Fill.row_yields 29 _ rfl p rfl 29 _ (0, 0) _ hs.1 hu29.out rfl (by kernel_rfl)⟩) hHeld ?_ ?_; rotate_left
  · simp only [Act.put, List.setIfInBounds_toArray, List.set_cons_zero, List.set_cons_succ, i64_w, i32_w]; rfl
  refine take_ (i := 1) (N := some 43) (v := .agg #[.string ⟨#[]⟩, .string ⟨#[]⟩, .string ⟨#[]⟩, .slice none 0 0, .slice B20 x.f19.length d20]) (a' := ?_) (V 4 3) rfl rfl (take_ofW HT_.out HW_.out (by kernel_rfl)) (fun _ _ _ h => h) (Or.inl ⟨by rfl, fun w' hs => Fill.row_yields 35 _ rfl q rfl 35 _ (0, 0) _ hs.2 hu35.out rfl (by kernel_rfl)⟩) hHeld ?_ ?_; rotate_left
  · simp only [Act.put, List.setIfInBounds_toArray, List.set_cons_zero, List.set_cons_succ, i64_w, i32_w]; rfl
  refine one_ (i := 2) (N := none) (V 4 7) rfl rfl (one_of HT_.out (by kernel_rfl)) (by decide) (fun K hK => ?_)
  refine Fill.skip_event (by rfl) rfl 29 _ _ rfl (p + 1) (rowM x (.slice B16 x.f15.length d16) (.slice B19 x.f18.length d19) (.slice none 0 0)) rfl rfl 29 zeroM JX.out.o (by kernel_rfl) (by rfl) (rowM_one3 x rfl rfl rfl) ?_
  intro w5 ea eb ec
  have HE := Aside0.mk (And.intro ea (And.intro eb (ec _ _ JX.out.bel (by have := JX.out.lo; omega)))); clear ea eb ec
  have hlt := JX.out.lt; have hlb := JX.out.lb; have hlq := JX.out.lq
  have hm5 := KeepBut.blk HE.out.2.1 JX.out.m (by omega) (by simp); have hk5 := KeepBut.blk HE.out.2.1 JX.out.k (by omega) (by simp); have hr5 := KeepBut.blk HE.out.2.1 JX.out.r (by omega) (by simp)
  refine hK.out _ _ (⟨hm5, hk5⟩) (fun hHeld => ?_)
  clear hK K
  refine one_ (i := 3) (N := none) (V 4 15) rfl rfl (one_of HT_.out (by kernel_rfl)) (by decide) (fun K hK => ?_)
  refine Fill.skip_event (by rfl) rfl 35 _ _ rfl (p + 2) #[.string ⟨#[]⟩, .string ⟨#[]⟩, .string ⟨#[]⟩, .slice none 0 0, .slice B20 x.f19.length d20] rfl rfl 35 zeroR hr5 (by kernel_rfl) (by rfl) (by rw [← Array.all_toList]; rfl) ?_
  intro w6 ea eb ec
  have HF := Aside0.mk (And.intro ea (And.intro eb (ec _ _ HE.out.2.2 (by have := JX.out.lo; omega)))); clear ea eb ec
  have hm6 := KeepBut.blk HF.out.2.1 hm5 (by omega) (by simp); have hk6 := KeepBut.blk HF.out.2.1 hk5 (by omega) (by simp); have ho6 := KeepBut.blk HF.out.2.1 HE.out.1 (by omega) (by simp)
  have hkb := (JX.out.kb.but (g := p + 1) (by omega) HE.out.2.1).but (g := p + 2) (by omega) HF.out.2.1
  refine hK.out _ _ (⟨hm6, hk6⟩) (fun hHeld => ?_)
  clear hK K
  refine done_ (done_of HT_.out (by kernel_rfl)) ?_
  go_wp2_with fail
  refine bodyPost_ret (results_cc (fn := Tryz.f8) (p := 4) (p' := 5) (ty := 29) (ty' := 35) (by rfl) _ _ (p + 1) (p + 2) 29 35 (rowM x (.slice B16 x.f15.length d16) (.slice B19 x.f18.length d19) (.slice none 0 0)) #[.string ⟨#[]⟩, .string ⟨#[]⟩, .string ⟨#[]⟩, .slice none 0 0, .slice B20 x.f19.length d20] (0, 0) (0, 0) _ _ (by rfl) ho6 hu29.out rfl (by kernel_rfl) (by rfl) HF.out.1 hu35.out rfl (by kernel_rfl)) rfl ?_
  obtain ⟨m16, n16⟩ := gl_now HG.out.1 hkb
  obtain ⟨m19, n19⟩ := gl_now HG.out.2.1 hkb
  obtain ⟨m20, n20⟩ := gl_now HG.out.2.2 hkb
  exact ⟨_, _, rfl, k29_mk w6 { x with f19 := [] } m16 n16 m19 n19 (A20 := none) (c20 := 0) (Nat.le_refl _) ⟨rfl, Nat.zero_le _, fun h => absurd h (Nat.lt_irrefl _)⟩, k35_mk w6 ⟨⟨#[]⟩, ⟨#[]⟩, ⟨#[]⟩, [], x.f19⟩ (A3 := none) (c3 := 0) (Nat.le_refl _) ⟨rfl, Nat.zero_le _, fun h => absurd h (Nat.lt_irrefl _)⟩ m20 n20, HF.out.2.2⟩
set_option maxHeartbeats 16000000 in
set_option maxRecDepth 100000 in
theorem split1_x (x : S29) (mc : Array Value) (w : World) (h : k29.K w x mc.toList) (hr : ReachL x) (h8 : x.f8.size ≤ 140737488355328) (h9 : x.f9.size ≤ 140737488355328) :
    Calls Tryz.prog 8 #[.agg mc, .int .i64 1] w (SplitEnd { x with f17 := ⟨#[]⟩, f18 := [], f8 := labF x.f8 15, f9 := labF x.f9 8 } ⟨x.f17, outF x.f8 15, outF x.f9 8, x.f18, []⟩ w) := by
  have hu29 := Aside0.mk Tryz.underlying29
  have hu35 := Aside0.mk Tryz.underlying35
  have HX := Aside0.mk (And.intro h hr)
  have HSZ : Aside0 (mc.size = 21) := ⟨by obtain ⟨A16, c16, A19, c19, A20, c20, e, _⟩ := k29_open h; rw [← Array.length_toList, e]; rfl⟩
  have HI : Aside0 ((Tryz.prog.info? 29).map (·.size) = some mc.size) := ⟨by rw [HSZ.out]; kernel_rfl⟩
  have H89 := Aside0.mk (And.intro h8 h9)
  clear h8 h9
  clear h hr
  go_enter Tryz.func8, Tryz.ntmps8
  go_upto_region 1 with fail
  obtain ⟨p, hp⟩ : ∃ p, p = w.heap.size := ⟨_, rfl⟩
  have J0 : (((w.alloc (.cells mc 29)).alloc (.cells zeroM 29)).alloc (.cells zeroR 35)).heap[w.heap.size]? = some (.cells mc 29 (0, 0)) ∧ (((w.alloc (.cells mc 29)).alloc (.cells zeroM 29)).alloc (.cells zeroR 35)).heap[w.heap.size + 1]? = some (.cells zeroM 29 (0, 0)) ∧ (((w.alloc (.cells mc 29)).alloc (.cells zeroM 29)).alloc (.cells zeroR 35)).heap[w.heap.size + 2]? = some (.cells zeroR 35 (0, 0)) ∧ (∀ n, n = w.heap.size → Below n w (((w.alloc (.cells mc 29)).alloc (.cells zeroM 29)).alloc (.cells zeroR 35))) := by
    refine ⟨blk_alloc (blk_alloc (blk_new w _) _) _, blk_alloc (blk_new2 w _ _) _, ?_, fun n hn => hn ▸ below_alloc (below_alloc (below_alloc (Below.refl _ w) _) _) _⟩
    have := blk_new ((w.alloc (.cells mc 29)).alloc (.cells zeroM 29)) (.cells zeroR 35)
    rw [show ((w.alloc (.cells mc 29)).alloc (.cells zeroM 29)).heap.size = w.heap.size + 2 by simp] at this
    exact this
  have HP : Aside0 (p = w.heap.size) := ⟨hp⟩
  rw [← hp] at J0 ⊢
  clear hp
  revert J0
  change _ → Code.wp _ _ _ _ (((w.alloc (.cells mc 29)).alloc (.cells zeroM 29)).alloc (.cells zeroR 35))
  generalize (((w.alloc (.cells mc 29)).alloc (.cells zeroM 29)).alloc (.cells zeroR 35)) = W0
  intro J0
  have HJ := Aside0.mk J0
  clear J0
  go_wp2_with ((with_reducible refine gate_dst (N := 7) rfl ?_); refine wpList_load_row rfl 29 (.tmp 2) rfl p rfl 29 mc (0, 0) _ HJ.out.1 hu29.out rfl HI.out ?_)
  refine (own_x x mc _ (k29.K_below (HJ.out.2.2.2 _ HP.out.symm) HX.out.1) HX.out.2).mono ?_
  rintro e w1 ⟨v16, v19, v20, rfl, G16, G19, G20, hB⟩
  obtain ⟨B16, d16, e16, -, -⟩ := id G16
  obtain ⟨B19, d19, e19, -, -⟩ := id G19
  obtain ⟨B20, d20, e20, -, -⟩ := id G20
  subst e16; subst e19; subst e20
  have HG := Aside0.mk (And.intro G16 (And.intro G19 G20))
  have HB := Aside0.mk hB
  clear G16 G19 G20 hB
  go_upto_region 2 with ((with_reducible refine gate_store (t := 29) (p := 2) rfl ?_); refine Fill.store_event rfl 29 _ _ rfl p (rowM x (.slice B16 x.f15.length d16) (.slice B19 x.f18.length d19) (.slice B20 x.f19.length d20)) rfl rfl 29 mc (blk_below HJ.out.1 HB.out) (by kernel_rfl) (by rw [HSZ.out]; rfl) (rowM_one3 x rfl rfl rfl) ?_; intro w2 ea eb ec; have HS := Aside0.mk (And.intro ea (And.intro eb ec)); clear ea eb ec)
  go_upto_region 3 with fail
  obtain ⟨q, hq⟩ : ∃ q, q = w2.heap.size := ⟨_, rfl⟩
  have J3 : SJ w w1 p W0.heap.size q (rowM x (.slice B16 x.f15.length d16) (.slice B19 x.f18.length d19) (.slice B20 x.f19.length d20)) zeroR (w2.alloc (.cells zeroR 35)) := by
    have hs := HS.out
    have hj := HJ.out
    have hl := blk_lt hj.2.2.1
    have hw := HB.out.size
    exact ⟨blk_alloc hs.1 _, blk_alloc (KeepBut.blk hs.2.1 (blk_below hj.2.1 HB.out) (by omega) (by simp)) _, blk_alloc (KeepBut.blk hs.2.1 (blk_below hj.2.2.1 HB.out) (by omega) (by simp)) _, by rw [hq]; exact blk_new w2 _, ((KB.refl _ _).but (g := p) (by omega) hs.2.1).below (below_alloc (Below.refl _ _) _), below_alloc (hs.2.2 _ _ (below_step (hj.2.2.2 _ HP.out.symm) HB.out) (by rw [HP.out]; exact Nat.le_refl _)) _, by rw [HP.out]; exact Nat.le_refl _, hl, hw, by rw [hq]; exact hs.2.1.1⟩
  rw [← hq]
  clear hq
  revert J3
  change _ → Code.wp _ _ _ _ (w2.alloc (.cells zeroR 35))
  generalize w2.alloc (.cells zeroR 35) = W3
  intro J3
  have J := Aside0.mk J3
  clear J3 HS
  have dm18 := (blk_cell J.out.m 18).trans (show _ = some (Value.string x.f17) from rfl); have zm18 := blk_frozen J.out.m 18
  have dk0 := (blk_cell J.out.k 0).trans (show _ = some (Value.string ⟨#[]⟩) from rfl); have zk0 := blk_frozen J.out.k 0
  have dm19 := (blk_cell J.out.m 19).trans (show _ = some (Value.slice B19 x.f18.length d19) from rfl); have zm19 := blk_frozen J.out.m 19
  have dk3 := (blk_cell J.out.k 3).trans (show _ = some (Value.slice none 0 0) from rfl); have zk3 := blk_frozen J.out.k 3
  have dm8 := (blk_cell J.out.m 8).trans (show _ = some (Value.string x.f8) from rfl)
  go_wp2_with fail
  refine (label_e x.f8 15 _ (by have := H89.out.1; omega)).mono ?_
  rintro e w5 ⟨rfl, hB⟩
  have J4 := Aside0.mk (((((J.out.setK (rc' := #[.string x.f17, .string ⟨#[]⟩, .string ⟨#[]⟩, .slice none 0 0, .slice none 0 0]) 0 (.string x.f17) rfl).setM (mc' := rowM { x with f17 := ⟨#[]⟩ } (.slice B16 x.f15.length d16) (.slice B19 x.f18.length d19) (.slice B20 x.f19.length d20)) 18 (.string ⟨#[]⟩) rfl).setK (rc' := #[.string x.f17, .string ⟨#[]⟩, .string ⟨#[]⟩, .slice B19 x.f18.length d19, .slice none 0 0]) 3 (.slice B19 x.f18.length d19) rfl).setM (mc' := rowM { x with f17 := ⟨#[]⟩ } (.slice B16 x.f15.length d16) (.slice none 0 0) (.slice B20 x.f19.length d20)) 19 (.slice none 0 0) rfl).below hB)
  clear dm18 zm18 dk0 zk0 dm19 zm19 dk3 zk3
  clear J dm8 hB; have J := J4; clear J4
  have dm8 := (blk_cell J.out.m 8).trans (show _ = some (Value.string x.f8) from rfl); have zm8 := blk_frozen J.out.m 8
  have dk1 := (blk_cell J.out.k 1).trans (show _ = some (Value.string ⟨#[]⟩) from rfl); have zk1 := blk_frozen J.out.k 1
  have dm9 := (blk_cell J.out.m 9).trans (show _ = some (Value.string x.f9) from rfl)
  obtain ⟨l8, hl8⟩ : ∃ l, l = labF x.f8 15 := ⟨_, rfl⟩; obtain ⟨o8, ho8⟩ : ∃ l, l = outF x.f8 15 := ⟨_, rfl⟩
  rw [← hl8, ← ho8]
  have HL8 := Aside0.mk (And.intro hl8 ho8); clear hl8 ho8
  go_wp2_with fail
  refine (label_e x.f9 8 _ (by have := H89.out.2; omega)).mono ?_
  rintro e w6 ⟨rfl, hB⟩
  have J4 := Aside0.mk (((J.out.setM (mc' := rowM { x with f17 := ⟨#[]⟩, f8 := l8 } (.slice B16 x.f15.length d16) (.slice none 0 0) (.slice B20 x.f19.length d20)) 8 (.string l8) rfl).setK (rc' := #[.string x.f17, .string o8, .string ⟨#[]⟩, .slice B19 x.f18.length d19, .slice none 0 0]) 1 (.string o8) rfl).below hB)
  clear dm8 zm8 dk1 zk1
  clear J dm9 hB; have J := J4; clear J4
  have dm9 := (blk_cell J.out.m 9).trans (show _ = some (Value.string x.f9) from rfl); have zm9 := blk_frozen J.out.m 9
  have dk2 := (blk_cell J.out.k 2).trans (show _ = some (Value.string ⟨#[]⟩) from rfl); have zk2 := blk_frozen J.out.k 2
  obtain ⟨l9, hl9⟩ : ∃ l, l = labF x.f9 8 := ⟨_, rfl⟩; obtain ⟨o9, ho9⟩ : ∃ l, l = outF x.f9 8 := ⟨_, rfl⟩
  rw [← hl9, ← ho9]
  have HL9 := Aside0.mk (And.intro hl9 ho9); clear hl9 ho9
  go_upto_region 11 with fail
  have J4 := Aside0.mk ((J.out.setM (mc' := rowM { x with f17 := ⟨#[]⟩, f8 := l8, f9 := l9 } (.slice B16 x.f15.length d16) (.slice none 0 0) (.slice B20 x.f19.length d20)) 9 (.string l9) rfl).setK (rc' := #[.string x.f17, .string o8, .string o9, .slice B19 x.f18.length d19, .slice none 0 0]) 2 (.string o9) rfl)
  clear dm9 zm9 dk2 zk2
  clear J; have J := J4; clear J4
  revert J; generalize World.setCell _ _ _ = W4; intro J
  go_upto_region 11 with fail
  have JX := Aside0.mk (J.out.below (below_drew1 (Below.refl _ _)))
  refine start_ (n := 4) (ds := []) (S := fun w' => w'.heap[p]? = some (.cells (rowM { x with f17 := ⟨#[]⟩, f8 := l8, f9 := l9 } (.slice B16 x.f15.length d16) (.slice none 0 0) (.slice B20 x.f19.length d20)) 29 (0, 0)) ∧ w'.heap[q]? = some (.cells #[.string x.f17, .string o8, .string o9, .slice B19 x.f18.length d19, .slice none 0 0] 35 (0, 0))) (V 4 0) (by rfl) (by rfl) (by kernel_rfl) (⟨JX.out.m, JX.out.k⟩) (fun hHeld => ?_); refine with_tabW tab8_11 bits8_11 (fun HT_ HW_ => ?_)
  generalize World.drew _ = wd at JX hHeld ⊢
  refine take_ (i := 0) (N := some 42) (v := .agg (rowM { x with f17 := ⟨#[]⟩, f8 := l8, f9 := l9 } (.slice B16 x.f15.length d16) (.slice none 0 0) (.slice B20 x.f19.length d20))) (a' := ?_) (V 4 1) rfl rfl (take_ofW HT_.out HW_.out (by kernel_rfl)) (fun _ _ _ h => h) (Or.inl ⟨by rfl, fun w' hs => Fill.row_yields 29 _ rfl p rfl 29 _ (0, 0) _ hs.1 hu29.out rfl (by kernel_rfl)⟩) hHeld ?_ ?_; rotate_left
  · simp only [Act.put, List.setIfInBounds_toArray, List.set_cons_zero, List.set_cons_succ, i64_w, i32_w]; rfl
  refine take_ (i := 1) (N := some 43) (v := .agg #[.string x.f17, .string o8, .string o9, .slice B19 x.f18.length d19, .slice none 0 0]) (a' := ?_) (V 4 3) rfl rfl (take_ofW HT_.out HW_.out (by kernel_rfl)) (fun _ _ _ h => h) (Or.inl ⟨by rfl, fun w' hs => Fill.row_yields 35 _ rfl q rfl 35 _ (0, 0) _ hs.2 hu35.out rfl (by kernel_rfl)⟩) hHeld ?_ ?_; rotate_left
  · simp only [Act.put, List.setIfInBounds_toArray, List.set_cons_zero, List.set_cons_succ, i64_w, i32_w]; rfl
  refine one_ (i := 2) (N := none) (V 4 7) rfl rfl (one_of HT_.out (by kernel_rfl)) (by decide) (fun K hK => ?_)
  refine Fill.skip_event (by rfl) rfl 29 _ _ rfl (p + 1) (rowM { x with f17 := ⟨#[]⟩, f8 := l8, f9 := l9 } (.slice B16 x.f15.length d16) (.slice none 0 0) (.slice B20 x.f19.length d20)) rfl rfl 29 zeroM JX.out.o (by kernel_rfl) (by rfl) (rowM_one3 _ rfl rfl rfl) ?_
  intro w5 ea eb ec
  have HE := Aside0.mk (And.intro ea (And.intro eb (ec _ _ JX.out.bel (by have := JX.out.lo; omega)))); clear ea eb ec
  have hlt := JX.out.lt; have hlb := JX.out.lb; have hlq := JX.out.lq
  have hm5 := KeepBut.blk HE.out.2.1 JX.out.m (by omega) (by simp); have hk5 := KeepBut.blk HE.out.2.1 JX.out.k (by omega) (by simp); have hr5 := KeepBut.blk HE.out.2.1 JX.out.r (by omega) (by simp)
  refine hK.out _ _ (⟨hm5, hk5⟩) (fun hHeld => ?_)
  clear hK K
  refine one_ (i := 3) (N := none) (V 4 15) rfl rfl (one_of HT_.out (by kernel_rfl)) (by decide) (fun K hK => ?_)
  refine Fill.skip_event (by rfl) rfl 35 _ _ rfl (p + 2) #[.string x.f17, .string o8, .string o9, .slice B19 x.f18.length d19, .slice none 0 0] rfl rfl 35 zeroR hr5 (by kernel_rfl) (by rfl) (by rw [← Array.all_toList]; rfl) ?_
  intro w6 ea eb ec
  have HF := Aside0.mk (And.intro ea (And.intro eb (ec _ _ HE.out.2.2 (by have := JX.out.lo; omega)))); clear ea eb ec
  have hm6 := KeepBut.blk HF.out.2.1 hm5 (by omega) (by simp); have hk6 := KeepBut.blk HF.out.2.1 hk5 (by omega) (by simp); have ho6 := KeepBut.blk HF.out.2.1 HE.out.1 (by omega) (by simp)
  have hkb := (JX.out.kb.but (g := p + 1) (by omega) HE.out.2.1).but (g := p + 2) (by omega) HF.out.2.1
  refine hK.out _ _ (⟨hm6, hk6⟩) (fun hHeld => ?_)
  clear hK K
  refine done_ (done_of HT_.out (by kernel_rfl)) ?_
  go_wp2_with fail
  refine bodyPost_ret (results_cc (fn := Tryz.f8) (p := 4) (p' := 5) (ty := 29) (ty' := 35) (by rfl) _ _ (p + 1) (p + 2) 29 35 (rowM { x with f17 := ⟨#[]⟩, f8 := l8, f9 := l9 } (.slice B16 x.f15.length d16) (.slice none 0 0) (.slice B20 x.f19.length d20)) #[.string x.f17, .string o8, .string o9, .slice B19 x.f18.length d19, .slice none 0 0] (0, 0) (0, 0) _ _ (by rfl) ho6 hu29.out rfl (by kernel_rfl) (by rfl) HF.out.1 hu35.out rfl (by kernel_rfl)) rfl ?_
  obtain ⟨m16, n16⟩ := gl_now HG.out.1 hkb
  obtain ⟨m19, n19⟩ := gl_now HG.out.2.1 hkb
  obtain ⟨m20, n20⟩ := gl_now HG.out.2.2 hkb
  rw [← HL8.out.1, ← HL8.out.2, ← HL9.out.1, ← HL9.out.2]
  exact ⟨_, _, rfl, k29_mk w6 { x with f17 := ⟨#[]⟩, f18 := [], f8 := l8, f9 := l9 } m16 n16 (A19 := none) (c19 := 0) (Nat.le_refl _) ⟨rfl, Nat.zero_le _, fun h => absurd h (Nat.lt_irrefl _)⟩ m20 n20, k35_mk w6 ⟨x.f17, o8, o9, x.f18, []⟩ m19 n19 (A4 := none) (c4 := 0) (Nat.le_refl _) ⟨rfl, Nat.zero_le _, fun h => absurd h (Nat.lt_irrefl _)⟩, HF.out.2.2⟩
end Go.Proofs.YthapknnppabdaaaGreat.MQ
namespace Go.Proofs.YthapknnppabdaaaGreat.MQ
open Go.RowKit Go.Proofs.YthapknnppabdaaaGreatW.PrintWords Go.Proofs.YthapknnppabdaaaGreatW.PrintLast Go.Proofs.YthapknnppabdaaaGreatW.PrintMore
attribute [local go_sem] max2_int min2_int max_two min_two max_three min_three max_four min_four   -- for this text's walks alone
set_option linter.unusedVariables false
set_option linter.unusedSimpArgs false

def residue_or.f (a0 : ByteArray) (a1 : ByteArray) : Option (ByteArray) := if a0.toList = ([] : List UInt8) then (some a1) else (some a0)
set_option maxHeartbeats 8000000 in
set_option maxRecDepth 100000 in
theorem residue_or.calls (a0 : ByteArray) (a1 : ByteArray) (r : ByteArray) (w : World) (h : residue_or.f a0 a1 = some r) :
    Calls Tryz.prog 34 #[.string a0, .string a1] w fun e w' => e = .returned (.string r) ∧ Drawn0 w w' := by
  have H : (if a0.toList = ([] : List UInt8) then (some a1) else (some a0)) = some r := h
  clear h
  by_cases c3 : a0.toList = ([] : List UInt8)
  · rw [if_pos c3] at H
    have c3b0 : (a0.toList == ([] : List UInt8)) = true := beq_iff_eq.mpr c3
    have c3b1 : (a0.toList != ([] : List UInt8)) = false := bne_eq_false_iff_eq.mpr c3
    clear c3
    obtain rfl := Option.some.inj H
    simp only [Option.some.injEq, Prod.mk.injEq] at H
    obtain ⟨rfl⟩ := H
    go_enter Tryz.func34, Tryz.ntmps34
    go_wp2
    go_ret
    exact ⟨by first | rfl | (simp; done) | (simp [*]; done), by repeat (first | exact Drawn0.refl _ | apply Drawn0.step)⟩
  · rw [if_neg c3] at H
    have c3b0 : (a0.toList == ([] : List UInt8)) = false := beq_eq_false_iff_ne.mpr c3
    have c3b1 : (a0.toList != ([] : List UInt8)) = true := bne_iff_ne.mpr c3
    obtain rfl := Option.some.inj H
    simp only [Option.some.injEq, Prod.mk.injEq] at H
    obtain ⟨rfl⟩ := H
    go_enter Tryz.func34, Tryz.ntmps34
    go_wp2
    go_ret
    exact ⟨by first | rfl | (simp; done) | (simp [*]; done), by repeat (first | exact Drawn0.refl _ | apply Drawn0.step)⟩

def residue_known.f (a0 : ByteArray) (a1 : ByteArray) : Option (ByteArray) := if a0.toList = ([] : List UInt8) then (some (⟨#[]⟩ : ByteArray)) else ((residue_or.f a1 a0).bind fun t169 => (some t169))
set_option maxHeartbeats 8000000 in
set_option maxRecDepth 100000 in
theorem residue_known.calls (a0 : ByteArray) (a1 : ByteArray) (r : ByteArray) (w : World) (h : residue_known.f a0 a1 = some r) :
    Calls Tryz.prog 35 #[.string a0, .string a1] w fun e w' => e = .returned (.string r) ∧ Drawn0 w w' := by
  have H : (if a0.toList = ([] : List UInt8) then (some (⟨#[]⟩ : ByteArray)) else ((residue_or.f a1 a0).bind fun t169 => (some t169))) = some r := h
  clear h
  by_cases c3 : a0.toList = ([] : List UInt8)
  · rw [if_pos c3] at H
    have c3b0 : (a0.toList == ([] : List UInt8)) = true := beq_iff_eq.mpr c3
    have c3b1 : (a0.toList != ([] : List UInt8)) = false := bne_eq_false_iff_eq.mpr c3
    clear c3
    obtain rfl := Option.some.inj H
    simp only [Option.some.injEq, Prod.mk.injEq] at H
    obtain ⟨rfl⟩ := H
    go_enter Tryz.func35, Tryz.ntmps35
    go_wp2
    go_ret
    exact ⟨by first | rfl | (simp; done) | (simp [*]; done), by repeat (first | exact Drawn0.refl _ | apply Drawn0.step)⟩
  · rw [if_neg c3] at H
    have c3b0 : (a0.toList == ([] : List UInt8)) = false := beq_eq_false_iff_ne.mpr c3
    have c3b1 : (a0.toList != ([] : List UInt8)) = true := bne_iff_ne.mpr c3
    replace H := Option.bind_eq_some_iff.mp H
    obtain ⟨t169, A40, H⟩ := H
    replace H : (some t169) = some r := H
    have A4 := Aside0.mk A40
    clear A40
    obtain rfl := Option.some.inj H
    simp only [Option.some.injEq, Prod.mk.injEq] at H
    obtain ⟨rfl⟩ := H
    go_enter Tryz.func35, Tryz.ntmps35
    go_wp2_with (first | ((with_reducible refine gate_callee (f := 34) rfl ?_); refine goesL_ (some 9) rfl rfl Tryz.func34 (by kernel_rfl) rfl #[.string a1, .string a0] rfl (by (try simp only [List.map_toArray, List.map_cons, List.map_nil]); first | done | rfl | (simp only [List.length_drop, List.length_take]; rfl)) ?_; (with_reducible refine (residue_or.calls a1 a0 t169 _ A4.out).mono ?_); rintro e w' ⟨rfl, ⟨nd, rfl⟩⟩; refine ⟨_, rfl, ?_⟩))
    go_ret
    exact ⟨by first | rfl | (simp; done) | (simp [*]; done), by repeat (first | exact Drawn0.refl _ | apply Drawn0.step)⟩

def residue_part_extra.f (a0_0 : ByteArray) (a0_1 : ByteArray) (a0_2 : ByteArray) (l0_3 : List (S48)) (l0_4 : List (S50)) : Option (Int) := some (l0_3.length : Int)
set_option maxHeartbeats 8000000 in
set_option maxRecDepth 100000 in
theorem residue_part_extra.calls (a0_0 : ByteArray) (a0_1 : ByteArray) (a0_2 : ByteArray) (A0_3 : Option Addr) (c0_3 : Nat) (l0_3 : List (S48)) (A0_4 : Option Addr) (c0_4 : Nat) (l0_4 : List (S50)) (r : Int) (w : World) (hr0_3 : Kd.C k48 w A0_3 l0_3.length l0_3) (hc0_3 : l0_3.length ≤ c0_3) (hr0_4 : Kd.C k50 w A0_4 l0_4.length l0_4) (hc0_4 : l0_4.length ≤ c0_4) (h : residue_part_extra.f a0_0 a0_1 a0_2 l0_3 l0_4 = some r) :
    Calls Tryz.prog 36 #[.agg #[.string a0_0, .string a0_1, .string a0_2, .slice A0_3 l0_3.length c0_3, .slice A0_4 l0_4.length c0_4]] w fun e w' => e = .returned (.int .i64 r) ∧ Below w.heap.size w w' := by
  have hu79 := Tryz.underlying79
  have HR0_3 := Aside0.mk hr0_3
  have HC0_3 := Aside0.mk hc0_3
  clear hr0_3 hc0_3
  have HR0_4 := Aside0.mk hr0_4
  have HC0_4 := Aside0.mk hc0_4
  clear hr0_4 hc0_4
  have HB := Aside0.mk (Below.refl w.heap.size w)
  have H : (some (l0_3.length : Int)) = some r := h
  clear h
  obtain rfl := Option.some.inj H
  simp only [Option.some.injEq, Prod.mk.injEq] at H
  obtain ⟨rfl⟩ := H
  go_enter Tryz.func36, Tryz.ntmps36
  go_wp2_with (first | ((with_reducible refine gate_dst (N := 1) rfl ?_); refine box_event ?hg (N := 1) ?hd (cs := #[.string a0_0, .string a0_1, .string a0_2, .slice A0_3 l0_3.length c0_3, .slice A0_4 l0_4.length c0_4]) (t := 79) ?hr ?_; (case hd => rfl); (case hg => rfl); (case hr => first | (go_simp; done) | (go_simp; rfl) | (go_simp; simp only [show ∀ l_ : List UInt8, (l_ != []) = !l_.isEmpty from fun l_ => by cases l_ <;> rfl]; done)); intro gb170 hg w2 hbox hb; have n0_ := Aside0.mk (below_step (by repeat (first | (with_reducible first | exact HB.out | apply below_alloc | apply pw_below_drewN | apply below_drew1) | exact HB.out)) hb); have n1_ := Aside0.mk (hbox); have n2_ := Aside0.mk ((by rw [hg]; exact (below_size (by repeat (first | (with_reducible first | exact HB.out | apply below_alloc | apply pw_below_drewN | apply below_drew1) | exact HB.out))) : w.heap.size ≤ gb170)); have n3_ := Aside0.mk ((by rw [hg]; exact (below_size (by repeat (first | (with_reducible first | exact HB.out | apply below_alloc | apply pw_below_drewN | apply below_drew1) | exact HB.out))) : w.heap.size ≤ gb170)); clear HB; have HB := n0_; have BK170 := n1_; have GW170 := n2_; have GE170 := n3_; clear n0_ n1_ n2_ n3_; clear hb hbox hg; have hcz3_0 : w2.cell? ⟨gb170, 0, none⟩ = some (.string a0_0) := (blk_cell BK170.out 0).trans rfl; have hcz3_1 : w2.cell? ⟨gb170, 1, none⟩ = some (.string a0_1) := (blk_cell BK170.out 1).trans rfl; have hcz3_2 : w2.cell? ⟨gb170, 2, none⟩ = some (.string a0_2) := (blk_cell BK170.out 2).trans rfl; have hcz3_3 : w2.cell? ⟨gb170, 3, none⟩ = some (.slice A0_3 l0_3.length c0_3) := (blk_cell BK170.out 3).trans rfl; have hcz3_4 : w2.cell? ⟨gb170, 4, none⟩ = some (.slice A0_4 l0_4.length c0_4) := (blk_cell BK170.out 4).trans rfl; have hfz3_0 := blk_frozen BK170.out 0; have hfz3_1 := blk_frozen BK170.out 1; have hfz3_2 := blk_frozen BK170.out 2; have hfz3_3 := blk_frozen BK170.out 3; have hfz3_4 := blk_frozen BK170.out 4))
  go_ret
  exact ⟨by first | rfl | (simp [errW_none, errW_some] <;> rfl) | (simp [*, errW_none, errW_some] <;> rfl), by repeat (first | (with_reducible first | exact HB.out | apply below_alloc | apply pw_below_drewN | apply below_drew1 | refine below_set ?_ GE170.out) | exact HB.out)⟩

def residue_part_other.f (a0_0 : ByteArray) (a0_1 : ByteArray) (a0_2 : ByteArray) (l0_3 : List (S48)) (l0_4 : List (S50)) : Option (Int) := some (l0_4.length : Int)
set_option maxHeartbeats 8000000 in
set_option maxRecDepth 100000 in
theorem residue_part_other.calls (a0_0 : ByteArray) (a0_1 : ByteArray) (a0_2 : ByteArray) (A0_3 : Option Addr) (c0_3 : Nat) (l0_3 : List (S48)) (A0_4 : Option Addr) (c0_4 : Nat) (l0_4 : List (S50)) (r : Int) (w : World) (hr0_3 : Kd.C k48 w A0_3 l0_3.length l0_3) (hc0_3 : l0_3.length ≤ c0_3) (hr0_4 : Kd.C k50 w A0_4 l0_4.length l0_4) (hc0_4 : l0_4.length ≤ c0_4) (h : residue_part_other.f a0_0 a0_1 a0_2 l0_3 l0_4 = some r) :
    Calls Tryz.prog 38 #[.agg #[.string a0_0, .string a0_1, .string a0_2, .slice A0_3 l0_3.length c0_3, .slice A0_4 l0_4.length c0_4]] w fun e w' => e = .returned (.int .i64 r) ∧ Below w.heap.size w w' := by
  have hu79 := Tryz.underlying79
  have HR0_3 := Aside0.mk hr0_3
  have HC0_3 := Aside0.mk hc0_3
  clear hr0_3 hc0_3
  have HR0_4 := Aside0.mk hr0_4
  have HC0_4 := Aside0.mk hc0_4
  clear hr0_4 hc0_4
  have HB := Aside0.mk (Below.refl w.heap.size w)
  have H : (some (l0_4.length : Int)) = some r := h
  clear h
  obtain rfl := Option.some.inj H
  simp only [Option.some.injEq, Prod.mk.injEq] at H
  obtain ⟨rfl⟩ := H
  go_enter Tryz.func38, Tryz.ntmps38
  go_wp2_with (first | ((with_reducible refine gate_dst (N := 1) rfl ?_); refine box_event ?hg (N := 1) ?hd (cs := #[.string a0_0, .string a0_1, .string a0_2, .slice A0_3 l0_3.length c0_3, .slice A0_4 l0_4.length c0_4]) (t := 79) ?hr ?_; (case hd => rfl); (case hg => rfl); (case hr => first | (go_simp; done) | (go_simp; rfl) | (go_simp; simp only [show ∀ l_ : List UInt8, (l_ != []) = !l_.isEmpty from fun l_ => by cases l_ <;> rfl]; done)); intro gb171 hg w2 hbox hb; have n0_ := Aside0.mk (below_step (by repeat (first | (with_reducible first | exact HB.out | apply below_alloc | apply pw_below_drewN | apply below_drew1) | exact HB.out)) hb); have n1_ := Aside0.mk (hbox); have n2_ := Aside0.mk ((by rw [hg]; exact (below_size (by repeat (first | (with_reducible first | exact HB.out | apply below_alloc | apply pw_below_drewN | apply below_drew1) | exact HB.out))) : w.heap.size ≤ gb171)); have n3_ := Aside0.mk ((by rw [hg]; exact (below_size (by repeat (first | (with_reducible first | exact HB.out | apply below_alloc | apply pw_below_drewN | apply below_drew1) | exact HB.out))) : w.heap.size ≤ gb171)); clear HB; have HB := n0_; have BK171 := n1_; have GW171 := n2_; have GE171 := n3_; clear n0_ n1_ n2_ n3_; clear hb hbox hg; have hcz3_0 : w2.cell? ⟨gb171, 0, none⟩ = some (.string a0_0) := (blk_cell BK171.out 0).trans rfl; have hcz3_1 : w2.cell? ⟨gb171, 1, none⟩ = some (.string a0_1) := (blk_cell BK171.out 1).trans rfl; have hcz3_2 : w2.cell? ⟨gb171, 2, none⟩ = some (.string a0_2) := (blk_cell BK171.out 2).trans rfl; have hcz3_3 : w2.cell? ⟨gb171, 3, none⟩ = some (.slice A0_3 l0_3.length c0_3) := (blk_cell BK171.out 3).trans rfl; have hcz3_4 : w2.cell? ⟨gb171, 4, none⟩ = some (.slice A0_4 l0_4.length c0_4) := (blk_cell BK171.out 4).trans rfl; have hfz3_0 := blk_frozen BK171.out 0; have hfz3_1 := blk_frozen BK171.out 1; have hfz3_2 := blk_frozen BK171.out 2; have hfz3_3 := blk_frozen BK171.out 3; have hfz3_4 := blk_frozen BK171.out 4))
  go_ret
  exact ⟨by first | rfl | (simp [errW_none, errW_some] <;> rfl) | (simp [*, errW_none, errW_some] <;> rfl), by repeat (first | (with_reducible first | exact HB.out | apply below_alloc | apply pw_below_drewN | apply below_drew1 | refine below_set ?_ GE171.out) | exact HB.out)⟩

end Go.Proofs.YthapknnppabdaaaGreat.MQ
