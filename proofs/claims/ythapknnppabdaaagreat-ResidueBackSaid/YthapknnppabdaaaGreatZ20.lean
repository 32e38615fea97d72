/- ResidueBack: part 20 of its proof. -/
import Derived.Test.YthapknnppabdaaaGreatZ11
import Derived.Test.YthapknnppabdaaaGreatZ05
import Derived.Test.YthapknnppabdaaaGreatZ15
namespace Go.Proofs.YthapknnppabdaaaGreat.MQ
open Go.RowKit Go.Proofs.YthapknnppabdaaaGreatW.PrintWords Go.Proofs.YthapknnppabdaaaGreatW.PrintLast Go.Proofs.YthapknnppabdaaaGreatW.PrintMore
attribute [local go_sem] max2_int min2_int max_two min_two   -- for this text's walks alone
set_option linter.unusedVariables false
set_option linter.unusedSimpArgs false

/-- A list of tags: some, few, none long. -/
def FewTags (o : List S46) : Prop := o.length ≤ 6 ∧ (∀ t ∈ o, t.f1.length ≤ 30) ∧ TagsOK o ∧ TagsIn o ∧ tagsLen o ≤ 203
theorem tagsIn_of {l : List S46} (h : ∀ t ∈ l, ByIn t.f1) : TagsIn l := fun k hk => by
  rw [show rd_T46 l (k : Int) = l[k] by simp [rd_T46, List.getD_eq_getElem?_getD, hk]]
  exact h _ (List.getElem_mem hk)
theorem of_tagsIn {l : List S46} (h : TagsIn l) : ∀ t ∈ l, ByIn t.f1 := fun t ht => by
  obtain ⟨k, hk, rfl⟩ := List.getElem_of_mem ht
  have := h k hk
  rwa [show rd_T46 l (k : Int) = l[k] by simp [rd_T46, List.getD_eq_getElem?_getD, hk]] at this
theorem tagsLen_snoc (l : List S46) (t : S46) : tagsLen (l ++ [t]) = tagsLen l + (t.f1.length + 4) := by simp [tagsLen]
theorem few_nil : FewTags [] := ⟨by decide, fun t h => (by cases h), ⟨by decide, fun k hk => absurd hk (Nat.not_lt_zero k)⟩, tagsIn_of fun t h => (by cases h), by decide⟩
theorem few_one : FewTags [⟨149, [1]⟩] := by
  refine ⟨by decide, fun t h => ?_, ⟨by decide, fun k hk => ?_⟩, tagsIn_of fun t h => ?_, by decide⟩
  · rw [List.mem_singleton] at h; rw [h]; decide
  · obtain rfl : k = 0 := by simp at hk; omega
    refine ⟨?_, ?_, ?_⟩
    · have e : decide (tgF (rd_T46 [⟨149, [1]⟩] ((0 : Nat) : Int)).f0 ≠ 0) = true := by kernel_rfl
      exact of_decide_eq_true e
    · kernel_rfl
    · decide
  · rw [List.mem_singleton] at h; rw [h]
    intro x hx
    simp only [List.mem_singleton] at hx
    omega
def PTagsEnd (w : World) (e : Ending) (w' : World) : Prop := ∃ (A : Option Addr) (c : Nat) (o : List S46), e = .returned (.slice A o.length c) ∧ (∀ W' : World, (∀ k, w.heap.size ≤ k → k < w'.heap.size → W'.heap[k]? = w'.heap[k]?) → k46.C W' A o.length o) ∧ o.length ≤ c ∧ 1 ≤ o.length ∧ FewTags o ∧ Below w.heap.size w w'
theorem take_C {α : Type} {d : Kd α} {A : Option Addr} {n m : Nat} {w : World} {xs : List α} (h : d.C w A n xs) (hm : m ≤ n) : d.C w A m (xs.take m) := by
  obtain ⟨h1, h2, h3⟩ := h
  have hl : (xs.take m).length = m := by rw [List.length_take]; omega
  refine ⟨hl, by omega, fun hp => ?_⟩
  obtain ⟨ad, e, hc⟩ := h3 (by omega)
  refine ⟨ad, e, fun j p hj => hc j p ?_⟩
  rw [List.getElem?_take] at hj
  split at hj
  · exact hj
  · cases hj
theorem two_one (n : Int) (A : Option Addr) (a c : Nat) : (#[Value.int .i64 n, .slice A a c]).all (·.oneCell') = true := by
  rw [← Array.all_toList]; rfl
theorem cell_lit {w : World} {g t : Nat} {u v : Value} (hb : w.heap[g]? = some (.cells #[u, v] t (0, 0))) (h1 : u.oneCell' = true) (h2 : v.oneCell' = true) : (kraw 2).C w (some ⟨g, 0, none⟩) 1 [[u, v]] := by
  refine ⟨rfl, by omega, fun _ => ⟨_, rfl, fun j p hj => ?_⟩⟩
  match j, hj with
  | 0, hj =>
    simp only [List.getElem?_cons_zero, Option.some.injEq] at hj
    subst hj
    refine ⟨_, rfl, ⟨rfl, rfl, fun q hq => ?_⟩, fun i q hq => ?_⟩
    · simp only [List.mem_cons, List.not_mem_nil, or_false] at hq
      rcases hq with rfl | rfl
      · exact h1
      · exact h2
    · have ea : ∀ k, ((⟨g, 0, none⟩ : Addr).add k) = ⟨g, k, none⟩ := fun k => by simp [Addr.add]; omega
      show w.cell? ((⟨g, 0, none⟩ : Addr).add (0 * 2 + i)) = some q
      rw [ea]
      match i, hq with
      | 0, hq => rw [← hq]; exact (blk_cell hb 0).trans rfl
      | 1, hq => rw [← hq]; exact (blk_cell hb 1).trans rfl
      | i + 2, hq => simp at hq
  | j + 1, hj => simp at hj
theorem blk_new2 (w : World) (v v' : Obj) : ((w.alloc v).alloc v').heap[w.heap.size + 1]? = some v' := by
  have := blk_new (w.alloc v) v'
  rw [show (w.alloc v).heap.size = w.heap.size + 1 by simp] at this
  exact this
theorem byte_lit {w : World} {g t : Nat} {b : Int} (hb : w.heap[g]? = some (.cells #[.int .u8 b] t (0, 0))) : Kd.C (Kd.int .u8) w (some ⟨g, 0, none⟩) 1 [b] := by
  refine ⟨rfl, by omega, fun _ => ⟨_, rfl, fun j p hj => ?_⟩⟩
  match j, hj with
  | 0, hj =>
    simp only [List.getElem?_cons_zero, Option.some.injEq] at hj
    subst hj
    refine ⟨[.int .u8 b], rfl, rfl, fun i u hu => ?_⟩
    have ea : ∀ k, ((⟨g, 0, none⟩ : Addr).add k) = ⟨g, k, none⟩ := fun k => by simp [Addr.add]; omega
    match i, hu with
    | 0, hu => rw [← hu]; show w.cell? ((⟨g, 0, none⟩ : Addr).add 0) = _; rw [ea]; exact (blk_cell hb 0).trans rfl
    | i + 1, hu => simp at hu
  | j + 1, hj => simp at hj
/-- A tag that lies in memory by itself. -/
theorem tag_lit {w : World} {g : Nat} {t : TypeId} {n : Int} {A : Option Addr} {c : Nat} {d : List Int} (hb : w.heap[g]? = some (.cells #[.int .i64 n, .slice A d.length c] t (0, 0))) (hc : d.length ≤ c) (hd : Kd.C (Kd.int .u8) w A d.length d) : k46.C w (some ⟨g, 0, none⟩) 1 [⟨n, d⟩] := by
  refine ⟨rfl, by omega, fun _ => ⟨_, rfl, fun j p hj => ?_⟩⟩
  match j, hj with
  | 0, hj =>
    simp only [List.getElem?_cons_zero, Option.some.injEq] at hj
    subst hj
    refine ⟨_, rfl, k46_mk w ⟨n, d⟩ hc hd, fun i u hu => ?_⟩
    have ea : ∀ k, ((⟨g, 0, none⟩ : Addr).add k) = ⟨g, k, none⟩ := fun k => by simp [Addr.add]; omega
    show w.cell? ((⟨g, 0, none⟩ : Addr).add (0 * 2 + i)) = some u
    rw [ea]
    match i, hu with
    | 0, hu => rw [← hu]; exact (blk_cell hb 0).trans rfl
    | 1, hu => rw [← hu]; exact (blk_cell hb 1).trans rfl
    | i + 2, hu => simp at hu
  | j + 1, hj => simp at hj
def T45_6 : Bool × List (List Nat × List Nat) := (true, [([], []), ([], []), ([0, 1], [0, 1]), ([2], [2]), ([3], [3]), ([], []), ([], []), ([5, 6], [5, 6]), ([7], [7]), ([8], [8]), ([], []), ([], []), ([10, 11], [10, 11]), ([12], [12]), ([13], [13]), ([14], [14]), ([15], [15]), ([9, 16], [9, 16]), ([17], [17]), ([4, 18], [4, 18]), ([], []), ([20, 19, 18, 0, 1, 2, 3, 4, 5, 6, 7, 8, 9, 10, 11, 12, 13, 14, 15, 16, 17, 18, 19, 20], [19, 20])])
def B45_6 : List Nat := [0, 0, 3, 7, 15, 0, 0, 96, 224, 480, 0, 0, 3072, 7168, 15360, 31744, 64512, 131040, 262112, 524287, 0, 2097151]
theorem tab45_6 : rtab .any (opsOf Tryz.f23 6) = T45_6 := by kernel_rfl
theorem bits45_6 : waitsOk T45_6.2 B45_6 = true := by kernel_rfl
def T45_7 : Bool × List (List Nat × List Nat) := (true, [([], []), ([0], [0]), ([], []), ([2], [2]), ([1, 3, 1], [1, 3]), ([4, 4], [4]), ([5], [5]), ([6], [6]), ([6], [6]), ([7, 5, 0, 1, 2, 3, 4, 5, 6, 7], [7]), ([8, 9, 0, 1, 2, 3, 4, 5, 6, 7, 8, 9], [8])])
def B45_7 : List Nat := [0, 1, 0, 4, 15, 31, 63, 127, 127, 255, 1023]
theorem tab45_7 : rtab .any (opsOf Tryz.f23 7) = T45_7 := by kernel_rfl
theorem bits45_7 : waitsOk T45_7.2 B45_7 = true := by kernel_rfl
def T45_9 : Bool × List (List Nat × List Nat) := (true, [([], []), ([], []), ([1], [1]), ([0, 2], [0, 2]), ([], []), ([], []), ([5], [5]), ([6], [6]), ([4, 7], [4, 7]), ([8], [8]), ([3, 3, 0, 1, 2, 3], [0, 3]), ([9, 10, 0, 1, 2, 3, 4, 5, 6, 7, 8, 9, 10], [4, 9])])
def B45_9 : List Nat := [0, 0, 2, 7, 0, 0, 32, 96, 240, 496, 15, 2047]
theorem tab45_9 : rtab .any (opsOf Tryz.f23 9) = T45_9 := by kernel_rfl
theorem bits45_9 : waitsOk T45_9.2 B45_9 = true := by kernel_rfl

set_option maxHeartbeats 8000000 in
set_option maxRecDepth 100000 in
theorem tags_x (A : Option Addr) (c : Nat) (l : List S46) (w : World) (hr : k46.C w A l.length l) (hc : l.length ≤ c) (hd : ∀ t ∈ l, t.f1.length ≤ 140737488355328 ∧ ByIn t.f1) (hll : l.length ≤ 140737488355328) : Calls Tryz.prog 23 #[.slice A l.length c] w (PTagsEnd w) := by
  have hu46 := Tryz.underlying46
  have HR := Aside0.mk hr
  have HC := Aside0.mk hc
  have HD := Aside0.mk hd
  have BW := Aside0.mk (Below.refl w.heap.size w)
  clear hr hc hd
  go_enter Tryz.func23, Tryz.ntmps23
  go_upto_block 0 with fail
  go_cut [3] from 4 to 68 (fun s3 wc => ∃ (A3 : Option Addr) (c3 : Nat) (o : List S46), s3 = .slice A3 o.length c3 ∧ Aside0 (FewTags o) ∧ Aside0 (Kd.S k46 46 wc w.heap.size (fun _ => True) (.slice A3 o.length c3) o) ∧ Aside0 (Below w.heap.size w wc))
  case rest =>
    obtain ⟨A3, c3, o, rfl, FT, HO, BW⟩ := hcut
    by_cases h0 : o.length = 0
    · have h0' : ((o.length : Int) == 0) = true := beq_iff_eq.mpr (by omega)
      replace h0 := Aside0.mk h0
      go_wp2_with fail
      go_ret
      have hb := blk_new2 wc (.cells #[.int .u8 1] 5) (.cells #[.int .i64 149, .slice (some ⟨wc.heap.size, 0, none⟩) 1 1] 46)
      exact ⟨_, 1, [⟨149, [1]⟩], rfl, (fun W' h => tag_lit ((h _ (by have := below_size BW.out; omega) (blk_lt hb)).trans hb) (Nat.le_refl _) (byte_lit ((h _ (below_size BW.out) (blk_lt (blk_alloc (blk_new wc _) _))).trans (blk_alloc (blk_new wc _) _)))), Nat.le_refl _, Nat.le_refl _, few_one, below_alloc (below_alloc BW.out _) _⟩
    · have h0' : ((o.length : Int) == 0) = false := beq_eq_false_iff_ne.mpr (by omega)
      replace h0 := Aside0.mk h0
      go_wp2_with fail
      go_ret
      exact ⟨A3, c3, o, rfl, (fun W' h => (Kd.S_reads' (Kd.S_step (Kd.S_bound HO.out) (fun k hk hlt => h k hk.2.1 hlt))).2.2), (Kd.S_reads' HO.out).2.1, by have := h0.out; omega, FT.out, BW.out⟩
  case first =>
    go_wp2_with fail
    go_loopg [3, 4, 5, 6, 7, 8] l.length (fun gg s3 s4 s5 _ _ _ wr => ∃ (kk : Nat) (A3 : Option Addr) (c3 : Nat) (o : List S46) (n : Int), kk ≤ l.length ∧ l.length - kk ≤ gg ∧ s5 = .int .i64 kk ∧ s3 = .slice A3 o.length c3 ∧ s4 = .int .i64 n ∧ Aside0 (n = (tagsLen o : Int) ∧ n ≤ 203) ∧ Aside0 (FewTags o) ∧ Aside0 (Kd.S k46 46 wr w.heap.size (fun _ => True) (.slice A3 o.length c3) o) ∧ Aside0 (Below w.heap.size w wr))
    case atStart => exact ⟨0, none, 0, [], 0, by omega, by omega, rfl, rfl, rfl, ⟨⟨rfl, by decide⟩⟩, ⟨few_nil⟩, ⟨Kd.S_nil _ _ _ _ _⟩, BW⟩
    case round =>
      obtain ⟨kk, A3, c3, o, n, hkk, hg, rfl, rfl, rfl, HN, FT, HO, BW⟩ := hrel
      have ho6 : o.length ≤ 6 := FT.out.1
      by_cases hlt : kk < l.length
      rotate_left
      · have hltz : ¬ (kk : Int) < (l.length : Int) := by omega
        go_wp2_with fail
        go_meet
        exact ⟨A3, c3, o, rfl, FT, HO, BW⟩
      have hltz : (kk : Int) < (l.length : Int) := by omega
      by_cases h6 : o.length < 6
      rotate_left
      · have h6z : ¬ (o.length : Int) < 6 := by omega
        go_wp2_with fail
        go_meet
        exact ⟨A3, c3, o, rfl, FT, HO, BW⟩
      have h6z : (o.length : Int) < 6 := by omega
      obtain ⟨ad, A1, c1, e1, h0, h1, hl1, hi1⟩ := at_T46 HR.out (kk : Int) (by omega) (by omega)
      subst e1
      rw [Int.toNat_natCast] at h0 h1
      have hyd : (rd_T46 l (kk : Int)).f1.length ≤ 140737488355328 ∧ ByIn (rd_T46 l (kk : Int)).f1 := by
        have : rd_T46 l (kk : Int) = l[kk] := by simp [rd_T46, List.getD_eq_getElem?_getD, hlt]
        rw [this]; exact HD.out _ (List.getElem_mem hlt)
      generalize rd_T46 l (kk : Int) = y at h0 h1 hl1 hi1 hyd
      obtain ⟨yn, yd⟩ := y
      change w.cell? _ = some (.int .i64 yn) at h0
      change w.cell? _ = some (.slice A1 yd.length c1) at h1
      change yd.length ≤ c1 at hl1
      change Kd.C (Kd.int .u8) w A1 yd.length yd at hi1
      have HBY : Aside0 (ByIn yd) := ⟨hyd.2⟩
      replace hyd := hyd.1
      change yd.length ≤ 140737488355328 at hyd
      obtain ⟨m, hm, hm1, hm2⟩ : ∃ m : Nat, (if (30 : Int) < (yd.length : Int) then (30 : Int) else (yd.length : Int)) = (m : Int) ∧ m ≤ yd.length ∧ m ≤ 30 := by
        by_cases g : (30 : Int) < (yd.length : Int)
        · exact ⟨30, by rw [if_pos g]; rfl, by omega, by omega⟩
        · exact ⟨yd.length, by rw [if_neg g], by omega, by omega⟩
      have H0 := Aside0.mk h0
      have H1 := Aside0.mk h1
      have HI := Aside0.mk (And.intro hl1 hi1)
      have HM := Aside0.mk (And.intro hm1 (And.intro hm2 hyd))
      clear h0 h1 hl1 hi1 hyd
      have hmc : (m : Int) ≤ (c1 : Int) := by have := HI.out.1; omega
      have hm0 : (0 : Int) ≤ (m : Int) := by omega
      clear hm1 hm2
      go_upto_region 6 with fail
      have BR := Aside0.mk (below_drew1 (Below.refl wr.heap.size wr))
      refine start_ (n := 22) (ds := []) (S := fun w' => w'.cell? (ad.add (kk * 2)) = some (.int .i64 yn) ∧ w'.cell? ⟨(ad.add (kk * 2)).block, (ad.add (kk * 2)).off + 1, none⟩ = some (.slice A1 yd.length c1)) (V 22 0) (by rfl) (by rfl) (by kernel_rfl) (⟨((below_step BW.out BR.out).cell (World.block_lt_of_cell? w _ H0.out)).trans H0.out, ((below_step BW.out BR.out).cell (World.block_lt_of_cell? w _ H1.out)).trans H1.out⟩) (fun hHeld => ?_); refine with_tabW tab45_6 bits45_6 (fun HT_ HW_ => ?_)
      generalize wr.drew = wd at BR hHeld ⊢
      refine pure_ (i := 0) (N := some 20) (v := ?_) (a' := ?_) (V 22 1) rfl rfl (any_of HT_.out (by kernel_rfl)) (fun _ _ _ h => h) (Or.inl ⟨by rfl, ?_⟩) ?_ ?_; rotate_left
      · intro w'; go_simp; with_reducible rfl
      rotate_left
      · simp only [Act.put, List.setIfInBounds_toArray, List.set_cons_zero, List.set_cons_succ, i64_w, i32_w]; rfl
      refine pure_ (i := 1) (N := some 21) (v := ?_) (a' := ?_) (V 22 3) rfl rfl (any_of HT_.out (by kernel_rfl)) (fun _ _ _ h => h) (Or.inl ⟨by rfl, ?_⟩) ?_ ?_; rotate_left
      · intro w'; go_simp; with_reducible rfl
      rotate_left
      · simp only [Act.put, List.setIfInBounds_toArray, List.set_cons_zero, List.set_cons_succ, i64_w, i32_w]; rfl
      refine pure_ (i := 2) (N := some 22) (v := ?_) (a' := ?_) (V 22 7) rfl rfl (any_of HT_.out (by kernel_rfl)) (fun _ _ _ h => h) (Or.inl ⟨by rfl, ?_⟩) ?_ ?_; rotate_left
      · intro w'; go_simp; with_reducible rfl
      rotate_left
      · simp only [Act.put, List.setIfInBounds_toArray, List.set_cons_zero, List.set_cons_succ, i64_w, i32_w]; rfl
      refine pure_ (i := 3) (N := some 23) (v := ?_) (a' := ?_) (V 22 15) rfl rfl (any_of HT_.out (by kernel_rfl)) (fun _ _ _ h => h) (Or.inl ⟨by rfl, ?_⟩) ?_ ?_; rotate_left
      · intro w'; go_simp; with_reducible rfl
      rotate_left
      · simp only [Act.put, List.setIfInBounds_toArray, List.set_cons_zero, List.set_cons_succ, i64_w, i32_w]; rfl
      refine take_ (i := 4) (N := some 24) (v := ?_) (a' := ?_) (V 22 31) rfl rfl (take_ofW HT_.out HW_.out (by kernel_rfl)) (fun _ _ _ h => h) (Or.inl ⟨by rfl, ?_⟩) hHeld ?_ ?_; rotate_left
      · rintro w' ⟨s0, s1⟩; go_simp; with_reducible rfl
      rotate_left
      · simp only [Act.put, List.setIfInBounds_toArray, List.set_cons_zero, List.set_cons_succ, i64_w, i32_w]; rfl
      refine pure_ (i := 5) (N := some 25) (v := ?_) (a' := ?_) (V 22 63) rfl rfl (any_of HT_.out (by kernel_rfl)) (fun _ _ _ h => h) (Or.inl ⟨by rfl, ?_⟩) ?_ ?_; rotate_left
      · intro w'; go_simp; with_reducible rfl
      rotate_left
      · simp only [Act.put, List.setIfInBounds_toArray, List.set_cons_zero, List.set_cons_succ, i64_w, i32_w]; rfl
      refine pure_ (i := 6) (N := some 26) (v := ?_) (a' := ?_) (V 22 127) rfl rfl (any_of HT_.out (by kernel_rfl)) (fun _ _ _ h => h) (Or.inl ⟨by rfl, ?_⟩) ?_ ?_; rotate_left
      · intro w'; go_simp; with_reducible rfl
      rotate_left
      · simp only [Act.put, List.setIfInBounds_toArray, List.set_cons_zero, List.set_cons_succ, i64_w, i32_w]; rfl
      refine pure_ (i := 7) (N := some 27) (v := ?_) (a' := ?_) (V 22 255) rfl rfl (any_of HT_.out (by kernel_rfl)) (fun _ _ _ h => h) (Or.inl ⟨by rfl, ?_⟩) ?_ ?_; rotate_left
      · intro w'; go_simp; with_reducible rfl
      rotate_left
      · simp only [Act.put, List.setIfInBounds_toArray, List.set_cons_zero, List.set_cons_succ, i64_w, i32_w]; rfl
      refine pure_ (i := 8) (N := some 28) (v := ?_) (a' := ?_) (V 22 511) rfl rfl (any_of HT_.out (by kernel_rfl)) (fun _ _ _ h => h) (Or.inl ⟨by rfl, ?_⟩) ?_ ?_; rotate_left
      · intro w'; go_simp; with_reducible rfl
      rotate_left
      · simp only [Act.put, List.setIfInBounds_toArray, List.set_cons_zero, List.set_cons_succ, i64_w, i32_w]; rfl
      refine take_ (i := 9) (N := some 29) (v := ?_) (a' := ?_) (V 22 1023) rfl rfl (take_ofW HT_.out HW_.out (by kernel_rfl)) (fun _ _ _ h => h) (Or.inl ⟨by rfl, ?_⟩) hHeld ?_ ?_; rotate_left
      · rintro w' ⟨s0, s1⟩; go_simp; with_reducible rfl
      rotate_left
      · simp only [Act.put, List.setIfInBounds_toArray, List.set_cons_zero, List.set_cons_succ, i64_w, i32_w]; rfl
      refine pure_ (i := 10) (N := some 30) (v := ?_) (a' := ?_) (V 22 2047) rfl rfl (any_of HT_.out (by kernel_rfl)) (fun _ _ _ h => h) (Or.inl ⟨by rfl, ?_⟩) ?_ ?_; rotate_left
      · intro w'; go_simp; with_reducible rfl
      rotate_left
      · simp only [Act.put, List.setIfInBounds_toArray, List.set_cons_zero, List.set_cons_succ, i64_w, i32_w]; rfl
      refine pure_ (i := 11) (N := some 31) (v := ?_) (a' := ?_) (V 22 4095) rfl rfl (any_of HT_.out (by kernel_rfl)) (fun _ _ _ h => h) (Or.inl ⟨by rfl, ?_⟩) ?_ ?_; rotate_left
      · intro w'; go_simp; with_reducible rfl
      rotate_left
      · simp only [Act.put, List.setIfInBounds_toArray, List.set_cons_zero, List.set_cons_succ, i64_w, i32_w]; rfl
      refine pure_ (i := 12) (N := some 32) (v := ?_) (a' := ?_) (V 22 8191) rfl rfl (any_of HT_.out (by kernel_rfl)) (fun _ _ _ h => h) (Or.inl ⟨by rfl, ?_⟩) ?_ ?_; rotate_left
      · intro w'; go_simp; with_reducible rfl
      rotate_left
      · simp only [Act.put, List.setIfInBounds_toArray, List.set_cons_zero, List.set_cons_succ, i64_w, i32_w]; rfl
      refine pure_ (i := 13) (N := some 33) (v := ?_) (a' := ?_) (V 22 16383) rfl rfl (any_of HT_.out (by kernel_rfl)) (fun _ _ _ h => h) (Or.inl ⟨by rfl, ?_⟩) ?_ ?_; rotate_left
      · intro w'; go_simp; with_reducible rfl
      rotate_left
      · simp only [Act.put, List.setIfInBounds_toArray, List.set_cons_zero, List.set_cons_succ, i64_w, i32_w]; rfl
      refine take_ (i := 14) (N := some 34) (v := ?_) (a' := ?_) (V 22 32767) rfl rfl (take_ofW HT_.out HW_.out (by kernel_rfl)) (fun _ _ _ h => h) (Or.inl ⟨by rfl, ?_⟩) hHeld ?_ ?_; rotate_left
      · rintro w' ⟨s0, s1⟩; go_simp; with_reducible rfl
      rotate_left
      · simp only [Act.put, List.setIfInBounds_toArray, List.set_cons_zero, List.set_cons_succ, i64_w, i32_w]; rfl
      refine pure_ (i := 15) (N := some 35) (v := ?_) (a' := ?_) (V 22 65535) rfl rfl (any_of HT_.out (by kernel_rfl)) (fun _ _ _ h => h) (Or.inl ⟨by rfl, ?_⟩) ?_ ?_; rotate_left
      · intro w'; go_simp; with_reducible rfl
      rotate_left
      · simp only [Act.put, List.setIfInBounds_toArray, List.set_cons_zero, List.set_cons_succ, i64_w, i32_w]; rfl
      refine pure_ (i := 16) (N := some 36) (v := ?_) (a' := ?_) (V 22 131071) rfl rfl (any_of HT_.out (by kernel_rfl)) (fun _ _ _ h => h) (Or.inl ⟨by rfl, ?_⟩) ?_ ?_; rotate_left
      · intro w'; go_simp; with_reducible rfl
      rotate_left
      · simp only [Act.put, List.setIfInBounds_toArray, List.set_cons_zero, List.set_cons_succ, i64_w, i32_w]; rfl
      refine pure_ (i := 17) (N := some 37) (v := ?_) (a' := ?_) (V 22 262143) rfl rfl (any_of HT_.out (by kernel_rfl)) (fun _ _ _ h => h) (Or.inl ⟨by rfl, ?_⟩) ?_ ?_; rotate_left
      · intro w'; go_simp; with_reducible rfl
      rotate_left
      · simp only [Act.put, List.setIfInBounds_toArray, List.set_cons_zero, List.set_cons_succ, i64_w, i32_w]; rfl
      refine join_ (σ := Option Addr × Nat × List Int × Nat) 1 (V 22 2097151) (fun s => [(38, .slice s.1 s.2.2.1.length s.2.1), (39, .agg #[.int .i64 yn, .slice s.1 s.2.2.1.length s.2.1]), (6, .pointer (some ⟨s.2.2.2, 0, none⟩))]) (fun s w' => w'.heap[s.2.2.2]? = some (.cells #[.int .i64 0, .slice none 0 0] 46 (0, 0)) ∧ Kd.R (Kd.int .u8) 5 w' wr.heap.size (fun k => k ≠ s.2.2.2) (.slice s.1 s.2.2.1.length s.2.1) s.2.2.1 ∧ Below wr.heap.size wr w' ∧ wr.heap.size ≤ s.2.2.2 ∧ (s.2.2.1.length ≤ 30 ∧ ByIn s.2.2.1)) ?_ ?_
      rotate_left
      · intro hcont
        have HCONT := Aside0.mk hcont; clear hcont
        refine two_ (i := 18) (j := 20) (Ni := some 38) (Nj := some 6) (V 22 524287) (V 22 1310719) rfl rfl rfl rfl (two_of HT_.out (by kernel_rfl)) (by decide) (by decide) (fun K hK => ?_) (fun K hK => ?_)
        · skip
          refine Kd.R_append_rows_step (Kd.int .u8) (w0 := wd) (World.heap wd).size (by rfl) (.const (.slice none 0 0)) (.tmp 37) 38 5 (.int .u8 0) 1 rfl Tryz.underlying38 info5 rfl (by decide) (by omega) (.slice none 0 0) [] (yd.take m) _ _ _ (fun _ => True) (fun _ => False) rfl rfl ?aO ?aR (fun _ _ h => h) (fun _ h => h.elim) ?aF ?aB ?aS ?aL ?_
          (case aO => exact Kd.R_nil _ _ _ _ _)
          (case aR => exact take_C (Kd.C_below HI.out.2 (below_step BW.out BR.out)) HM.out.1)
          (case aB => exact Below.refl _ _)
          (case aF => exact (fun _ _ => trivial))
          (case aS => exact Nat.le_refl _)
          (case aL => exact (by have := HM.out.2.1; show (0 + m) * 1 ≤ _; omega))
          intro v1 w5 ho hb hg hat
          rw [List.nil_append] at ho
          have hdl : (yd.take m).length ≤ 30 ∧ ByIn (yd.take m) := ⟨by rw [List.length_take]; have := HM.out.2.1; omega, fun x hx => HBY.out x (List.mem_of_mem_take hx)⟩
          generalize yd.take m = d at ho hdl
          obtain ⟨Ad, cd, ed⟩ := Kd.R_slice ho
          subst ed
          have B5 := Aside0.mk (below_step BR.out hb); have H5 := Aside0.mk ho
          refine hK.out _ _ (⟨((below_step BW.out B5.out).cell (World.block_lt_of_cell? w _ H0.out)).trans H0.out, ((below_step BW.out B5.out).cell (World.block_lt_of_cell? w _ H1.out)).trans H1.out⟩) (fun hHeld => ?_)
          clear hK K
          refine norm_ (a' := ?_) ?_ ?_; rotate_left
          · show Act.put _ (some 38) _ = _; simp only [Act.put, List.setIfInBounds_toArray, List.set_cons_zero, List.set_cons_succ, i64_w, i32_w]; rfl
          refine pure_ (i := 19) (N := some 39) (v := ?_) (a' := ?_) (V 22 1048575) rfl rfl (any_of HT_.out (by kernel_rfl)) (fun _ _ _ h => h) (Or.inl ⟨by rfl, ?_⟩) ?_ ?_; rotate_left
          · intro w'; go_simp; with_reducible rfl
          rotate_left
          · simp only [Act.put, List.setIfInBounds_toArray, List.set_cons_zero, List.set_cons_succ, i64_w, i32_w]; rfl
          refine one_ (i := 20) (N := some 6) (V 22 2097151) rfl rfl (one_of HT_.out (by kernel_rfl)) (by decide) (fun K hK => ?_)
          refine value_ (w1 := ?_) (v := ?_) (by rfl) rfl ?_ ?_; rotate_left 2
          · go_simp
            constructor
            · rfl
            · rfl
          refine hK.out _ _ (⟨((below_step BW.out (below_alloc B5.out _)).cell (World.block_lt_of_cell? w _ H0.out)).trans H0.out, ((below_step BW.out (below_alloc B5.out _)).cell (World.block_lt_of_cell? w _ H1.out)).trans H1.out⟩) (fun hHeld => ?_)
          clear hK K
          refine norm_ (a' := ?_) ?_ ?_; rotate_left
          · show Act.put _ (some 6) _ = _; simp only [Act.put, List.setIfInBounds_toArray, List.set_cons_zero, List.set_cons_succ, i64_w, i32_w]; rfl
          refine norm_ (a' := putAll _ _) ?_ (HCONT.out ⟨Ad, cd, d, w5.heap.size⟩ _ ⟨blk_new w5 _, Kd.R_alloc (Kd.R_lower (Kd.R_mono (Kd.R_bound H5.out) (fun k hk => by have := hk.2.2.1; show k ≠ w5.heap.size; omega)) (below_size BR.out)) _, below_alloc B5.out _, below_size B5.out, hdl⟩)
          simp only [putAll, Act.put, List.setIfInBounds_toArray, List.set_cons_zero, List.set_cons_succ]
        · skip
          refine value_ (w1 := ?_) (v := ?_) (by rfl) rfl ?_ ?_; rotate_left 2
          · go_simp
            constructor
            · rfl
            · rfl
          refine hK.out _ _ (⟨((below_step BW.out (below_alloc BR.out _)).cell (World.block_lt_of_cell? w _ H0.out)).trans H0.out, ((below_step BW.out (below_alloc BR.out _)).cell (World.block_lt_of_cell? w _ H1.out)).trans H1.out⟩) (fun hHeld => ?_)
          clear hK K
          refine norm_ (a' := ?_) ?_ ?_; rotate_left
          · show Act.put _ (some 6) _ = _; simp only [Act.put, List.setIfInBounds_toArray, List.set_cons_zero, List.set_cons_succ, i64_w, i32_w]; rfl
          obtain ⟨p6, hp6⟩ : ∃ p, p = wd.heap.size := ⟨_, rfl⟩
          have hb6 := blk_new wd (.cells #[.int .i64 0, .slice none 0 0] 46)
          have lo : wr.heap.size ≤ p6 := by rw [hp6]; exact below_size BR.out
          have br6 := below_alloc BR.out (.cells #[.int .i64 0, .slice none 0 0] 46)
          have hsz : p6 < (wd.alloc (.cells #[.int .i64 0, .slice none 0 0] 46)).heap.size := by rw [hp6]; simp
          rw [← hp6] at hb6 ⊢; clear hp6; revert hHeld hb6 br6 hsz
          generalize wd.alloc (.cells #[.int .i64 0, .slice none 0 0] 46) = w6
          intro hHeld hb6 br6 hsz
          have B6 := Aside0.mk br6; have HB6 := Aside0.mk (And.intro hb6 (And.intro lo hsz)); clear hb6 br6 lo hsz
          refine one_ (i := 18) (N := some 38) (V 22 1572863) rfl rfl (one_of HT_.out (by kernel_rfl)) (by decide) (fun K hK => ?_)
          refine Kd.R_append_rows_step (Kd.int .u8) (w0 := w6) (World.heap w6).size (by rfl) (.const (.slice none 0 0)) (.tmp 37) 38 5 (.int .u8 0) 1 rfl Tryz.underlying38 info5 rfl (by decide) (by omega) (.slice none 0 0) [] (yd.take m) _ _ _ (fun _ => True) (fun _ => False) rfl rfl ?aO ?aR (fun _ _ h => h) (fun _ h => h.elim) ?aF ?aB ?aS ?aL ?_
          (case aO => exact Kd.R_nil _ _ _ _ _)
          (case aR => exact take_C (Kd.C_below HI.out.2 (below_step BW.out B6.out)) HM.out.1)
          (case aB => exact Below.refl _ _)
          (case aF => exact (fun _ _ => trivial))
          (case aS => exact Nat.le_refl _)
          (case aL => exact (by have := HM.out.2.1; show (0 + m) * 1 ≤ _; omega))
          intro v1 w5 ho hb hg hat
          rw [List.nil_append] at ho
          have hdl : (yd.take m).length ≤ 30 ∧ ByIn (yd.take m) := ⟨by rw [List.length_take]; have := HM.out.2.1; omega, fun x hx => HBY.out x (List.mem_of_mem_take hx)⟩
          generalize yd.take m = d at ho hdl
          obtain ⟨Ad, cd, ed⟩ := Kd.R_slice ho
          subst ed
          have B5 := Aside0.mk (below_step B6.out hb); have H5 := Aside0.mk ho; have B65 := Aside0.mk hb
          refine hK.out _ _ (⟨((below_step BW.out B5.out).cell (World.block_lt_of_cell? w _ H0.out)).trans H0.out, ((below_step BW.out B5.out).cell (World.block_lt_of_cell? w _ H1.out)).trans H1.out⟩) (fun hHeld => ?_)
          clear hK K
          refine norm_ (a' := ?_) ?_ ?_; rotate_left
          · show Act.put _ (some 38) _ = _; simp only [Act.put, List.setIfInBounds_toArray, List.set_cons_zero, List.set_cons_succ, i64_w, i32_w]; rfl
          refine pure_ (i := 19) (N := some 39) (v := ?_) (a' := ?_) (V 22 2097151) rfl rfl (any_of HT_.out (by kernel_rfl)) (fun _ _ _ h => h) (Or.inl ⟨by rfl, ?_⟩) ?_ ?_; rotate_left
          · intro w'; go_simp; with_reducible rfl
          rotate_left
          · simp only [Act.put, List.setIfInBounds_toArray, List.set_cons_zero, List.set_cons_succ, i64_w, i32_w]; rfl
          refine norm_ (a' := putAll _ _) ?_ (HCONT.out ⟨Ad, cd, d, p6⟩ _ ⟨blk_below HB6.out.1 B65.out, Kd.R_lower (Kd.R_mono (Kd.R_bound H5.out) (fun k hk => by have := hk.2.1; have := HB6.out.2.2; show k ≠ p6; omega)) (below_size B6.out), B5.out, HB6.out.2.1, hdl⟩)
          simp only [putAll, Act.put, List.setIfInBounds_toArray, List.set_cons_zero, List.set_cons_succ]
      rintro ⟨Ad, cd, d, p6⟩ w6 ⟨hb6, hd6, br6, lo, hdl⟩
      dsimp only at hb6 hd6 lo hdl
      clear hHeld; have hHeld : w6.cell? (ad.add (kk * 2)) = some (.int .i64 yn) ∧ w6.cell? ⟨(ad.add (kk * 2)).block, (ad.add (kk * 2)).off + 1, none⟩ = some (.slice A1 yd.length c1) := ⟨((below_step BW.out br6).cell (World.block_lt_of_cell? w _ H0.out)).trans H0.out, ((below_step BW.out br6).cell (World.block_lt_of_cell? w _ H1.out)).trans H1.out⟩
      have HB6 := Aside0.mk hb6; have HD6 := Aside0.mk hd6; clear BR; have BR := Aside0.mk br6; have LO := Aside0.mk lo; have DL := Aside0.mk hdl; clear hb6 hd6 br6 lo hdl
      refine norm_ (a' := ?_) ?_ ?_; rotate_left
      · simp only [putAll, Act.put, List.setIfInBounds_toArray, List.set_cons_zero, List.set_cons_succ]; rfl
      refine one_ (i := 21) (N := none) (V 22 4194303) rfl rfl (one_of HT_.out (by kernel_rfl)) (by decide) (fun K hK => ?_)
      refine Go.Proofs.YthapknnppabdaaaGreat.Fill.skip_event (by rfl) rfl 46 _ _ rfl p6 #[.int .i64 yn, .slice Ad d.length cd] rfl rfl 46 #[.int .i64 0, .slice none 0 0] HB6.out (by kernel_rfl) (by rfl) (two_one _ _ _ _) ?_
      intro w7 hbk hkp hbl
      have HB7 := Aside0.mk hbk; have HD7 := Aside0.mk (Kd.R_keep HD6.out hkp (fun k hk => hk)); have BR7 := Aside0.mk (hbl _ _ BR.out LO.out); clear hbk hkp hbl HB6 HD6 BR; have BR := BR7; clear BR7
      refine hK.out _ _ (⟨((below_step BW.out BR.out).cell (World.block_lt_of_cell? w _ H0.out)).trans H0.out, ((below_step BW.out BR.out).cell (World.block_lt_of_cell? w _ H1.out)).trans H1.out⟩) (fun hHeld => ?_)
      clear hK K
      refine done_ (done_of HT_.out (by kernel_rfl)) ?_
      have HS7 := Aside0.mk (Kd.S_old HO.out BR.out); have BW7 := Aside0.mk (below_step BW.out BR.out)
      have BS := Aside0.mk (below_size BR.out)
      go_upto_region 7 with fail
      have HK7 := Aside0.mk (Kd.R_reads' HD7.out)
      obtain ⟨zs, hzC, hzK⟩ := raw_of (Kd.S_reads' HS7.out).2.2
      have HZ := Aside0.mk (And.intro hzC hzK)
      have hzl : zs.length = o.length := hzC.1
      have HZL := Aside0.mk hzl; clear hzl hzC hzK
      have BQ := Aside0.mk (below_drew1 (Below.refl w7.heap.size w7))
      refine start_ (n := 11) (ds := []) (S := fun w' => w'.heap[p6]? = some (.cells #[.int .i64 yn, .slice Ad d.length cd] 46 (0, 0))) (V 11 0) (by rfl) (by rfl) (by kernel_rfl) (blk_below HB7.out BQ.out) (fun hHeld => ?_); refine with_tabW tab45_7 bits45_7 (fun HT_ HW_ => ?_)
      generalize w7.drew = we at BQ hHeld ⊢
      refine pure_ (i := 0) (N := some 41) (v := ?_) (a' := ?_) (V 11 1) rfl rfl (any_of HT_.out (by kernel_rfl)) (fun _ _ _ h => h) (Or.inl ⟨by rfl, ?_⟩) ?_ ?_; rotate_left
      · intro w'; go_simp; with_reducible rfl
      rotate_left
      · simp only [Act.put, List.setIfInBounds_toArray, List.set_cons_zero, List.set_cons_succ, i64_w, i32_w]; rfl
      refine take_ (i := 2) (N := some 43) (v := .agg #[.int .i64 yn, .slice Ad d.length cd]) (a' := ?_) (V 11 5) rfl rfl (take_ofW HT_.out HW_.out (by kernel_rfl)) (fun _ _ _ h => h) (Or.inl ⟨by rfl, fun w' hs => Go.Proofs.YthapknnppabdaaaGreat.Fill.row_yields 46 _ rfl p6 rfl 46 _ (0, 0) _ hs hu46 rfl (by kernel_rfl)⟩) hHeld ?_ ?_; rotate_left
      · simp only [Act.put, List.setIfInBounds_toArray, List.set_cons_zero, List.set_cons_succ, i64_w, i32_w]; rfl
      refine join_ (σ := Value × Nat) 7 (V 11 15) (fun s => [(42, s.1), (44, .slice (some ⟨s.2, 0, none⟩) 1 1)]) (fun s w' => Kd.R (kraw 2) 46 w' w7.heap.size (fun k => w7.heap.size ≤ k) s.1 zs ∧ w'.heap[s.2]? = some (.cells #[.int .i64 yn, .slice Ad d.length cd] 46 (0, 0)) ∧ Below w7.heap.size w7 w') ?_ ?_
      rotate_left
      · intro hcont
        have HCONT := Aside0.mk hcont; clear hcont
        refine two_ (i := 1) (j := 3) (Ni := some 42) (Nj := some 44) (V 11 7) (V 11 13) rfl rfl rfl rfl (two_of HT_.out (by kernel_rfl)) (by decide) (by decide) (fun K hK => ?_) (fun K hK => ?_)
        · skip
          refine Kd.R_append_rows_step (kraw 2) (w0 := we) (World.heap we).size (by rfl) (.const (.slice none 0 0)) (.tmp 41) 25 46 (.agg #[.int .i64 0, .slice none 0 0]) 32 rfl Tryz.underlying25 info46 rfl (by decide) (by omega) (.slice none 0 0) [] zs A3 o.length c3 (fun _ => True) (fun _ => False) rfl rfl ?aO ?aR (fun _ _ h => h) (fun _ h => h.elim) ?aF ?aB ?aS ?aL ?_
          (case aO => exact Kd.R_nil _ _ _ _ _)
          (case aR => exact Kd.C_below HZ.out.1 BQ.out)
          (case aB => exact Below.refl _ _)
          (case aF => exact (fun _ _ => trivial))
          (case aS => exact Nat.le_refl _)
          (case aL => exact (by have := FT.out.1; show (0 + o.length) * 32 ≤ _; omega))
          intro v8 w8 ho hb hg hat
          rw [List.nil_append] at ho
          have B8 := Aside0.mk (below_step BQ.out hb); have H8 := Aside0.mk (Kd.R_lower ho (below_size BQ.out))
          refine hK.out _ _ (blk_below HB7.out B8.out) (fun hHeld => ?_)
          clear hK K
          refine norm_ (a' := ?_) ?_ ?_; rotate_left
          · show Act.put _ (some 42) _ = _; simp only [Act.put, List.setIfInBounds_toArray, List.set_cons_zero, List.set_cons_succ, i64_w, i32_w]; rfl
          refine one_ (i := 3) (N := some 44) (V 11 15) rfl rfl (one_of HT_.out (by kernel_rfl)) (by decide) (fun K hK => ?_)
          refine value_ (w1 := ?_) (v := ?_) (by rfl) rfl ?_ ?_; rotate_left 2
          · go_simp
            constructor
            · rfl
            · rfl
          refine hK.out _ _ (blk_below HB7.out (below_alloc B8.out _)) (fun hHeld => ?_)
          clear hK K
          refine norm_ (a' := ?_) ?_ ?_; rotate_left
          · show Act.put _ (some 44) _ = _; simp only [Act.put, List.setIfInBounds_toArray, List.set_cons_zero, List.set_cons_succ, i64_w, i32_w]; rfl
          refine norm_ (a' := putAll _ _) ?_ (HCONT.out ⟨v8, w8.heap.size⟩ _ ⟨Kd.R_alloc (Kd.R_mono (Kd.R_bound H8.out) (fun k hk => hk.2.1)) _, blk_new w8 _, below_alloc B8.out _⟩)
          simp only [putAll, Act.put, List.setIfInBounds_toArray, List.set_cons_zero, List.set_cons_succ]
        · skip
          refine value_ (w1 := ?_) (v := ?_) (by rfl) rfl ?_ ?_; rotate_left 2
          · go_simp
            constructor
            · rfl
            · rfl
          refine hK.out _ _ (blk_below HB7.out (below_alloc BQ.out _)) (fun hHeld => ?_)
          clear hK K
          refine norm_ (a' := ?_) ?_ ?_; rotate_left
          · show Act.put _ (some 44) _ = _; simp only [Act.put, List.setIfInBounds_toArray, List.set_cons_zero, List.set_cons_succ, i64_w, i32_w]; rfl
          have hbg := blk_new we (.cells #[.int .i64 yn, .slice Ad d.length cd] 46)
          have bqg := below_alloc BQ.out (.cells #[.int .i64 yn, .slice Ad d.length cd] 46)
          obtain ⟨g, hgg⟩ : ∃ g, g = we.heap.size := ⟨_, rfl⟩
          rw [← hgg] at hbg ⊢; clear hgg; revert hHeld hbg bqg
          generalize we.alloc (.cells #[.int .i64 yn, .slice Ad d.length cd] 46) = wf
          intro hHeld bqg hbg
          have HBG := Aside0.mk hbg; have BF := Aside0.mk bqg; clear hbg bqg
          refine one_ (i := 1) (N := some 42) (V 11 15) rfl rfl (one_of HT_.out (by kernel_rfl)) (by decide) (fun K hK => ?_)
          refine Kd.R_append_rows_step (kraw 2) (w0 := wf) (World.heap wf).size (by rfl) (.const (.slice none 0 0)) (.tmp 41) 25 46 (.agg #[.int .i64 0, .slice none 0 0]) 32 rfl Tryz.underlying25 info46 rfl (by decide) (by omega) (.slice none 0 0) [] zs A3 o.length c3 (fun _ => True) (fun _ => False) rfl rfl ?aO ?aR (fun _ _ h => h) (fun _ h => h.elim) ?aF ?aB ?aS ?aL ?_
          (case aO => exact Kd.R_nil _ _ _ _ _)
          (case aR => exact Kd.C_below HZ.out.1 BF.out)
          (case aB => exact Below.refl _ _)
          (case aF => exact (fun _ _ => trivial))
          (case aS => exact Nat.le_refl _)
          (case aL => exact (by have := FT.out.1; show (0 + o.length) * 32 ≤ _; omega))
          intro v8 w8 ho hb hg hat
          rw [List.nil_append] at ho
          have B8 := Aside0.mk (below_step BF.out hb); have H8 := Aside0.mk (Kd.R_lower ho (below_size BF.out)); have HG8 := Aside0.mk (blk_below HBG.out hb)
          refine hK.out _ _ (blk_below HB7.out B8.out) (fun hHeld => ?_)
          clear hK K
          refine norm_ (a' := ?_) ?_ ?_; rotate_left
          · show Act.put _ (some 42) _ = _; simp only [Act.put, List.setIfInBounds_toArray, List.set_cons_zero, List.set_cons_succ, i64_w, i32_w]; rfl
          refine norm_ (a' := putAll _ _) ?_ (HCONT.out ⟨v8, g⟩ _ ⟨Kd.R_mono (Kd.R_bound H8.out) (fun k hk => hk.2.1), HG8.out, B8.out⟩)
          simp only [putAll, Act.put, List.setIfInBounds_toArray, List.set_cons_zero, List.set_cons_succ]
      rintro ⟨v8, g8⟩ w8 ⟨hx8, hg8, bq8⟩
      dsimp only at hx8 hg8
      have HX8 := Aside0.mk hx8; have HG8 := Aside0.mk hg8; clear BQ hHeld; have BQ := Aside0.mk bq8; clear hx8 hg8 bq8
      have hHeld : w8.heap[p6]? = some (.cells #[.int .i64 yn, .slice Ad d.length cd] 46 (0, 0)) := blk_below HB7.out BQ.out
      refine norm_ (a' := ?_) ?_ ?_; rotate_left
      · simp only [putAll, Act.put, List.setIfInBounds_toArray, List.set_cons_zero, List.set_cons_succ]; rfl
      refine one_ (i := 4) (N := some 45) (V 11 31) rfl rfl (one_of HT_.out (by kernel_rfl)) (by decide) (fun K hK => ?_)
      refine Kd.R_append_rows_step (kraw 2) (w0 := w7) w7.heap.size (by rfl) (.tmp 42) (.tmp 44) 25 46 (.agg #[.int .i64 0, .slice none 0 0]) 32 rfl Tryz.underlying25 info46 rfl (by decide) (by omega) v8 zs [[.int .i64 yn, .slice Ad d.length cd]] (some ⟨g8, 0, none⟩) 1 1 (fun k => w7.heap.size ≤ k) (fun _ => False) rfl rfl ?aO ?aR (fun _ _ h => h) (fun _ h => h.elim) ?aF ?aB ?aS ?aL ?_
      (case aR => exact cell_lit HG8.out rfl rfl)
      (case aB => exact BQ.out)
      (case aF => exact (fun k hk => Nat.le_trans (below_size BQ.out) hk))
      (case aO => exact HX8.out)
      (case aS => exact below_size BQ.out)
      (case aL => exact (by have := FT.out.1; have := HZL.out; show (zs.length + 1) * 32 ≤ _; omega))
      intro v9 w9 ho hb hg hat
      obtain ⟨A9, c9, e9, hc9, hC9⟩ := Kd.R_reads ho
      subst e9
      replace BQ := Aside0.mk hb
      have hl9 : (zs ++ [[Value.int .i64 yn, Value.slice Ad d.length cd]]).length = (o ++ [(⟨yn, d⟩ : S46)]).length := by rw [List.length_append, List.length_append, HZL.out]; rfl
      rw [hl9] at hc9 hC9 ⊢
      have HC9 : Aside0 (k46.C w9 A9 (o ++ [(⟨yn, d⟩ : S46)]).length (o ++ [(⟨yn, d⟩ : S46)])) := ⟨raw_back (d := k46) (zs := zs ++ [[Value.int .i64 yn, Value.slice Ad d.length cd]]) hC9 rfl (fun j x z hx hz => by
        rcases Nat.lt_or_ge j o.length with hj | hj
        · rw [List.getElem?_append_left (by omega)] at hx
          rw [List.getElem?_append_left (by have := HZL.out; omega)] at hz
          exact k46.K_below BQ.out (HZ.out.2 j x z hx hz)
        · have hj' : j = o.length := by have := (List.getElem?_eq_some_iff.1 hx).1; rw [List.length_append] at this; simp only [List.length_cons, List.length_nil] at this; omega
          subst hj'
          rw [List.getElem?_append_right (Nat.le_refl _), Nat.sub_self] at hx
          rw [← HZL.out, List.getElem?_append_right (Nat.le_refl _), Nat.sub_self] at hz
          simp only [List.getElem?_cons_zero, Option.some.injEq] at hx hz
          subst hx; subst hz
          exact k46_mk _ ⟨yn, d⟩ HK7.out.2.1 (Kd.C_below HK7.out.2.2 BQ.out))⟩
      have HCC := Aside0.mk hc9
      clear ho hb hg hat hC9 HX8 hc9 hl9
      refine hK.out _ _ (blk_below HB7.out BQ.out) (fun hHeld => ?_)
      clear hK K
      refine norm_ (a' := ?_) ?_ ?_; rotate_left
      · show Act.put _ (some 45) _ = _; simp only [Act.put, List.setIfInBounds_toArray, List.set_cons_zero, List.set_cons_succ, i64_w, i32_w]; rfl
      refine one_ (i := 5) (N := some 46) (V 11 63) rfl rfl (one_of HT_.out (by kernel_rfl)) (by decide) (fun K hK => ?_)
      refine goes_ Tryz.func46 (by kernel_rfl) rfl #[.slice A9 (o ++ [(⟨yn, d⟩ : S46)]).length c9] (by rfl) rfl rfl (by (try simp only [List.map_toArray, List.map_cons, List.map_nil]); first | done | rfl) ?_
      with_reducible refine (writeTags_e A9 c9 (o ++ [(⟨yn, d⟩ : S46)]) _ HC9.out HCC.out).mono ?_
      rintro e w105 ⟨Ab, lb, cb, er, rfl, hiff, -, -, -, -, hb⟩
      have HIFF := Aside0.mk hiff; clear hiff
      generalize lb.length = nb
      refine ⟨_, rfl, ?_⟩
      replace BQ := Aside0.mk (below_step BQ.out hb); clear hb HC9 HCC
      refine hK.out _ _ (blk_below HB7.out BQ.out) (fun hHeld => ?_)
      clear hK K
      refine norm_ (a' := ?_) ?_ ?_; rotate_left
      · show Act.put _ (some 46) _ = _; simp only [Act.put, List.setIfInBounds_toArray, List.set_cons_zero, List.set_cons_succ, i64_w, i32_w]; rfl
      refine pure_ (i := 6) (N := some 40) (v := ?_) (a' := ?_) (V 11 127) rfl rfl (any_of HT_.out (by kernel_rfl)) (fun _ _ _ h => h) (Or.inl ⟨by rfl, ?_⟩) ?_ ?_; rotate_left
      · intro w'; go_simp; with_reducible rfl
      rotate_left
      · simp only [Act.put, List.setIfInBounds_toArray, List.set_cons_zero, List.set_cons_succ, i64_w, i32_w]; rfl
      refine pure_ (i := 7) (N := some 47) (v := ?_) (a' := ?_) (V 11 255) rfl rfl (any_of HT_.out (by kernel_rfl)) (fun _ _ _ h => h) (Or.inl ⟨by rfl, ?_⟩) ?_ ?_; rotate_left
      · intro w'; go_simp; with_reducible rfl
      rotate_left
      · simp only [Act.put, List.setIfInBounds_toArray, List.set_cons_zero, List.set_cons_succ, i64_w, i32_w]; rfl
      refine pure_ (i := 8) (N := some 48) (v := ?_) (a' := ?_) (V 11 511) rfl rfl (any_of HT_.out (by kernel_rfl)) (fun _ _ _ h => h) (Or.inl ⟨by rfl, ?_⟩) ?_ ?_; rotate_left
      · intro w'; go_simp; with_reducible rfl
      rotate_left
      · simp only [Act.put, List.setIfInBounds_toArray, List.set_cons_zero, List.set_cons_succ, i64_w, i32_w]; rfl
      refine pure_ (i := 9) (N := some 7) (v := ?_) (a' := ?_) (V 11 1023) rfl rfl (any_of HT_.out (by kernel_rfl)) (fun _ _ _ h => h) (Or.inl ⟨by rfl, ?_⟩) ?_ ?_; rotate_left
      · intro w'; go_simp; with_reducible rfl
      rotate_left
      · simp only [Act.put, List.setIfInBounds_toArray, List.set_cons_zero, List.set_cons_succ, i64_w, i32_w]; rfl
      refine pure_ (i := 10) (N := some 8) (v := ?_) (a' := ?_) (V 11 2047) rfl rfl (any_of HT_.out (by kernel_rfl)) (fun _ _ _ h => h) (Or.inl ⟨by rfl, ?_⟩) ?_ ?_; rotate_left
      · intro w'; go_simp; with_reducible rfl
      rotate_left
      · simp only [Act.put, List.setIfInBounds_toArray, List.set_cons_zero, List.set_cons_succ, i64_w, i32_w]; rfl
      refine done_ (done_of HT_.out (by kernel_rfl)) ?_
      have HBX := Aside0.mk (blk_below HB7.out BQ.out); have HDX := Aside0.mk (Kd.R_below HD7.out BQ.out); have HSX := Aside0.mk (Kd.S_below HS7.out BQ.out); have BWX := Aside0.mk (below_step BW7.out BQ.out)
      go_upto_region 8 with fail
      have q0 : w105.cell? ⟨p6, 0, none⟩ = some (.int .i64 yn) := (blk_cell HBX.out 0).trans rfl
      have q1 : w105.cell? ⟨p6, 1, none⟩ = some (.slice Ad d.length cd) := (blk_cell HBX.out 1).trans rfl
      have hn0 : 0 ≤ n := by have := HN.out.1; omega
      have hn1 : n ≤ 204 := by have := HN.out.2; omega
      have hd30 : d.length ≤ 30 := DL.out.1
      by_cases e0 : er = 0
      rotate_left
      · have e0b : (er == 0) = false := beq_eq_false_iff_ne.mpr e0
        replace e0 := Aside0.mk e0
        go_wp2_with fail
        go_roundg (l.length - (kk + 1))
        case measure => omega
        case rel => exact ⟨kk + 1, A3, c3, o, n, by omega, by omega, by go_num, rfl, rfl, HN, FT, ⟨Kd.S_mono HSX.out (fun _ _ => trivial)⟩, BWX⟩
      have e0b : (er == 0) = true := beq_iff_eq.mpr e0
      replace e0 := Aside0.mk e0
      by_cases e2 : n + (d.length : Int) < 200
      rotate_left
      · skip
        go_wp2_with fail
        go_roundg (l.length - (kk + 1))
        case measure => omega
        case rel => exact ⟨kk + 1, A3, c3, o, n, by omega, by omega, by go_num, rfl, rfl, HN, FT, ⟨Kd.S_mono HSX.out (fun _ _ => trivial)⟩, BWX⟩
      go_upto_region 9 with fail
      have BU := Aside0.mk (below_drew1 (Below.refl w105.heap.size w105))
      refine start_ (n := 12) (ds := []) (S := fun w' => w'.heap[p6]? = some (.cells #[.int .i64 yn, .slice Ad d.length cd] 46 (0, 0)) ∧ w'.cell? ⟨p6, 1, none⟩ = some (.slice Ad d.length cd)) (V 12 0) (by rfl) (by rfl) (by kernel_rfl) (⟨blk_below HBX.out BU.out, (blk_cell (blk_below HBX.out BU.out) 1).trans rfl⟩) (fun hHeld => ?_); refine with_tabW tab45_9 bits45_9 (fun HT_ HW_ => ?_)
      generalize w105.drew = wg at BU hHeld ⊢
      refine pure_ (i := 0) (N := some 59) (v := ?_) (a' := ?_) (V 12 1) rfl rfl (any_of HT_.out (by kernel_rfl)) (fun _ _ _ h => h) (Or.inl ⟨by rfl, ?_⟩) ?_ ?_; rotate_left
      · intro w'; go_simp; with_reducible rfl
      rotate_left
      · simp only [Act.put, List.setIfInBounds_toArray, List.set_cons_zero, List.set_cons_succ, i64_w, i32_w]; rfl
      refine take_ (i := 1) (N := some 60) (v := .agg #[.int .i64 yn, .slice Ad d.length cd]) (a' := ?_) (V 12 3) rfl rfl (take_ofW HT_.out HW_.out (by kernel_rfl)) (fun _ _ _ h => h) (Or.inl ⟨by rfl, fun w' hs => Go.Proofs.YthapknnppabdaaaGreat.Fill.row_yields 46 _ rfl p6 rfl 46 _ (0, 0) _ hs.1 hu46 rfl (by kernel_rfl)⟩) hHeld ?_ ?_; rotate_left
      · simp only [Act.put, List.setIfInBounds_toArray, List.set_cons_zero, List.set_cons_succ, i64_w, i32_w]; rfl
      refine pure_ (i := 4) (N := some 63) (v := ?_) (a' := ?_) (V 12 19) rfl rfl (any_of HT_.out (by kernel_rfl)) (fun _ _ _ h => h) (Or.inl ⟨by rfl, ?_⟩) ?_ ?_; rotate_left
      · intro w'; go_simp; with_reducible rfl
      rotate_left
      · simp only [Act.put, List.setIfInBounds_toArray, List.set_cons_zero, List.set_cons_succ, i64_w, i32_w]; rfl
      refine pure_ (i := 5) (N := some 64) (v := ?_) (a' := ?_) (V 12 51) rfl rfl (any_of HT_.out (by kernel_rfl)) (fun _ _ _ h => h) (Or.inl ⟨by rfl, ?_⟩) ?_ ?_; rotate_left
      · intro w'; go_simp; with_reducible rfl
      rotate_left
      · simp only [Act.put, List.setIfInBounds_toArray, List.set_cons_zero, List.set_cons_succ, i64_w, i32_w]; rfl
      refine take_ (i := 6) (N := some 65) (v := ?_) (a' := ?_) (V 12 115) rfl rfl (take_ofW HT_.out HW_.out (by kernel_rfl)) (fun _ _ _ h => h) (Or.inl ⟨by rfl, ?_⟩) hHeld ?_ ?_; rotate_left
      · rintro w' ⟨-, s1⟩; go_simp; with_reducible rfl
      rotate_left
      · simp only [Act.put, List.setIfInBounds_toArray, List.set_cons_zero, List.set_cons_succ, i64_w, i32_w]; rfl
      refine pure_ (i := 7) (N := some 66) (v := ?_) (a' := ?_) (V 12 243) rfl rfl (any_of HT_.out (by kernel_rfl)) (fun _ _ _ h => h) (Or.inl ⟨by rfl, ?_⟩) ?_ ?_; rotate_left
      · intro w'; go_simp; with_reducible rfl
      rotate_left
      · simp only [Act.put, List.setIfInBounds_toArray, List.set_cons_zero, List.set_cons_succ, i64_w, i32_w]; rfl
      refine pure_ (i := 8) (N := some 67) (v := ?_) (a' := ?_) (V 12 499) rfl rfl (any_of HT_.out (by kernel_rfl)) (fun _ _ _ h => h) (Or.inl ⟨by rfl, ?_⟩) ?_ ?_; rotate_left
      · intro w'; go_simp; with_reducible rfl
      rotate_left
      · simp only [Act.put, List.setIfInBounds_toArray, List.set_cons_zero, List.set_cons_succ, i64_w, i32_w]; rfl
      refine pure_ (i := 9) (N := some 68) (v := ?_) (a' := ?_) (V 12 1011) rfl rfl (any_of HT_.out (by kernel_rfl)) (fun _ _ _ h => h) (Or.inl ⟨by rfl, ?_⟩) ?_ ?_; rotate_left
      · intro w'; go_simp; with_reducible rfl
      rotate_left
      · simp only [Act.put, List.setIfInBounds_toArray, List.set_cons_zero, List.set_cons_succ, i64_w, i32_w]; rfl
      refine one_ (i := 2) (N := some 61) (V 12 1015) rfl rfl (one_of HT_.out (by kernel_rfl)) (by decide) (fun K hK => ?_)
      refine value_ (w1 := ?_) (v := ?_) (by rfl) rfl ?_ ?_; rotate_left 2
      · go_simp
        constructor
        · rfl
        · rfl
      refine hK.out _ _ (⟨blk_below HBX.out (below_alloc BU.out _), (blk_cell (blk_below HBX.out (below_alloc BU.out _)) 1).trans rfl⟩) (fun hHeld => ?_)
      clear hK K
      refine norm_ (a' := ?_) ?_ ?_; rotate_left
      · show Act.put _ (some 61) _ = _; simp only [Act.put, List.setIfInBounds_toArray, List.set_cons_zero, List.set_cons_succ, i64_w, i32_w]; rfl
      have HSG := Aside0.mk (Kd.S_below HSX.out BU.out); have HDG := Aside0.mk (Kd.R_below HDX.out BU.out); have BWG := Aside0.mk (below_step BWX.out BU.out); have HBG := Aside0.mk (blk_below HBX.out BU.out)
      refine one_ (i := 3) (N := some 62) (V 12 1023) rfl rfl (one_of HT_.out (by kernel_rfl)) (by decide) (fun K hK => ?_)
      refine Kd.S_append_step k46 (w0 := w) w.heap.size (by rfl) (.tmp 59) (.tmp 61) 25 46 (.agg #[.int .i64 0, .slice none 0 0]) 32 rfl Tryz.underlying25 info46 rfl (by decide) (by omega) (.slice A3 o.length c3) o (⟨yn, d⟩ : S46) [.int .i64 yn, .slice Ad d.length cd] (fun _ => True) (fun k => some k = (Value.slice Ad d.length cd).ownBlock) rfl rfl ?aP ?aK ?aF ?aO ?aB ?aS ?aL ?_
      (case aP => exact k46_mkM _ _ _ (⟨yn, d⟩ : S46) (Kd.R_lower (Kd.R_tight rfl HDG.out) (below_size BW.out)))
      (case aK => exact (fun k hk => ⟨trivial, Kd.S_away HSG.out (fun k' hk' => by have h1 := Kd.R_base HDG.out k hk.symm; have h2 : k' < wr.heap.size := hk'.2; omega)⟩))
      (case aF => exact (fun _ _ => trivial))
      (case aO => exact Kd.S_mono HSG.out (fun k hk => ⟨trivial, fun ek => by have h1 := Kd.R_base HDG.out k ek.symm; have h2 : k < wr.heap.size := hk.2; omega⟩))
      (case aB => exact BWG.out)
      (case aS => exact below_size BWG.out)
      (case aL => exact (by omega))
      intro v2 w2 ho hb hg hat
      have HB2 : w2.heap[p6]? = some (.cells #[.int .i64 yn, .slice Ad d.length cd] 46 (0, 0)) := (hg.block p6 (blk_lt HBG.out) (Kd.S_away HSG.out (fun k' hk' => by have h2 : k' < wr.heap.size := hk'.2; have := LO.out; omega))).trans HBG.out
      have HO2 := Aside0.mk ho; have BW2 := Aside0.mk hb; clear ho hb hg hat
      refine hK.out _ _ (⟨HB2, (blk_cell HB2 1).trans rfl⟩) (fun hHeld => ?_)
      clear hK K
      refine norm_ (a' := ?_) ?_ ?_; rotate_left
      · show Act.put _ (some 62) _ = _; simp only [Act.put, List.setIfInBounds_toArray, List.set_cons_zero, List.set_cons_succ, i64_w, i32_w]; rfl
      obtain ⟨A4, c4, e4⟩ := Kd.S_slice HO2.out
      subst e4
      refine pure_ (i := 10) (N := some 3) (v := ?_) (a' := ?_) (V 12 2047) rfl rfl (any_of HT_.out (by kernel_rfl)) (fun _ _ _ h => h) (Or.inl ⟨by rfl, ?_⟩) ?_ ?_; rotate_left
      · intro w'; go_simp; with_reducible rfl
      rotate_left
      · simp only [Act.put, List.setIfInBounds_toArray, List.set_cons_zero, List.set_cons_succ, i64_w, i32_w]; rfl
      refine pure_ (i := 11) (N := some 4) (v := ?_) (a' := ?_) (V 12 4095) rfl rfl (any_of HT_.out (by kernel_rfl)) (fun _ _ _ h => h) (Or.inl ⟨by rfl, ?_⟩) ?_ ?_; rotate_left
      · intro w'; go_simp; with_reducible rfl
      rotate_left
      · simp only [Act.put, List.setIfInBounds_toArray, List.set_cons_zero, List.set_cons_succ, i64_w, i32_w]; rfl
      refine done_ (done_of HT_.out (by kernel_rfl)) ?_
      try go_wp2
      have hn9 : n + (d.length : Int) + 4 ≤ 203 := by omega
      have HN2 : Aside0 (n + (d.length : Int) + 4 = (tagsLen (o ++ [(⟨yn, d⟩ : S46)]) : Int) ∧ n + (d.length : Int) + 4 ≤ 203) := ⟨⟨by rw [tagsLen_snoc]; have := HN.out.1; show _ = ((tagsLen o + (d.length + 4) : Nat) : Int); omega, hn9⟩⟩
      have FT2 : Aside0 (FewTags (o ++ [(⟨yn, d⟩ : S46)])) := ⟨⟨by rw [List.length_append]; show o.length + 1 ≤ 6; omega, fun t ht => by
        rcases List.mem_append.1 ht with h | h
        · exact FT.out.2.1 t h
        · rw [List.mem_singleton] at h; rw [h]; exact DL.out.1, HIFF.out.1 e0.out, tagsIn_of fun t ht => by
        rcases List.mem_append.1 ht with h | h
        · exact of_tagsIn FT.out.2.2.2.1 t h
        · rw [List.mem_singleton] at h; rw [h]; exact DL.out.2, by have h1 := HN2.out.1; have h2 := HN2.out.2; omega⟩⟩
      clear hn9
      go_roundg (l.length - (kk + 1))
      case measure => omega
      case rel => exact ⟨kk + 1, A4, c4, _, n + (d.length : Int) + 4, by omega, by omega, by go_num, (by rw [List.length_append]; rfl), (by congr 1; unfold wrap64; omega), HN2, FT2, HO2, BW2⟩
end Go.Proofs.YthapknnppabdaaaGreat.MQ
