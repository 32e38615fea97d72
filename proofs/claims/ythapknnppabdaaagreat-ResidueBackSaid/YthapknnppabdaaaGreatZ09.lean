/- ResidueBack: part 9 of its proof. -/
import Derived.Test.YthapknnppabdaaaGreatZ08
namespace Go.Proofs.YthapknnppabdaaaGreat.MQ
open Go.RowKit Go.Proofs.YthapknnppabdaaaGreatW.PrintWords Go.Proofs.YthapknnppabdaaaGreatW.PrintLast Go.Proofs.YthapknnppabdaaaGreatW.PrintMore
set_option linter.unusedVariables false
set_option linter.unusedSimpArgs false
def T95_6 : Bool × List (List Nat × List Nat) := (true, [([], []), ([0], [0]), ([], []), ([2], [2]), ([], []), ([3, 4], [3, 4]), ([5], [5]), ([6], [6]), ([1, 7], [1, 7]), ([8], [8]), ([], []), ([10], [10]), ([], []), ([11, 12], [11, 12]), ([13], [13]), ([14], [14]), ([15], [15]), ([9, 16], [9, 16]), ([17], [17]), ([18, 16, 0, 1, 2, 3, 4, 5, 6, 7, 8, 9, 10, 11, 12, 13, 14, 15, 16, 17, 18], [0, 18])])
def B95_6 : List Nat := [0, 1, 0, 4, 0, 28, 60, 124, 255, 511, 0, 1024, 0, 7168, 15360, 31744, 64512, 131071, 262143, 524287]
theorem tab95_6 : rtab .any (opsOf Tryz.f95 6) = T95_6 := by kernel_rfl
theorem bits95_6 : waitsOk T95_6.2 B95_6 = true := by kernel_rfl

theorem kids_up {L : List S133} (hT : TreeOK L) (i : Int) : (kidsIx L i).Pairwise (· < ·) ∧ ∀ k ∈ kidsIx L i, i < k := by
  refine ⟨?_, fun k hk => ?_⟩
  · unfold kidsIx
    split
    · unfold kidsTo
      rw [List.pairwise_map]
      exact (List.Pairwise.filter _ List.pairwise_lt_range).imp (fun h => by omega)
    · exact List.Pairwise.nil
  · obtain ⟨h0, h1, h2⟩ := kidsIx_mem hk
    have := (hT k.toNat (by omega)).2
    rw [Int.toNat_of_nonneg h0, h2] at this
    exact this
/-- How long what is written of a node may be. -/
def wcap (n i : Nat) : Nat := 8388608 * 2 ^ (n - i)
theorem cap_step {n i k : Nat} (h : i < k) (hk : k ≤ n) : 2 * wcap n k ≤ wcap n i := by
  unfold wcap
  have e : n - i = (n - k) + (k - i - 1) + 1 := by omega
  rw [e, Nat.pow_succ, Nat.pow_add]
  have : 0 < 2 ^ (k - i - 1) := Nat.pow_pos (by decide)
  have h2 : 2 ^ (n - k) * 1 ≤ 2 ^ (n - k) * 2 ^ (k - i - 1) := Nat.mul_le_mul_left _ this
  omega
theorem cap_top {n i : Nat} (hn : n ≤ 38) : wcap n i ≤ 2305843009213693952 := by
  unfold wcap
  have : 2 ^ (n - i) ≤ 2 ^ 38 := Nat.pow_le_pow_right (by decide) (by omega)
  omega
theorem cap_low (n i : Nat) : 8388608 ≤ wcap n i := by
  unfold wcap
  have : 0 < 2 ^ (n - i) := Nat.pow_pos (by decide)
  omega
def Wr (n i : Nat) (t : ByteArray) : Prop := t.size ≤ wcap n i
set_option maxHeartbeats 16000000 in
set_option maxRecDepth 100000 in
theorem write_e (A : Option Addr) (c : Nat) (L : List S133) (hc : L.length ≤ c) (hS : Shape L) (d : Nat) : ∀ (i : Nat) (w : World), L.length - i ≤ d → i < L.length → k133.C w A L.length L → Calls Tryz.prog 95 #[.slice A L.length c, .int .i64 (i : Int)] w (OutS (Wr L.length i) w) := by
  have HS := Aside0.mk hS
  have hn1 : L.length ≤ 38 := hS.hi
  clear hS
  induction d with
  | zero => intro i w h1 h2; omega
  | succ d ih =>
    intro i w hd hi hC
    have IH := Aside0.mk ih
    have HC := Aside0.mk hC
    clear ih hC
    have hiz : (i : Int) < (L.length : Int) := by omega
    have hu133 := Aside0.mk Tryz.underlying133
    obtain ⟨ad, A3, c3, ea, c0, c1, c2, c3', l3, g3⟩ := at_T133 HC.out (i : Int) (by omega) hiz
    have HA := Aside0.mk ea
    subst ea
    rw [Int.toNat_natCast] at c0 c1 c2 c3'
    obtain ⟨y, HY⟩ : ∃ y, Aside0 (y = nod L i) := ⟨_, ⟨rfl⟩⟩
    change w.cell? (ad.add (i * 4)) = some (.int .i64 (nod L i).f0) at c0
    change w.cell? ⟨(ad.add (i * 4)).block, (ad.add (i * 4)).off + 1, none⟩ = some (.string (nod L i).f1) at c1
    change w.cell? ⟨(ad.add (i * 4)).block, (ad.add (i * 4)).off + 2, none⟩ = some (.string (nod L i).f2) at c2
    change w.cell? ⟨(ad.add (i * 4)).block, (ad.add (i * 4)).off + 3, none⟩ = some (.slice A3 (nod L i).f3.length c3) at c3'
    change (nod L i).f3.length ≤ c3 at l3
    change k130.C w A3 (nod L i).f3.length (nod L i).f3 at g3
    rw [← HY.out] at c0 c1 c2 c3' l3 g3
    have HG := Aside0.mk g3
    clear g3
    obtain ⟨l0, HL0⟩ : ∃ n, Aside0 (n = y.f3.length) := ⟨_, ⟨rfl⟩⟩
    rw [← HL0.out] at c3' l3
    have hz1 : y.f1.size ≤ 1000 := by rw [HY.out]; exact (HS.out.nam i hi).2
    have hz2 : y.f2.size ≤ 1000000 := by rw [HY.out]; exact HS.out.txt i hi
    have HAT : Aside0 (y.f3 = [] ∨ y.f3 = [xm]) := ⟨by
      rw [HY.out]
      rcases Nat.eq_zero_or_pos i with h | h
      · subst h; exact .inr HS.out.att0
      · exact .inl (HS.out.att i h hi)⟩
    go_enter Tryz.func95, Tryz.ntmps95
    go_upto_region 2 with ((with_reducible refine gate_store (t := 133) (p := 5) rfl ?_); refine Go.Proofs.YthapknnppabdaaaGreat.Fill.store_event rfl 133 _ _ rfl w.heap.size #[.int .i64 y.f0, .string y.f1, .string y.f2, .slice A3 l0 c3] rfl rfl 133 #[.int .i64 0, .string ⟨#[]⟩, .string ⟨#[]⟩, .slice none 0 0] (blk_new w _) (by kernel_rfl) (by rfl) (by rw [← Array.all_toList]; rfl) ?_; intro w1 ea eb ec; have J1 := Aside0.mk (And.intro ea (ec _ _ (below_alloc (Below.refl _ w) _) (Nat.le_refl _))); clear ea eb ec)
    obtain ⟨p, HP⟩ : ∃ p, Aside0 (p = w.heap.size) := ⟨_, ⟨rfl⟩⟩
    rw [← HP.out]
    have HB : Aside0 (w1.heap[p]? = some (.cells #[.int .i64 y.f0, .string y.f1, .string y.f2, .slice A3 l0 c3] 133 (0, 0))) := ⟨by rw [HP.out]; exact J1.out.1⟩
    have BX := Aside0.mk J1.out.2
    clear c0 c1 c2 c3' J1
    have d1 := (blk_cell HB.out 1).trans (show _ = some (Value.string y.f1) from rfl)
    have hcap : (1 : Nat) + y.f1.size ≤ 9223372036854775807 := by omega
    go_upto_region 3 with fail
    clear d1 hcap
    obtain ⟨t0, HT0⟩ : ∃ t, Aside0 (t = (⟨#[60]⟩ : ByteArray) ++ y.f1) := ⟨_, ⟨rfl⟩⟩
    rw [← HT0.out]
    have ht0 : t0.size ≤ 1001 := by rw [HT0.out, ByteArray.size_append]; show 1 + _ ≤ _; omega
    clear HT0
    go_wp2_with fail
    go_loopg [6, 7] 2 (fun gg s6 s7 wr => ∃ (j : Nat) (t : ByteArray), j ≤ l0 ∧ 2 - j ≤ gg ∧ s7 = .int .i64 j ∧ s6 = .string t ∧ t.size ≤ 1001 + 1000 * j ∧ Aside0 (Below w1.heap.size w1 wr))
    case atStart => exact ⟨0, t0, Nat.zero_le _, by omega, rfl, rfl, ht0, ⟨Below.refl _ _⟩⟩
    case round =>
      obtain ⟨j, t, hj, hg, rfl, rfl, ht, BR⟩ := hrel
      have HB1 := Aside0.mk (blk_below HB.out BR.out)
      have d3 := (blk_cell HB1.out 3).trans (show _ = some (Value.slice A3 l0 c3) from rfl)
      have hl1 : l0 ≤ 1 := by rw [HL0.out]; rcases HAT.out with h | h <;> rw [h] <;> decide
      by_cases hlt : j < l0
      · have hltz : (j : Int) < (l0 : Int) := by omega
        have hx : y.f3 = [xm] := by
          rcases HAT.out with h | h
          · rw [HL0.out, h] at hlt; exact absurd hlt (Nat.not_lt_zero _)
          · exact h
        obtain rfl : j = 0 := by omega
        obtain rfl : l0 = 1 := by omega
        have hg1 := HG.out
        rw [hx] at hg1
        have HX := Aside0.mk hx
        obtain ⟨ad3, ea3, _⟩ := at_T130 hg1 0 (by decide) (by decide)
        have HA3 := Aside0.mk ea3
        subst ea3
        have CX : Aside0 (∀ W : World, Below w1.heap.size w1 W → W.cell? ⟨p, 3, none⟩ = some (.slice (some ad3) 1 c3) ∧ W.cell? ad3 = some (.string xm.f0) ∧ W.cell? ⟨ad3.block, ad3.off + 1, none⟩ = some (.string xm.f1)) := ⟨fun W hW => by
          have hb := blk_below HB.out hW
          obtain ⟨ad4, ea4, x0, x1⟩ := at_T130 (Kd.C_below hg1 (below_step BX.out hW)) 0 (by decide) (by decide)
          obtain rfl := Option.some.inj ea4
          have e0 : ad3.add ((0 : Int).toNat * 2) = ad3 := by cases ad3; rfl
          rw [e0] at x0 x1
          exact ⟨(blk_cell hb 3).trans rfl, x0, x1⟩⟩
        clear hltz
        have hltz : (0 : Int) < 1 := by decide
        go_upto_region 6 with fail
        have BQ : Aside0 (Below w1.heap.size w1 wr.drew) := ⟨below_step BR.out (below_drew1 (Below.refl _ _))⟩
        clear d3
        refine start_ (n := 20) (ds := []) (S := fun w' => w'.cell? ⟨p, 3, none⟩ = some (.slice (some ad3) 1 c3) ∧ w'.cell? ad3 = some (.string xm.f0) ∧ w'.cell? ⟨ad3.block, ad3.off + 1, none⟩ = some (.string xm.f1)) (V 20 0) (by rfl) (by rfl) (by kernel_rfl) (CX.out _ BQ.out) (fun hHeld => ?_); refine with_tabW tab95_6 bits95_6 (fun HT_ HW_ => ?_)
        generalize wr.drew = wd at BQ hHeld ⊢
        have hx5 : xm.f0.size = 5 := by rfl
        have k1 : ¬ 9223372036854775807 < t.size + 1 := by omega
        have k2 : ¬ 9223372036854775807 < t.size + 1 + 5 := by omega
        have k3 : ¬ 9223372036854775807 < t.size + 1 + 5 + 2 := by omega
        refine pure_ (i := 0) (N := some 24) (v := ?_) (a' := ?_) (V 20 1) rfl rfl (any_of HT_.out (by kernel_rfl)) (fun _ _ _ h => h) (Or.inl ⟨by rfl, ?_⟩) ?_ ?_; rotate_left
        · intro w'; go_simp; with_reducible rfl
        rotate_left
        · simp only [Act.put, List.setIfInBounds_toArray, List.set_cons_zero, List.set_cons_succ, i64_w, i32_w]; rfl
        refine pure_ (i := 1) (N := some 25) (v := ?_) (a' := ?_) (V 20 3) rfl rfl (any_of HT_.out (by kernel_rfl)) (fun _ _ _ h => h) (Or.inl ⟨by rfl, ?_⟩) ?_ ?_; rotate_left
        · intro w'; go_simp; with_reducible rfl
        rotate_left
        · simp only [Act.put, List.setIfInBounds_toArray, List.set_cons_zero, List.set_cons_succ, i64_w, i32_w]; rfl
        refine pure_ (i := 2) (N := some 26) (v := ?_) (a' := ?_) (V 20 7) rfl rfl (any_of HT_.out (by kernel_rfl)) (fun _ _ _ h => h) (Or.inl ⟨by rfl, ?_⟩) ?_ ?_; rotate_left
        · intro w'; go_simp; with_reducible rfl
        rotate_left
        · simp only [Act.put, List.setIfInBounds_toArray, List.set_cons_zero, List.set_cons_succ, i64_w, i32_w]; rfl
        refine take_ (i := 3) (N := some 27) (v := ?_) (a' := ?_) (V 20 15) rfl rfl (take_ofW HT_.out HW_.out (by kernel_rfl)) (fun _ _ _ h => h) (Or.inl ⟨by rfl, ?_⟩) hHeld ?_ ?_; rotate_left
        · rintro w' ⟨s0, s1, s2⟩; go_simp; with_reducible rfl
        rotate_left
        · simp only [Act.put, List.setIfInBounds_toArray, List.set_cons_zero, List.set_cons_succ, i64_w, i32_w]; rfl
        refine pure_ (i := 4) (N := some 28) (v := ?_) (a' := ?_) (V 20 31) rfl rfl (any_of HT_.out (by kernel_rfl)) (fun _ _ _ h => h) (Or.inl ⟨by rfl, ?_⟩) ?_ ?_; rotate_left
        · intro w'; go_simp; with_reducible rfl
        rotate_left
        · simp only [Act.put, List.setIfInBounds_toArray, List.set_cons_zero, List.set_cons_succ, i64_w, i32_w]; rfl
        refine pure_ (i := 5) (N := some 29) (v := ?_) (a' := ?_) (V 20 63) rfl rfl (any_of HT_.out (by kernel_rfl)) (fun _ _ _ h => h) (Or.inl ⟨by rfl, ?_⟩) ?_ ?_; rotate_left
        · intro w'; go_simp; with_reducible rfl
        rotate_left
        · simp only [Act.put, List.setIfInBounds_toArray, List.set_cons_zero, List.set_cons_succ, i64_w, i32_w]; rfl
        refine pure_ (i := 6) (N := some 30) (v := ?_) (a' := ?_) (V 20 127) rfl rfl (any_of HT_.out (by kernel_rfl)) (fun _ _ _ h => h) (Or.inl ⟨by rfl, ?_⟩) ?_ ?_; rotate_left
        · intro w'; go_simp; with_reducible rfl
        rotate_left
        · simp only [Act.put, List.setIfInBounds_toArray, List.set_cons_zero, List.set_cons_succ, i64_w, i32_w]; rfl
        refine take_ (i := 7) (N := some 31) (v := ?_) (a' := ?_) (V 20 255) rfl rfl (take_ofW HT_.out HW_.out (by kernel_rfl)) (fun _ _ _ h => h) (Or.inl ⟨by rfl, ?_⟩) hHeld ?_ ?_; rotate_left
        · rintro w' ⟨s0, s1, s2⟩; go_simp; with_reducible rfl
        rotate_left
        · simp only [Act.put, List.setIfInBounds_toArray, List.set_cons_zero, List.set_cons_succ, i64_w, i32_w]; rfl
        refine pure_ (i := 8) (N := some 32) (v := ?_) (a' := ?_) (V 20 511) rfl rfl (any_of HT_.out (by kernel_rfl)) (fun _ _ _ h => h) (Or.inl ⟨by rfl, ?_⟩) ?_ ?_; rotate_left
        · intro w'; go_simp; with_reducible rfl
        rotate_left
        · simp only [Act.put, List.setIfInBounds_toArray, List.set_cons_zero, List.set_cons_succ, i64_w, i32_w]; rfl
        refine pure_ (i := 9) (N := some 33) (v := ?_) (a' := ?_) (V 20 1023) rfl rfl (any_of HT_.out (by kernel_rfl)) (fun _ _ _ h => h) (Or.inl ⟨by rfl, ?_⟩) ?_ ?_; rotate_left
        · intro w'; go_simp; with_reducible rfl
        rotate_left
        · simp only [Act.put, List.setIfInBounds_toArray, List.set_cons_zero, List.set_cons_succ, i64_w, i32_w]; rfl
        refine pure_ (i := 10) (N := some 34) (v := ?_) (a' := ?_) (V 20 2047) rfl rfl (any_of HT_.out (by kernel_rfl)) (fun _ _ _ h => h) (Or.inl ⟨by rfl, ?_⟩) ?_ ?_; rotate_left
        · intro w'; go_simp; with_reducible rfl
        rotate_left
        · simp only [Act.put, List.setIfInBounds_toArray, List.set_cons_zero, List.set_cons_succ, i64_w, i32_w]; rfl
        refine take_ (i := 11) (N := some 35) (v := ?_) (a' := ?_) (V 20 4095) rfl rfl (take_ofW HT_.out HW_.out (by kernel_rfl)) (fun _ _ _ h => h) (Or.inl ⟨by rfl, ?_⟩) hHeld ?_ ?_; rotate_left
        · rintro w' ⟨s0, s1, s2⟩; go_simp; with_reducible rfl
        rotate_left
        · simp only [Act.put, List.setIfInBounds_toArray, List.set_cons_zero, List.set_cons_succ, i64_w, i32_w]; rfl
        refine pure_ (i := 12) (N := some 36) (v := ?_) (a' := ?_) (V 20 8191) rfl rfl (any_of HT_.out (by kernel_rfl)) (fun _ _ _ h => h) (Or.inl ⟨by rfl, ?_⟩) ?_ ?_; rotate_left
        · intro w'; go_simp; with_reducible rfl
        rotate_left
        · simp only [Act.put, List.setIfInBounds_toArray, List.set_cons_zero, List.set_cons_succ, i64_w, i32_w]; rfl
        refine pure_ (i := 13) (N := some 37) (v := ?_) (a' := ?_) (V 20 16383) rfl rfl (any_of HT_.out (by kernel_rfl)) (fun _ _ _ h => h) (Or.inl ⟨by rfl, ?_⟩) ?_ ?_; rotate_left
        · intro w'; go_simp; with_reducible rfl
        rotate_left
        · simp only [Act.put, List.setIfInBounds_toArray, List.set_cons_zero, List.set_cons_succ, i64_w, i32_w]; rfl
        refine pure_ (i := 14) (N := some 38) (v := ?_) (a' := ?_) (V 20 32767) rfl rfl (any_of HT_.out (by kernel_rfl)) (fun _ _ _ h => h) (Or.inl ⟨by rfl, ?_⟩) ?_ ?_; rotate_left
        · intro w'; go_simp; with_reducible rfl
        rotate_left
        · simp only [Act.put, List.setIfInBounds_toArray, List.set_cons_zero, List.set_cons_succ, i64_w, i32_w]; rfl
        refine take_ (i := 15) (N := some 39) (v := ?_) (a' := ?_) (V 20 65535) rfl rfl (take_ofW HT_.out HW_.out (by kernel_rfl)) (fun _ _ _ h => h) (Or.inl ⟨by rfl, ?_⟩) hHeld ?_ ?_; rotate_left
        · rintro w' ⟨s0, s1, s2⟩; go_simp; with_reducible rfl
        rotate_left
        · simp only [Act.put, List.setIfInBounds_toArray, List.set_cons_zero, List.set_cons_succ, i64_w, i32_w]; rfl
        refine one_ (i := 16) (N := some 40) (V 20 131071) rfl rfl (one_of HT_.out (by kernel_rfl)) (by decide) (fun K hK => ?_)
        refine goes_ Tryz.func119 (by kernel_rfl) rfl #[.string xm.f1] (by rfl) rfl rfl (by (try simp only [List.map_toArray, List.map_cons, List.map_nil]); first | done | rfl) ?_
        with_reducible refine (escape_e xm.f1 _ (by decide)).mono ?_
        rintro e w116 ⟨u, rfl, hu, hb⟩
        refine ⟨_, rfl, ?_⟩
        have BV := Aside0.mk (below_step BQ.out hb)
        have hu2 : u.size ≤ 102 := hu
        clear hb hHeld BQ hu; have BQ := BV; clear BV
        refine hK.out _ _ (CX.out _ BQ.out) (fun hHeld => ?_)
        clear hK K
        refine norm_ (a' := ?_) ?_ ?_; rotate_left
        · show Act.put _ (some 40) _ = _; simp only [Act.put, List.setIfInBounds_toArray, List.set_cons_zero, List.set_cons_succ, i64_w, i32_w]; rfl
        have k4 : ¬ 9223372036854775807 < t.size + 1 + 5 + 2 + u.size := by omega
        have k5 : ¬ 9223372036854775807 < t.size + 1 + 5 + 2 + u.size + 1 := by omega
        refine pure_ (i := 17) (N := some 41) (v := ?_) (a' := ?_) (V 20 262143) rfl rfl (any_of HT_.out (by kernel_rfl)) (fun _ _ _ h => h) (Or.inl ⟨by rfl, ?_⟩) ?_ ?_; rotate_left
        · intro w'; go_simp; with_reducible rfl
        rotate_left
        · simp only [Act.put, List.setIfInBounds_toArray, List.set_cons_zero, List.set_cons_succ, i64_w, i32_w]; rfl
        refine pure_ (i := 18) (N := some 42) (v := ?_) (a' := ?_) (V 20 524287) rfl rfl (any_of HT_.out (by kernel_rfl)) (fun _ _ _ h => h) (Or.inl ⟨by rfl, ?_⟩) ?_ ?_; rotate_left
        · intro w'; go_simp; with_reducible rfl
        rotate_left
        · simp only [Act.put, List.setIfInBounds_toArray, List.set_cons_zero, List.set_cons_succ, i64_w, i32_w]; rfl
        refine pure_ (i := 19) (N := some 6) (v := ?_) (a' := ?_) (V 20 1048575) rfl rfl (any_of HT_.out (by kernel_rfl)) (fun _ _ _ h => h) (Or.inl ⟨by rfl, ?_⟩) ?_ ?_; rotate_left
        · intro w'; go_simp; with_reducible rfl
        rotate_left
        · simp only [Act.put, List.setIfInBounds_toArray, List.set_cons_zero, List.set_cons_succ, i64_w, i32_w]; rfl
        refine done_ (done_of HT_.out (by kernel_rfl)) ?_
        clear hHeld HT_ HW_ k1 k2 k3 k4 k5
        go_wp2_with fail
        go_roundg 1
        case measure => omega
        case rel => exact ⟨1, _, by omega, by omega, by go_num, rfl, by rw [ByteArray.size_append, ByteArray.size_append, ByteArray.size_append, ByteArray.size_append, ByteArray.size_append]; show _ + 1 + 5 + 2 + _ + 1 ≤ _; omega, BQ⟩
      · have hltz : ¬ (j : Int) < (l0 : Int) := by omega
        have ht2 : t.size ≤ 2001 := by omega
        clear ht hg hj
        go_upto_region 7 with fail
        clear d3 hltz
        go_wp2_with fail
        have BK := Aside0.mk (below_step BX.out BR.out)
        refine (kidsAll_e (some ad) c L (i : Int) _ (Kd.C_below HC.out BK.out) hc (by omega)).mono ?_
        rintro e w2 ⟨A6, c6, rfl, hk, hk2, hb⟩
        have BZ := Aside0.mk (below_step BK.out hb)
        have HKC := Aside0.mk hk
        have HB2 := Aside0.mk (blk_below HB1.out hb)
        obtain ⟨ks, HKS⟩ : ∃ ks, Aside0 (ks = kidsIx L (i : Int)) := ⟨_, ⟨rfl⟩⟩
        rw [← HKS.out] at HKC hk2 ⊢
        have hkl : ks.length ≤ 1000 := by
          have : ks.length ≤ L.length := by
            rw [HKS.out]; unfold kidsIx; split
            · exact kidsTo_len _ _ _
            · exact Nat.zero_le _
          omega
        have HKU : Aside0 (ks.Pairwise (· < ·) ∧ ∀ k ∈ ks, (i : Int) < k ∧ k < (L.length : Int)) := ⟨by rw [HKS.out]; exact ⟨(kids_up HS.out.tree _).1, fun k hk => ⟨(kids_up HS.out.tree _).2 k hk, (kidsIx_mem hk).2.1⟩⟩⟩
        clear hk hb BK
        have d1 := (blk_cell HB2.out 1).trans (show _ = some (Value.string y.f1) from rfl)
        have d2 := (blk_cell HB2.out 2).trans (show _ = some (Value.string y.f2) from rfl)
        have hcl := cap_low L.length i
        have hct := cap_top (i := i) hn1
        have kk1 : t.size + 2 ≤ 9223372036854775807 := by omega
        have END : Aside0 (Wr L.length i (t ++ ⟨#[47, 62]⟩)) := ⟨by unfold Wr; rw [ByteArray.size_append]; show _ + 2 ≤ _; omega⟩
        by_cases m0 : y.f2.toList = []
        · have m1 : (y.f2.toList == ([] : List UInt8)) = true := beq_iff_eq.mpr m0
          replace m0 := Aside0.mk m0
          by_cases z0 : ks.length = 0
          · have z1 : ((ks.length : Int) == 0) = true := beq_iff_eq.mpr (by omega)
            have z2 : (ks.length : Int) = 0 := by omega
            go_wp2_with fail
            go_ret
            exact ⟨_, rfl, END.out, BZ.out⟩
          · have z1 : ((ks.length : Int) == 0) = false := beq_eq_false_iff_ne.mpr (by omega)
            replace z0 := Aside0.mk z0
            have kk2 : t.size + 1 ≤ 9223372036854775807 := by omega
            go_wp2_with fail
            refine (escape_e y.f2 _ (by omega)).mono ?_
            rintro e w3 ⟨u, rfl, hu, hb⟩
            have BY := Aside0.mk (below_step BZ.out hb)
            have HB3 := Aside0.mk (blk_below HB2.out hb)
            have HKC3 := Aside0.mk (Kd.C_below HKC.out hb)
            have hu2 : u.size ≤ 6000000 := by unfold Esc at hu; omega
            clear hb hu d1 d2
            have kk3 : (t ++ ⟨#[62]⟩).size + u.size ≤ 9223372036854775807 := by rw [ByteArray.size_append]; show _ + 1 + _ ≤ _; omega
            go_upto_region 11 with fail
            obtain ⟨t1, HT1⟩ : ∃ v, Aside0 (v = t ++ ⟨#[62]⟩ ++ u) := ⟨_, ⟨rfl⟩⟩
            rw [← HT1.out]
            have ht1 : t1.size ≤ 6002002 := by rw [HT1.out, ByteArray.size_append, ByteArray.size_append]; show _ + 1 + _ ≤ _; omega
            clear HT1 kk1 kk2 kk3
            go_wp2_with fail
            go_loopg [6, 9] ks.length (fun gg s6 s9 wq => ∃ (m last : Nat) (v : ByteArray), m ≤ ks.length ∧ ks.length - m ≤ gg ∧ s9 = .int .i64 m ∧ s6 = .string v ∧ v.size + wcap L.length last ≤ 6002002 + wcap L.length i ∧ Aside0 (Below w3.heap.size w3 wq) ∧ Aside0 (last ≤ L.length ∧ ∀ q : Nat, m ≤ q → q < ks.length → (last : Int) < rd ks (q : Int)))
            case atStart => exact ⟨0, i, t1, Nat.zero_le _, by omega, rfl, rfl, by omega, ⟨Below.refl _ _⟩, ⟨by omega, fun q _ hq => (HKU.out.2 _ (by rw [rd_get hq]; exact List.getElem_mem hq)).1⟩⟩
            case round =>
              obtain ⟨m, last, v, hm, hg, rfl, rfl, hv, BQ, HLA⟩ := hrel
              by_cases hlt : m < ks.length
              · have hltz : (m : Int) < (ks.length : Int) := by omega
                obtain ⟨ad6, ea6, k0⟩ := Kd.at_int (Kd.C_below HKC3.out BQ.out) (m : Int) (by omega) hltz
                have HA6 := Aside0.mk ea6
                subst ea6
                rw [Int.toNat_natCast] at k0
                have hkm := HKU.out.2 _ (show rd ks (m : Int) ∈ ks by rw [rd_get hlt]; exact List.getElem_mem hlt)
                have hlk := HLA.out.2 m (Nat.le_refl _) hlt
                have HNX : Aside0 (∀ q : Nat, m + 1 ≤ q → q < ks.length → rd ks (m : Int) < rd ks (q : Int)) := ⟨fun q h1 h2 => by rw [rd_get hlt, rd_get h2]; exact List.pairwise_iff_getElem.1 HKU.out.1 m q hlt h2 (by omega)⟩
                obtain ⟨k, hk⟩ : ∃ k : Nat, rd ks (m : Int) = (k : Int) := ⟨(rd ks (m : Int)).toNat, by omega⟩
                rw [hk] at k0 hkm hlk HNX
                clear hk
                have hki : i < k := by omega
                have hkL : k < L.length := by omega
                have hlk2 : last < k := by omega
                have hcs := cap_step hlk2 (Nat.le_of_lt hkL)
                have hkt := cap_top (n := L.length) (i := k) hn1
                have HREC := Aside0.mk (IH.out k wr (by omega) hkL (Kd.C_below HC.out (below_step BY.out BQ.out)))
                clear hkm hlk HLA
                go_wp2_with fail
                refine HREC.out.mono ?_
                rintro e w5 ⟨x, rfl, hx, hb⟩
                have BQ2 := Aside0.mk (below_step BQ.out hb)
                have hx2 : x.size ≤ wcap L.length k := hx
                have kk4 : v.size + x.size ≤ 9223372036854775807 := by omega
                clear hb hx HREC
                go_wp2_with fail
                go_roundg (ks.length - (m + 1))
                case measure => omega
                case rel => exact ⟨m + 1, k, v ++ x, by omega, by omega, by go_num, rfl, by rw [ByteArray.size_append]; omega, BQ2, ⟨by omega, HNX.out⟩⟩
              · have hltz : ¬ (m : Int) < (ks.length : Int) := by omega
                have HB4 := Aside0.mk (blk_below HB3.out BQ.out)
                have d1 := (blk_cell HB4.out 1).trans (show _ = some (Value.string y.f1) from rfl)
                have hlw := cap_low L.length last
                have g1 : v.size + 2 ≤ 9223372036854775807 := by omega
                have g2 : (v ++ ⟨#[60, 47]⟩).size + y.f1.size ≤ 9223372036854775807 := by rw [ByteArray.size_append]; show _ + 2 + _ ≤ _; omega
                have g3 : (v ++ ⟨#[60, 47]⟩ ++ y.f1).size + 1 ≤ 9223372036854775807 := by rw [ByteArray.size_append, ByteArray.size_append]; show _ + 2 + _ + 1 ≤ _; omega
                have EN2 : Aside0 (Wr L.length i (v ++ ⟨#[60, 47]⟩ ++ y.f1 ++ ⟨#[62]⟩)) := ⟨by unfold Wr; rw [ByteArray.size_append, ByteArray.size_append, ByteArray.size_append]; show _ + 2 + _ + 1 ≤ _; omega⟩
                have BE := Aside0.mk (below_step BY.out BQ.out)
                go_wp2_with fail
                go_ret
                exact ⟨_, rfl, EN2.out, BE.out⟩
        · have m1 : (y.f2.toList == ([] : List UInt8)) = false := beq_eq_false_iff_ne.mpr m0
          replace m0 := Aside0.mk m0
          have kk2 : t.size + 1 ≤ 9223372036854775807 := by omega
          go_wp2_with fail
          refine (escape_e y.f2 _ (by omega)).mono ?_
          rintro e w3 ⟨u, rfl, hu, hb⟩
          have BY := Aside0.mk (below_step BZ.out hb)
          have HB3 := Aside0.mk (blk_below HB2.out hb)
          have HKC3 := Aside0.mk (Kd.C_below HKC.out hb)
          have hu2 : u.size ≤ 6000000 := by unfold Esc at hu; omega
          clear hb hu d1 d2
          have kk3 : (t ++ ⟨#[62]⟩).size + u.size ≤ 9223372036854775807 := by rw [ByteArray.size_append]; show _ + 1 + _ ≤ _; omega
          go_upto_region 11 with fail
          obtain ⟨t1, HT1⟩ : ∃ v, Aside0 (v = t ++ ⟨#[62]⟩ ++ u) := ⟨_, ⟨rfl⟩⟩
          rw [← HT1.out]
          have ht1 : t1.size ≤ 6002002 := by rw [HT1.out, ByteArray.size_append, ByteArray.size_append]; show _ + 1 + _ ≤ _; omega
          clear HT1 kk1 kk2 kk3
          go_wp2_with fail
          go_loopg [6, 9] ks.length (fun gg s6 s9 wq => ∃ (m last : Nat) (v : ByteArray), m ≤ ks.length ∧ ks.length - m ≤ gg ∧ s9 = .int .i64 m ∧ s6 = .string v ∧ v.size + wcap L.length last ≤ 6002002 + wcap L.length i ∧ Aside0 (Below w3.heap.size w3 wq) ∧ Aside0 (last ≤ L.length ∧ ∀ q : Nat, m ≤ q → q < ks.length → (last : Int) < rd ks (q : Int)))
          case atStart => exact ⟨0, i, t1, Nat.zero_le _, by omega, rfl, rfl, by omega, ⟨Below.refl _ _⟩, ⟨by omega, fun q _ hq => (HKU.out.2 _ (by rw [rd_get hq]; exact List.getElem_mem hq)).1⟩⟩
          case round =>
            obtain ⟨m, last, v, hm, hg, rfl, rfl, hv, BQ, HLA⟩ := hrel
            by_cases hlt : m < ks.length
            · have hltz : (m : Int) < (ks.length : Int) := by omega
              obtain ⟨ad6, ea6, k0⟩ := Kd.at_int (Kd.C_below HKC3.out BQ.out) (m : Int) (by omega) hltz
              have HA6 := Aside0.mk ea6
              subst ea6
              rw [Int.toNat_natCast] at k0
              have hkm := HKU.out.2 _ (show rd ks (m : Int) ∈ ks by rw [rd_get hlt]; exact List.getElem_mem hlt)
              have hlk := HLA.out.2 m (Nat.le_refl _) hlt
              have HNX : Aside0 (∀ q : Nat, m + 1 ≤ q → q < ks.length → rd ks (m : Int) < rd ks (q : Int)) := ⟨fun q h1 h2 => by rw [rd_get hlt, rd_get h2]; exact List.pairwise_iff_getElem.1 HKU.out.1 m q hlt h2 (by omega)⟩
              obtain ⟨k, hk⟩ : ∃ k : Nat, rd ks (m : Int) = (k : Int) := ⟨(rd ks (m : Int)).toNat, by omega⟩
              rw [hk] at k0 hkm hlk HNX
              clear hk
              have hki : i < k := by omega
              have hkL : k < L.length := by omega
              have hlk2 : last < k := by omega
              have hcs := cap_step hlk2 (Nat.le_of_lt hkL)
              have hkt := cap_top (n := L.length) (i := k) hn1
              have HREC := Aside0.mk (IH.out k wr (by omega) hkL (Kd.C_below HC.out (below_step BY.out BQ.out)))
              clear hkm hlk HLA
              go_wp2_with fail
              refine HREC.out.mono ?_
              rintro e w5 ⟨x, rfl, hx, hb⟩
              have BQ2 := Aside0.mk (below_step BQ.out hb)
              have hx2 : x.size ≤ wcap L.length k := hx
              have kk4 : v.size + x.size ≤ 9223372036854775807 := by omega
              clear hb hx HREC
              go_wp2_with fail
              go_roundg (ks.length - (m + 1))
              case measure => omega
              case rel => exact ⟨m + 1, k, v ++ x, by omega, by omega, by go_num, rfl, by rw [ByteArray.size_append]; omega, BQ2, ⟨by omega, HNX.out⟩⟩
            · have hltz : ¬ (m : Int) < (ks.length : Int) := by omega
              have HB4 := Aside0.mk (blk_below HB3.out BQ.out)
              have d1 := (blk_cell HB4.out 1).trans (show _ = some (Value.string y.f1) from rfl)
              have hlw := cap_low L.length last
              have g1 : v.size + 2 ≤ 9223372036854775807 := by omega
              have g2 : (v ++ ⟨#[60, 47]⟩).size + y.f1.size ≤ 9223372036854775807 := by rw [ByteArray.size_append]; show _ + 2 + _ ≤ _; omega
              have g3 : (v ++ ⟨#[60, 47]⟩ ++ y.f1).size + 1 ≤ 9223372036854775807 := by rw [ByteArray.size_append, ByteArray.size_append]; show _ + 2 + _ + 1 ≤ _; omega
              have EN2 : Aside0 (Wr L.length i (v ++ ⟨#[60, 47]⟩ ++ y.f1 ++ ⟨#[62]⟩)) := ⟨by unfold Wr; rw [ByteArray.size_append, ByteArray.size_append, ByteArray.size_append]; show _ + 2 + _ + 1 ≤ _; omega⟩
              have BE := Aside0.mk (below_step BY.out BQ.out)
              go_wp2_with fail
              go_ret
              exact ⟨_, rfl, EN2.out, BE.out⟩
def CanonEnd (w : World) (e : Ending) (w' : World) : Prop := ∃ (t : ByteArray) (r : Int), e = .returned (.tuple #[.string t, .int .i64 r]) ∧ Below w.heap.size w w'
theorem canonAll_e (A : Option Addr) (c : Nat) (L : List S133) (w : World) (hC : k133.C w A L.length L) (hc : L.length ≤ c) (hS : Shape L) : Calls Tryz.prog 56 #[.slice A L.length c] w (CanonEnd w) := by
  have HC := Aside0.mk hC
  have HK := Aside0.mk (canon_e A c L w hC hc hS)
  have HW := fun W hW => Aside0.mk (write_e A c L hc hS L.length 0 W (by omega) hS.lo (Kd.C_below hC hW))
  clear hC
  go_enter Tryz.func56, Tryz.ntmps56
  go_wp2_with fail
  refine HK.out.mono ?_
  rintro e w1 ⟨b, rfl, -, hb⟩
  have BB := Aside0.mk hb
  clear hb
  cases b with
  | false =>
    go_wp2_with fail
    go_ret2
    exact ⟨_, _, rfl, BB.out⟩
  | true =>
    go_wp2_with fail
    refine (HW _ BB.out).out.mono ?_
    rintro e w2 ⟨t, rfl, -, hb⟩
    have BC := Aside0.mk (below_step BB.out hb)
    clear hb
    go_wp2_with fail
    go_ret2
    exact ⟨_, _, rfl, BC.out⟩
end Go.Proofs.YthapknnppabdaaaGreat.MQ
namespace Go.Proofs.YthapknnppabdaaaGreat.MQ
open Go.RowKit Go.Proofs.YthapknnppabdaaaGreatW.PrintWords Go.Proofs.YthapknnppabdaaaGreatW.PrintLast Go.Proofs.YthapknnppabdaaaGreatW.PrintMore
attribute [local go_sem] max2_int min2_int max_two min_two max_three min_three max_four min_four
set_option linter.unusedVariables false
set_option linter.unusedSimpArgs false

theorem info133 : (Tryz.prog.info? 133).map (fun i => (i.zero, i.size, i.bytes)) = some (some (.agg #[(.int .i64 0), (.string ⟨#[]⟩), (.string ⟨#[]⟩), (.slice none 0 0)]), 4, 64) := by kernel_rfl
theorem R_set1 {α : Type} {d : Kd α} {e base : Nat} {w : World} {v : Value} {xs : List α} {g t : Nat} {cells : Array Value} (h : d.R e w base (fun _ => True) v xs) (hb : w.heap[g]? = some (.cells cells t (0, 0))) (ht : ∀ q, q ∈ e :: d.E → q ≠ t) (j : Nat) (u : Value) : d.R e (w.setCell ⟨g, j, none⟩ u) base (fun _ => True) v xs :=
  Kd.R_mono (Kd.R_far (Kd.R_types h hb ht) (fun _ hk => hk.2) u) (fun _ _ => trivial)
/-- The tree in the block t holds the nodes L; what was there in w0 is as it was. -/
structure TR (w0 : World) (t : Nat) (L : List S133) (v : Value) (W : World) : Prop where
  cell : W.heap[t]? = some (.cells #[v] 127 (0, 0))
  row : Kd.R k133 133 W w0.heap.size (fun _ => True) v L
  bel : Below w0.heap.size w0 W
  lo : w0.heap.size ≤ t
theorem TR.below {w0 : World} {t : Nat} {L : List S133} {v : Value} {W W' : World} (h : TR w0 t L v W) (hb : Below W.heap.size W W') : TR w0 t L v W' := ⟨blk_below h.cell hb, Kd.R_below h.row hb, below_step h.bel hb, h.lo⟩
def AddEnd (w0 : World) (t : Nat) (L : List S133) (r : Int) (e : Ending) (w' : World) : Prop := ∃ v, e = .returned (.int .i64 r) ∧ TR w0 t L v w'
set_option maxHeartbeats 8000000 in
set_option maxRecDepth 10000 in
theorem add_e (w0 W : World) (t : Nat) (L : List S133) (v : Value) (p : Int) (nm tx : ByteArray) (h : TR w0 t L v W) (hl : L.length ≤ 1000) : Calls Tryz.prog 81 #[.pointer (some ⟨t, 0, none⟩), .int .i64 p, .string nm, .string tx] W (AddEnd w0 t (L ++ [⟨p, nm, tx, []⟩]) L.length) := by
  have HT := Aside0.mk h
  have HL := Aside0.mk hl
  have d0 := (blk_cell HT.out.cell 0).trans (show _ = some v from rfl)
  have z0 := blk_frozen HT.out.cell 0
  have HZ : Aside0 ((L.length + 1) * 64 ≤ 140737488355328) := ⟨by omega⟩
  have el : Aside0 ((L ++ [(⟨p, nm, tx, []⟩ : S133)]).length = L.length + 1) := ⟨by rw [List.length_append]; rfl⟩
  clear h
  go_enter Tryz.func81, Tryz.ntmps81
  go_wp2_with (first | ((with_reducible refine gate_builtin (b := .append) (xs := #[.tmp 13, .tmp 18]) rfl ?_); at_builtin; refine Kd.R_append k133 (w0 := w0) w0.heap.size rfl (.tmp 13) (.tmp 18) 95 133 (.agg #[(.int .i64 0), (.string ⟨#[]⟩), (.string ⟨#[]⟩), (.slice none 0 0)]) 64 rfl Tryz.underlying95 info133 rfl (by decide) (by omega) v L (⟨p, nm, tx, []⟩ : S133) [.int .i64 p, .string nm, .string tx, .slice none 0 0] (fun _ => True) (fun _ => False) rfl rfl ?aP (fun _ hk => hk.elim) ?aF ?aO ?aB ?aS ?aL ?_; (case aP => exact k133_mkM _ _ _ (⟨p, nm, tx, []⟩ : S133) (Kd.R_nil _ _ _ _ _)); (case aF => exact (fun _ _ => trivial)); (case aO => exact HT.out.row); (case aB => exact HT.out.bel); (case aS => exact below_size HT.out.bel); (case aL => exact HZ.out); intro v1 w2 ho hb hg hat; have HT2 : Aside0 (w2.heap[t]? = some (.cells #[v] 127 (0, 0))) := ⟨(hg.block t (blk_lt HT.out.cell) (Kd.R_ne HT.out.row HT.out.cell (by decide))).trans HT.out.cell⟩; have HO2 := Aside0.mk ho; have BY := Aside0.mk hb; clear ho hb hg hat d0 z0; obtain ⟨A1, c1, e1⟩ := Kd.R_slice HO2.out; subst e1; have d0 := (blk_cell HT2.out 0).trans (show _ = some v from rfl); have z0 := blk_frozen HT2.out 0; rw [el.out] at HO2 ⊢))
  go_ret
  refine ⟨_, ?_, ⟨blk_set HT2.out 0 _, R_set1 HO2.out HT2.out (by decide) 0 _, below_set BY.out HT.out.lo, HT.out.lo⟩⟩
  first | rfl | (show Ending.returned (Value.int .i64 _) = Ending.returned (Value.int .i64 _); congr 2; omega)
def SomeEnd (w0 : World) (t : Nat) (L : List S133) (e : Ending) (w' : World) : Prop := ∃ v, e = .returned (.tuple #[]) ∧ TR w0 t L v w'
/-- A leaf, if there is something. -/
def opt (p : Int) (nm tx : ByteArray) : List S133 := if tx.toList = [] then [] else [⟨p, nm, tx, []⟩]
theorem some_e (w0 W : World) (t : Nat) (L : List S133) (v : Value) (p : Int) (nm tx : ByteArray) (h : TR w0 t L v W) (hl : L.length ≤ 1000) : Calls Tryz.prog 84 #[.pointer (some ⟨t, 0, none⟩), .int .i64 p, .string nm, .string tx] W (SomeEnd w0 t (L ++ opt p nm tx)) := by
  have HT := Aside0.mk h
  have HA := Aside0.mk (add_e w0 W t L v p nm tx h hl)
  clear h
  by_cases q : tx.toList = []
  · have q1 : (tx.toList == ([] : List UInt8)) = true := beq_iff_eq.mpr q
    have HO : Aside0 (L ++ opt p nm tx = L) := ⟨by unfold opt; rw [if_pos q, List.append_nil]⟩
    replace q := Aside0.mk q
    go_enter Tryz.func84, Tryz.ntmps84
    go_wp2_with fail
    (try simp only [Exit.inBlock, Exit.then]); refine bodyPost_end (results_none rfl _ _ _) rfl ?_
    rw [HO.out]
    exact ⟨v, rfl, HT.out⟩
  · have q1 : (tx.toList == ([] : List UInt8)) = false := beq_eq_false_iff_ne.mpr q
    have HO : Aside0 (L ++ opt p nm tx = L ++ [⟨p, nm, tx, []⟩]) := ⟨by unfold opt; rw [if_neg q]⟩
    replace q := Aside0.mk q
    go_enter Tryz.func84, Tryz.ntmps84
    go_wp2_with fail
    refine HA.out.mono ?_
    rintro e w1 ⟨v1, rfl, h1⟩
    have H1 := Aside0.mk h1
    clear h1
    go_wp2_with fail
    (try simp only [Exit.inBlock, Exit.then]); refine bodyPost_end (results_none rfl _ _ _) rfl ?_
    rw [HO.out]
    exact ⟨v1, rfl, H1.out⟩
def nXchgId : ByteArray := ⟨#[88, 99, 104, 103, 73, 100]⟩
def nCreDtTm : ByteArray := ⟨#[67, 114, 101, 68, 116, 84, 109]⟩
def origL (p stan : Int) (time : ByteArray) : List S133 := [⟨p, nXchgId, decS stan, []⟩, ⟨p, nCreDtTm, textF time, []⟩]
set_option maxRecDepth 10000 in
theorem origin_e (w0 W : World) (t : Nat) (L : List S133) (v : Value) (p stan : Int) (time : ByteArray) (h : TR w0 t L v W) (hl : L.length ≤ 900) (h0 : 0 ≤ stan) (h1 : stan ≤ 999999) (ht : time.size ≤ 140737488355328) : Calls Tryz.prog 83 #[.pointer (some ⟨t, 0, none⟩), .int .i64 p, .int .i64 stan, .string time] W (SomeEnd w0 t (L ++ origL p stan time)) := by
  have HT := Aside0.mk h
  have HL := Aside0.mk hl
  have HH := Aside0.mk (And.intro h0 (And.intro h1 ht))
  have HD := Aside0.mk (dec_e stan W h0 (by omega))
  clear h hl
  rcases (show stan = 0 ∨ 0 < stan by omega) with q | q
  · subst q
    have ew : IntKind.u64.wrap 0 = 0 := by decide
    go_enter Tryz.func83, Tryz.ntmps83
    go_wp2_with fail
    try rw [ew]
    refine HD.out.mono ?_
    rintro e w1 ⟨rfl, hb⟩
    have H1 := Aside0.mk (HT.out.below hb)
    clear hb HD
    go_wp2_with fail
    refine (add_e w0 _ t L v p nXchgId (decS 0) H1.out (by have := HL.out; omega)).mono ?_
    rintro e w2 ⟨v2, rfl, h2⟩
    have H2 := Aside0.mk h2
    clear h2
    go_wp2_with fail
    refine (timeText_e time _ HH.out.2.2).mono ?_
    rintro e w3 ⟨rfl, hb⟩
    have H3 := Aside0.mk (H2.out.below hb.below)
    clear hb
    go_wp2_with fail
    refine (add_e w0 _ t _ v2 p nCreDtTm (textF time) H3.out (by have := HL.out; rw [List.length_append]; show _ + 1 ≤ _; omega)).mono ?_
    rintro e w4 ⟨v4, rfl, h4⟩
    have H4 := Aside0.mk h4
    clear h4
    go_wp2_with fail
    (try simp only [Exit.inBlock, Exit.then]); refine bodyPost_end (results_none rfl _ _ _) rfl ?_
    refine ⟨v4, rfl, ?_⟩
    have := H4.out
    rw [List.append_assoc] at this
    exact this
  · have qn : ¬ stan ≤ 0 := by omega
    have ew : IntKind.u64.wrap stan = stan := u64_id h0 (by omega)
    go_enter Tryz.func83, Tryz.ntmps83
    go_wp2_with fail
    try rw [ew]
    refine HD.out.mono ?_
    rintro e w1 ⟨rfl, hb⟩
    have H1 := Aside0.mk (HT.out.below hb)
    clear hb HD
    go_wp2_with fail
    refine (add_e w0 _ t L v p nXchgId (decS stan) H1.out (by have := HL.out; omega)).mono ?_
    rintro e w2 ⟨v2, rfl, h2⟩
    have H2 := Aside0.mk h2
    clear h2
    go_wp2_with fail
    refine (timeText_e time _ HH.out.2.2).mono ?_
    rintro e w3 ⟨rfl, hb⟩
    have H3 := Aside0.mk (H2.out.below hb.below)
    clear hb
    go_wp2_with fail
    refine (add_e w0 _ t _ v2 p nCreDtTm (textF time) H3.out (by have := HL.out; rw [List.length_append]; show _ + 1 ≤ _; omega)).mono ?_
    rintro e w4 ⟨v4, rfl, h4⟩
    have H4 := Aside0.mk h4
    clear h4
    go_wp2_with fail
    (try simp only [Exit.inBlock, Exit.then]); refine bodyPost_end (results_none rfl _ _ _) rfl ?_
    refine ⟨v4, rfl, ?_⟩
    have := H4.out
    rw [List.append_assoc] at this
    exact this
end Go.Proofs.YthapknnppabdaaaGreat.MQ
