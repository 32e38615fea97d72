/- comptoirplay's pieces, by what they leave: WriteTags. -/
import Derived.Test.YthdjodamdakjbaaHPlayH
import Derived.Test.YthdjodamdakjbaaHPrC
namespace Go.Proofs.Ythdjodamdakjbaa.MK
open Go.RowKit Go.Proofs.YthdjodamdakjbaaW.PrintWords Go.Proofs.YthdjodamdakjbaaW.PrintLast Go.Proofs.YthdjodamdakjbaaW.PrintMore
set_option linter.unusedVariables false
set_option linter.unusedSimpArgs false

def V (k n : Nat) : Array Bool := ((List.range k).map n.testBit).toArray
theorem tagged_some (t : Int) : ∃ r, comptoirref07_tagged.f 3 t = some r ∧ 0 ≤ r ∧ r ≤ 2 := by
  unfold comptoirref07_tagged.f
  simp only [comptoirref07_tagged.j0]
  repeat' split
  all_goals exact ⟨_, rfl, by omega, by omega⟩
theorem known_from (l : List S51) (t : Int) (hl : l.length ≤ 1000) : ∀ (d i k : Nat), i + d = l.length → d < k → ∃ b, comptoirref07_known.l0 k l t (i : Int) = some b
  | 0, i, 0, _, hk => by omega
  | 0, i, k + 1, hi, _ => by
    simp only [comptoirref07_known.l0]
    rw [if_neg (by omega)]
    exact ⟨_, rfl⟩
  | d + 1, i, 0, _, hk => by omega
  | d + 1, i, k + 1, hi, hk => by
    have h2 : wrap64 ((i : Int) + 1) = ((i + 1 : Nat) : Int) := by unfold wrap64; omega
    simp only [comptoirref07_known.l0]
    rw [if_pos (by omega), if_pos (by omega), h2]
    by_cases e : (rd_T51 l (i : Int)).f0 = t
    · rw [if_pos e]; exact ⟨_, rfl⟩
    · rw [if_neg e]; exact known_from l t hl d (i + 1) k (by omega) (by omega)
theorem known_some (l : List S51) (t : Int) (hl : l.length ≤ 1000) : ∃ b, comptoirref07_known.f 1002 l t = some b := known_from l t hl l.length 0 1002 (by omega) (by omega)
theorem put_from (v : Int) : ∀ (d k : Nat) (x : List Int), d < k → d ≤ 8 → x.length + d ≤ 100000 → ∃ r, comptoirref01_Put.l0 (k + 1) v x ((d : Int) - 1) = some r ∧ r.length = x.length + d
  | 0, k, x, _, _, _ => by
    simp only [comptoirref01_Put.l0]
    rw [if_neg (by omega)]
    exact ⟨_, rfl, rfl⟩
  | d + 1, 0, x, hk, _, _ => by omega
  | d + 1, k + 1, x, hk, h8, hx => by
    rw [comptoirref01_Put.l0]
    rw [if_pos (by omega), if_pos (by simp only [IntKind.wrap, IntKind.u64]; exact Int.emod_nonneg _ (by decide)), if_pos (by omega)]
    have h2 : wrap64 (((d + 1 : Nat) : Int) - 1 - 1) = (d : Int) - 1 := by unfold wrap64; omega
    rw [h2]
    obtain ⟨r, h, hl⟩ := put_from v d k (x ++ [(shr .u64 v (IntKind.u64.wrap (wrap64 (8 * (((d + 1 : Nat) : Int) - 1))))) % 256]) (by omega) (by omega) (by rw [List.length_append]; show x.length + 1 + d ≤ 100000; omega)
    exact ⟨r, h, by rw [hl, List.length_append]; show x.length + 1 + d = _; omega⟩
theorem put_some (v n : Int) (x : List Int) (h0 : 0 ≤ n) (h1 : n ≤ 2) (hx : x.length ≤ 90000) : ∃ r, comptoirref01_Put.f 12 x v n = some r ∧ r.length = x.length + n.toNat := by
  obtain ⟨d, rfl⟩ := Int.eq_ofNat_of_zero_le h0
  obtain ⟨r, h, hl⟩ := put_from v d 11 x (by omega) (by omega) (by omega)
  refine ⟨r, ?_, by rw [hl]; omega⟩
  unfold comptoirref01_Put.f
  have e : mx 0 (mn (d : Int) 8) - 1 = (d : Int) - 1 := by unfold mx mn; split <;> split <;> omega
  rw [if_pos (by show 0 + x.length < _; omega), List.nil_append, e]
  exact h
theorem C_take {A : Option Addr} {n m : Nat} {w : World} {xs : List S51} (h : k51.C w A n xs) (hm : m ≤ n) : k51.C w A (xs.take m).length (xs.take m) := by
  obtain ⟨h1, h2, h3⟩ := h
  have hl : (xs.take m).length = m := by rw [List.length_take]; omega
  rw [hl]
  refine ⟨hl, by omega, fun hp => ?_⟩
  obtain ⟨ad, e, hc⟩ := h3 (by omega)
  refine ⟨ad, e, fun j p hj => hc j p ?_⟩
  rw [List.getElem?_take] at hj
  split at hj
  · exact hj
  · cases hj

def T58_8 : Bool × List (List Nat × List Nat) := (true, [([], []), ([0], [0]), ([1], [1]), ([2], [2]), ([2], [2]), ([3, 4, 2], [2, 3, 4]), ([2], [2]), ([2], [2]), ([6, 7, 2], [2, 6, 7]), ([8, 2], [2, 8]), ([9, 2], [2, 9]), ([5, 10, 2, 2], [2, 5, 10]), ([2, 11], [2, 11])])
def B58_8 : List Nat := [0, 1, 3, 7, 7, 31, 7, 7, 199, 455, 967, 2047, 4095]
theorem tab58_8 : rtab .any (opsOf Try.f53 8) = T58_8 := by kernel_rfl
theorem bits58_8 : waitsOk T58_8.2 B58_8 = true := by kernel_rfl
def T58_15 : Bool × List (List Nat × List Nat) := (true, [([], []), ([], []), ([], []), ([1, 2], [1, 2]), ([3], [3]), ([4], [4]), ([5], [5]), ([6], [6]), ([7], [7]), ([0, 8], [0, 8]), ([], []), ([], []), ([10, 11], [10, 11]), ([12], [12]), ([13], [13]), ([9, 14, 9], [9, 14]), ([15, 15, 0, 1, 2, 3, 4, 5, 6, 7, 8, 9, 10, 11, 12, 13, 14, 15], [0, 15])])
def B58_15 : List Nat := [0, 0, 0, 6, 14, 30, 62, 126, 254, 511, 0, 0, 3072, 7168, 15360, 32767, 65535]
theorem tab58_15 : rtab .any (opsOf Try.f53 15) = T58_15 := by kernel_rfl
theorem bits58_15 : waitsOk T58_15.2 B58_15 = true := by kernel_rfl

set_option maxHeartbeats 8000000 in
set_option maxRecDepth 100000 in
theorem writeTags_x (A : Option Addr) (c : Nat) (l : List S51) (w : World) (hr : k51.C w A l.length l) (hc : l.length ≤ c) : Calls Try.prog 53 #[.slice A l.length c] w (OutT BytesErr w) := by
  have hu51 := Try.underlying51
  have HR := Aside0.mk hr
  have HC := Aside0.mk hc
  have BW := Aside0.mk (Below.refl w.heap.size w)
  have hm : l.length ≤ 9223372036854775807 := hr.2.1
  clear hr hc
  by_cases h20 : 20 < (l.length : Int)
  · have h20' : 20 < l.length := by omega
    go_enter Try.func53, Try.ntmps53
    go_wp2_with fail
    go_ret2
    exact ⟨_, _, rfl, ⟨⟨_, _, _, rfl⟩, ⟨_, rfl⟩⟩, BW.out⟩
  have h20' : l.length ≤ 20 := by omega
  clear hm
  go_enter Try.func53, Try.ntmps53
  go_wp2_with fail
  go_loopg [4, 5, 6] l.length (fun gg s4 s5 s6 wr => ∃ (kk : Nat) (b : List Int), kk ≤ l.length ∧ l.length - kk ≤ gg ∧ s5 = .int .i64 kk ∧ Aside0 (b.length ≤ 300 * kk) ∧ Aside0 (Kd.R (Kd.int .u8) 5 wr w.heap.size (fun _ => True) s4 b) ∧ Aside0 (Below w.heap.size w wr))
  case atStart => exact ⟨0, [], by omega, by omega, rfl, ⟨by simp⟩, ⟨Kd.R_nil _ _ _ _ _⟩, BW⟩
  case round =>
    obtain ⟨kk, b, hkk, hg, rfl, HM, HO, BW⟩ := hrel
    by_cases hlt : kk < l.length
    rotate_left
    · have hltz : ¬ (kk : Int) < (l.length : Int) := by omega
      obtain ⟨Ab, cb, e⟩ := Kd.R_slice HO.out
      subst e
      generalize b.length = n at HM
      go_wp2_with fail
      go_ret2
      exact ⟨_, _, rfl, ⟨⟨_, _, _, rfl⟩, ⟨_, rfl⟩⟩, BW.out⟩
    have hltz : (kk : Int) < (l.length : Int) := by omega
    obtain ⟨ad, A1, c1, e1, h0, h1, hl1, hi1⟩ := at_T51 HR.out (kk : Int) (by omega) (by omega)
    subst e1
    rw [Int.toNat_natCast] at h0 h1
    have HT := Aside0.mk (C_take HR.out (show kk ≤ l.length by omega))
    have hlt' : (l.take kk).length = kk := by rw [List.length_take]; omega
    have HLT := Aside0.mk hlt'
    rw [hlt'] at HT
    obtain ⟨lt, hlt2⟩ : ∃ t, t = l.take kk := ⟨_, rfl⟩
    rw [← hlt2] at HT HLT
    clear hlt2 hlt'
    generalize rd_T51 l (kk : Int) = y at h0 h1 hl1 hi1
    obtain ⟨yn, yd⟩ := y
    change w.cell? _ = some (.int .i64 yn) at h0
    change w.cell? _ = some (.slice A1 yd.length c1) at h1
    change yd.length ≤ c1 at hl1
    change Kd.C (Kd.int .u8) w A1 yd.length yd at hi1
    have H0 := Aside0.mk h0
    have H1 := Aside0.mk h1
    have HI := Aside0.mk (And.intro hl1 hi1)
    clear h0 h1 hl1 hi1
    have h0 := (BW.out.cell (World.block_lt_of_cell? w _ H0.out)).trans H0.out
    have h1 := (BW.out.cell (World.block_lt_of_cell? w _ H1.out)).trans H1.out
    obtain ⟨tg, htg, ht0, ht2⟩ := tagged_some yn
    have HTG := Aside0.mk htg
    clear htg
    go_upto_region 8 with (first | ((with_reducible refine gate_callee (f := 64) rfl ?_); refine goesL_ (some 21) rfl rfl Try.func64 (by kernel_rfl) rfl #[.int .i64 yn] rfl (by (try simp only [List.map_toArray, List.map_cons, List.map_nil]); first | done | rfl) ?_; (with_reducible refine (comptoirref07_tagged.calls 3 yn tg _ HTG.out).mono ?_); rintro e w' ⟨rfl, ⟨nd, rfl⟩⟩; refine ⟨_, rfl, ?_⟩))
    have BX := Aside0.mk (pw_below_drewN BW.out nd)
    have HX : Aside0 (Kd.R (Kd.int .u8) 5 (wr.drewN nd) w.heap.size (fun _ => True) u4 b) := ⟨Kd.R_drewN HO.out nd⟩
    clear BW HO h0 h1
    generalize wr.drewN nd = W1 at BX HX ⊢
    by_cases t0 : tg = 0
    · have t0b : (tg == 0) = true := beq_iff_eq.mpr t0
      replace t0 := Aside0.mk t0
      repeat (go_quiet (fail))
      go_wp2_with fail
      go_ret2
      exact ⟨_, _, rfl, ⟨⟨_, _, _, rfl⟩, ⟨_, rfl⟩⟩, pw_below_drewN BX.out _⟩
    have t0b : (tg == 0) = false := beq_eq_false_iff_ne.mpr t0
    replace t0 := Aside0.mk t0
    obtain ⟨kb, hkb⟩ := known_some lt yn (by have := HLT.out; omega)
    have HK : Aside0 (∀ W, Below w.heap.size w W → Calls Try.prog 65 #[.slice (some ad) kk c, .int .i64 yn] W fun e w' => e = .returned (.bool kb) ∧ Drawn0 W w') := ⟨fun W hB => by
      have h := comptoirref07_known.calls 1002 (some ad) c lt yn kb W (by rw [HLT.out]; exact Kd.C_below HT.out hB) (by have := HLT.out; have := HC.out; omega) hkb
      rw [HLT.out] at h
      exact h⟩
    clear hkb
    have h0 := (BX.out.cell (World.block_lt_of_cell? w _ H0.out)).trans H0.out
    have h1 := (BX.out.cell (World.block_lt_of_cell? w _ H1.out)).trans H1.out
    have hkz : (kk : Int) ≤ (l.length : Int) := by omega
    have hkc : (kk : Int) ≤ (c : Int) := by have := HC.out; omega
    repeat (go_quiet (first | (go_at_call 65; (with_reducible refine (HK.out _ ?side1).mono ?_); (case side1 => repeat (first | exact BX.out | apply pw_below_drewN)); rintro e w' ⟨rfl, ⟨nd, rfl⟩⟩; (try first | exact ⟨rfl, _, World.drewN_drewN _ _ _⟩ | exact ⟨rfl, _, Eq.trans (World.drewN_drewN _ _ _) (congrArg (World.drewN _) (Nat.add_assoc _ _ _))⟩))))
    have BY := Aside0.mk (pw_below_drewN BX.out nq)
    have HY : Aside0 (Kd.R (Kd.int .u8) 5 (W1.drewN nq) w.heap.size (fun _ => True) u4 b) := ⟨Kd.R_drewN HX.out nq⟩
    clear BX HX h0 h1 HK
    generalize W1.drewN nq = W2 at BY HY ⊢
    have h0 := (BY.out.cell (World.block_lt_of_cell? w _ H0.out)).trans H0.out
    have h1 := (BY.out.cell (World.block_lt_of_cell? w _ H1.out)).trans H1.out
    cases kb with
    | true =>
      go_wp2_with fail
      go_ret2
      exact ⟨_, _, rfl, ⟨⟨_, _, _, rfl⟩, ⟨_, rfl⟩⟩, BY.out⟩
    | false =>
    by_cases g255 : 255 < (yd.length : Int)
    · have g255' : 255 < yd.length := by omega
      go_wp2_with fail
      go_ret2
      exact ⟨_, _, rfl, ⟨⟨_, _, _, rfl⟩, ⟨_, rfl⟩⟩, BY.out⟩
    have g255' : yd.length ≤ 255 := by omega
    have HYD := Aside0.mk g255'
    obtain ⟨Ab, cb, e⟩ := Kd.R_slice HY.out
    subst e
    obtain ⟨r, hr, hrl⟩ := put_some (IntKind.u64.wrap yn) tg b ht0 ht2 (by have := HM.out; omega)
    have HPT := Aside0.mk (comptoirref01_Put.calls 12 Ab cb b (IntKind.u64.wrap yn) tg r W2 (Kd.R_reads' HY.out).2.2 (Kd.R_reads' HY.out).2.1 hr)
    have HRL : Aside0 (r.length ≤ 300 * kk + 2) := ⟨by have := HM.out; omega⟩
    clear hr hrl HM
    go_wp2_with fail
    refine HPT.out.mono ?_
    rintro e w3 ⟨v3, rfl, ho0, hb⟩
    have H3 := Aside0.mk (Kd.R_lower ho0 (below_size BY.out))
    have B3 := Aside0.mk (below_step BY.out hb)
    clear ho0 hb HY BY HPT h0 h1
    have h0 := (B3.out.cell (World.block_lt_of_cell? w _ H0.out)).trans H0.out
    have h1 := (B3.out.cell (World.block_lt_of_cell? w _ H1.out)).trans H1.out
    go_upto_if 57 with fail
    go_cut [4] from 51 to 60 (fun s4 wc => ∃ (A4 : Option Addr) (c4 : Nat) (b4 : List Int), s4 = .slice A4 b4.length c4 ∧ Aside0 (b4.length ≤ 300 * kk + 3) ∧ Aside0 (Kd.R (Kd.int .u8) 5 wc w.heap.size (fun _ => True) (.slice A4 b4.length c4) b4) ∧ Aside0 (Below w.heap.size w wc))
    case first =>
      by_cases g127 : 127 < (yd.length : Int)
      · have g127' : 127 < yd.length := by omega
        have HZ : Aside0 ((r.length + 1) * 1 ≤ 140737488355328) := ⟨by have := HRL.out; omega⟩
        go_wp2_with (first | ((with_reducible refine gate_builtin (b := .append) (xs := #[.tmp 58, .tmp 59]) rfl ?_); at_builtin; refine Kd.R_append (Kd.int .u8) (w0 := w) w.heap.size rfl (.tmp 58) (.tmp 59) 49 5 (.int .u8 0) 1 rfl Try.underlying49 info5 rfl (by decide) (by omega) v3 r 129 [.int .u8 129] (fun _ => True) (fun _ => False) rfl rfl ?aP (fun _ hk => hk.elim) ?aF ?aO ?aB ?aS ?aL ?_; (case aP => exact rfl); (case aB => exact B3.out); (case aF => exact (fun _ _ => trivial)); (case aO => exact H3.out); (case aS => exact below_size B3.out); (case aL => exact HZ.out); intro v1 w2 ho hb hg hat; have HO2 := Aside0.mk ho; have B4 := Aside0.mk hb; clear ho hb hg hat))
        obtain ⟨A4, c4, e⟩ := Kd.R_slice HO2.out
        subst e
        have HL4 : Aside0 ((r ++ [129]).length ≤ 300 * kk + 3) := ⟨by rw [List.length_append]; have := HRL.out; show r.length + 1 ≤ _; omega⟩
        go_meet
        exact ⟨A4, c4, _, rfl, HL4, HO2, B4⟩
      · have g127' : ¬ 127 < yd.length := by omega
        obtain ⟨A4, c4, e⟩ := Kd.R_slice H3.out
        subst e
        have HL4 : Aside0 (r.length ≤ 300 * kk + 3) := ⟨by have := HRL.out; omega⟩
        go_wp2_with fail
        go_meet
        exact ⟨A4, c4, _, rfl, HL4, H3, B3⟩
    case rest =>
      obtain ⟨A4, c4, b4, rfl, HL4, HO4, B4⟩ := hcut
      clear H3 B3 HRL h0 h1
      have h0 := (B4.out.cell (World.block_lt_of_cell? w _ H0.out)).trans H0.out
      have h1 := (B4.out.cell (World.block_lt_of_cell? w _ H1.out)).trans H1.out
      go_upto_region 15 with fail

      have BZ := Aside0.mk (below_drew1 B4.out)
      have HZ := Aside0.mk (Kd.R_drew HO4.out)
      clear B4 HO4 h0 h1
      refine start_ (n := 17) (ds := []) (S := fun w' => w'.cell? (ad.add (kk * 2)) = some (.int .i64 yn) ∧ w'.cell? ⟨(ad.add (kk * 2)).block, (ad.add (kk * 2)).off + 1, none⟩ = some (.slice A1 yd.length c1)) (V 17 0) (by rfl) (by rfl) (by kernel_rfl) (⟨(BZ.out.cell (World.block_lt_of_cell? w _ H0.out)).trans H0.out, (BZ.out.cell (World.block_lt_of_cell? w _ H1.out)).trans H1.out⟩) (fun hHeld => ?_); refine with_tabW tab58_15 bits58_15 (fun HT_ HW_ => ?_)
      generalize wc.drew = wd at BZ HZ hHeld ⊢
      refine pure_ (i := 0) (N := some 61) (v := ?_) (a' := ?_) (V 17 1) rfl rfl (any_of HT_.out (by kernel_rfl)) (fun _ _ _ h => h) (Or.inl ⟨by rfl, ?_⟩) ?_ ?_; rotate_left
      · intro w'; go_simp; with_reducible rfl
      rotate_left
      · simp only [Act.put, List.setIfInBounds_toArray, List.set_cons_zero, List.set_cons_succ, i64_w, i32_w]; rfl
      refine pure_ (i := 1) (N := some 62) (v := ?_) (a' := ?_) (V 17 3) rfl rfl (any_of HT_.out (by kernel_rfl)) (fun _ _ _ h => h) (Or.inl ⟨by rfl, ?_⟩) ?_ ?_; rotate_left
      · intro w'; go_simp; with_reducible rfl
      rotate_left
      · simp only [Act.put, List.setIfInBounds_toArray, List.set_cons_zero, List.set_cons_succ, i64_w, i32_w]; rfl
      refine pure_ (i := 2) (N := some 63) (v := ?_) (a' := ?_) (V 17 7) rfl rfl (any_of HT_.out (by kernel_rfl)) (fun _ _ _ h => h) (Or.inl ⟨by rfl, ?_⟩) ?_ ?_; rotate_left
      · intro w'; go_simp; with_reducible rfl
      rotate_left
      · simp only [Act.put, List.setIfInBounds_toArray, List.set_cons_zero, List.set_cons_succ, i64_w, i32_w]; rfl
      refine pure_ (i := 3) (N := some 64) (v := ?_) (a' := ?_) (V 17 15) rfl rfl (any_of HT_.out (by kernel_rfl)) (fun _ _ _ h => h) (Or.inl ⟨by rfl, ?_⟩) ?_ ?_; rotate_left
      · intro w'; go_simp; with_reducible rfl
      rotate_left
      · simp only [Act.put, List.setIfInBounds_toArray, List.set_cons_zero, List.set_cons_succ, i64_w, i32_w]; rfl
      refine pure_ (i := 4) (N := some 65) (v := ?_) (a' := ?_) (V 17 31) rfl rfl (any_of HT_.out (by kernel_rfl)) (fun _ _ _ h => h) (Or.inl ⟨by rfl, ?_⟩) ?_ ?_; rotate_left
      · intro w'; go_simp; with_reducible rfl
      rotate_left
      · simp only [Act.put, List.setIfInBounds_toArray, List.set_cons_zero, List.set_cons_succ, i64_w, i32_w]; rfl
      refine take_ (i := 5) (N := some 66) (v := ?_) (a' := ?_) (V 17 63) rfl rfl (take_ofW HT_.out HW_.out (by kernel_rfl)) (fun _ _ _ h => h) (Or.inl ⟨by rfl, ?_⟩) hHeld ?_ ?_; rotate_left
      · rintro w' ⟨s0, s1⟩; go_simp; with_reducible rfl
      rotate_left
      · simp only [Act.put, List.setIfInBounds_toArray, List.set_cons_zero, List.set_cons_succ, i64_w, i32_w]; rfl
      refine pure_ (i := 6) (N := some 67) (v := ?_) (a' := ?_) (V 17 127) rfl rfl (any_of HT_.out (by kernel_rfl)) (fun _ _ _ h => h) (Or.inl ⟨by rfl, ?_⟩) ?_ ?_; rotate_left
      · intro w'; go_simp; with_reducible rfl
      rotate_left
      · simp only [Act.put, List.setIfInBounds_toArray, List.set_cons_zero, List.set_cons_succ, i64_w, i32_w]; rfl
      refine pure_ (i := 7) (N := some 68) (v := ?_) (a' := ?_) (V 17 255) rfl rfl (any_of HT_.out (by kernel_rfl)) (fun _ _ _ h => h) (Or.inl ⟨by rfl, ?_⟩) ?_ ?_; rotate_left
      · intro w'; go_simp; with_reducible rfl
      rotate_left
      · simp only [Act.put, List.setIfInBounds_toArray, List.set_cons_zero, List.set_cons_succ, i64_w, i32_w]; rfl
      refine pure_ (i := 10) (N := some 71) (v := ?_) (a' := ?_) (V 17 1279) rfl rfl (any_of HT_.out (by kernel_rfl)) (fun _ _ _ h => h) (Or.inl ⟨by rfl, ?_⟩) ?_ ?_; rotate_left
      · intro w'; go_simp; with_reducible rfl
      rotate_left
      · simp only [Act.put, List.setIfInBounds_toArray, List.set_cons_zero, List.set_cons_succ, i64_w, i32_w]; rfl
      refine pure_ (i := 11) (N := some 72) (v := ?_) (a' := ?_) (V 17 3327) rfl rfl (any_of HT_.out (by kernel_rfl)) (fun _ _ _ h => h) (Or.inl ⟨by rfl, ?_⟩) ?_ ?_; rotate_left
      · intro w'; go_simp; with_reducible rfl
      rotate_left
      · simp only [Act.put, List.setIfInBounds_toArray, List.set_cons_zero, List.set_cons_succ, i64_w, i32_w]; rfl
      refine pure_ (i := 12) (N := some 73) (v := ?_) (a' := ?_) (V 17 7423) rfl rfl (any_of HT_.out (by kernel_rfl)) (fun _ _ _ h => h) (Or.inl ⟨by rfl, ?_⟩) ?_ ?_; rotate_left
      · intro w'; go_simp; with_reducible rfl
      rotate_left
      · simp only [Act.put, List.setIfInBounds_toArray, List.set_cons_zero, List.set_cons_succ, i64_w, i32_w]; rfl
      refine pure_ (i := 13) (N := some 74) (v := ?_) (a' := ?_) (V 17 15615) rfl rfl (any_of HT_.out (by kernel_rfl)) (fun _ _ _ h => h) (Or.inl ⟨by rfl, ?_⟩) ?_ ?_; rotate_left
      · intro w'; go_simp; with_reducible rfl
      rotate_left
      · simp only [Act.put, List.setIfInBounds_toArray, List.set_cons_zero, List.set_cons_succ, i64_w, i32_w]; rfl
      refine take_ (i := 14) (N := some 75) (v := ?_) (a' := ?_) (V 17 31999) rfl rfl (take_ofW HT_.out HW_.out (by kernel_rfl)) (fun _ _ _ h => h) (Or.inl ⟨by rfl, ?_⟩) hHeld ?_ ?_; rotate_left
      · rintro w' ⟨s0, s1⟩; go_simp; with_reducible rfl
      rotate_left
      · simp only [Act.put, List.setIfInBounds_toArray, List.set_cons_zero, List.set_cons_succ, i64_w, i32_w]; rfl
      refine one_ (i := 8) (N := some 69) (V 17 32255) rfl rfl (one_of HT_.out (by kernel_rfl)) (by decide) (fun K hK => ?_)
      refine value_ (w1 := ?_) (v := ?_) (by rfl) rfl ?_ ?_; rotate_left 2
      · go_simp
        constructor
        · rfl
        · rfl
      refine hK.out _ _ (⟨((below_alloc BZ.out _).cell (World.block_lt_of_cell? w _ H0.out)).trans H0.out, ((below_alloc BZ.out _).cell (World.block_lt_of_cell? w _ H1.out)).trans H1.out⟩) (fun hHeld => ?_)
      clear hK K
      refine norm_ (a' := ?_) ?_ ?_; rotate_left
      · show Act.put _ (some 69) _ = _; simp only [Act.put, List.setIfInBounds_toArray, List.set_cons_zero, List.set_cons_succ, i64_w, i32_w]; rfl
      refine one_ (i := 9) (N := some 70) (V 17 32767) rfl rfl (one_of HT_.out (by kernel_rfl)) (by decide) (fun K hK => ?_)
      refine Kd.R_append_step (Kd.int .u8) (w0 := w) w.heap.size (by rfl) (.tmp 61) (.tmp 69) 49 5 (.int .u8 0) 1 rfl Try.underlying49 info5 rfl (by decide) (by omega) (.slice A4 b4.length c4) b4 ((yd.length : Int) % 256) [.int .u8 ((yd.length : Int) % 256)] (fun _ => True) (fun _ => False) rfl rfl ?aP (fun _ hk => hk.elim) ?aF ?aO ?aB ?aS ?aL ?_
      (case aP => exact rfl)
      (case aB => exact BZ.out)
      (case aF => exact (fun _ _ => trivial))
      (case aO => exact HZ.out)
      (case aS => exact below_size BZ.out)
      (case aL => exact (by have := HL4.out; omega))
      intro v5 w5 ho hb hg hat
      have HZ2 := Aside0.mk ho; replace BZ := Aside0.mk hb; clear ho hb hg hat HZ
      refine hK.out _ _ (⟨(BZ.out.cell (World.block_lt_of_cell? w _ H0.out)).trans H0.out, (BZ.out.cell (World.block_lt_of_cell? w _ H1.out)).trans H1.out⟩) (fun hHeld => ?_)
      clear hK K
      refine norm_ (a' := ?_) ?_ ?_; rotate_left
      · show Act.put _ (some 70) _ = _; simp only [Act.put, List.setIfInBounds_toArray, List.set_cons_zero, List.set_cons_succ, i64_w, i32_w]; rfl
      refine one_ (i := 15) (N := some 76) (V 17 65535) rfl rfl (one_of HT_.out (by kernel_rfl)) (by decide) (fun K hK => ?_)
      refine Kd.R_append_rows_step (Kd.int .u8) (w0 := w) w.heap.size (by rfl) (.tmp 70) (.tmp 75) 49 5 (.int .u8 0) 1 rfl Try.underlying49 info5 rfl (by decide) (by omega) v5 (b4 ++ [(yd.length : Int) % 256]) yd _ _ _ (fun _ => True) (fun _ => False) rfl rfl ?aO ?aR (fun _ _ h => h) (fun _ h => h.elim) ?aF ?aB ?aS ?aL ?_
      (case aR => exact Kd.C_below HI.out.2 BZ.out)
      (case aB => exact BZ.out)
      (case aF => exact (fun _ _ => trivial))
      (case aO => exact HZ2.out)
      (case aS => exact below_size BZ.out)
      (case aL => exact (by have := HL4.out; have := HYD.out; rw [List.length_append]; show (b4.length + 1 + yd.length) * 1 ≤ _; omega))
      intro v6 w6 ho hb hg hat
      have HZ3 := Aside0.mk ho; replace BZ := Aside0.mk hb; clear ho hb hg hat HZ2
      refine hK.out _ _ (⟨(BZ.out.cell (World.block_lt_of_cell? w _ H0.out)).trans H0.out, (BZ.out.cell (World.block_lt_of_cell? w _ H1.out)).trans H1.out⟩) (fun hHeld => ?_)
      clear hK K
      refine norm_ (a' := ?_) ?_ ?_; rotate_left
      · show Act.put _ (some 76) _ = _; simp only [Act.put, List.setIfInBounds_toArray, List.set_cons_zero, List.set_cons_succ, i64_w, i32_w]; rfl
      refine pure_ (i := 16) (N := some 4) (v := ?_) (a' := ?_) (V 17 131071) rfl rfl (any_of HT_.out (by kernel_rfl)) (fun _ _ _ h => h) (Or.inl ⟨by rfl, ?_⟩) ?_ ?_; rotate_left
      · intro w'; go_simp; with_reducible rfl
      rotate_left
      · simp only [Act.put, List.setIfInBounds_toArray, List.set_cons_zero, List.set_cons_succ, i64_w, i32_w]; rfl
      refine done_ (done_of HT_.out (by kernel_rfl)) ?_
      try go_wp2
      have HE : Aside0 ((b4 ++ [(yd.length : Int) % 256] ++ yd).length ≤ 300 * (kk + 1)) := ⟨by rw [List.length_append, List.length_append]; have := HL4.out; have := HYD.out; show b4.length + 1 + yd.length ≤ _; omega⟩
      go_roundg (l.length - (kk + 1))
      case measure => omega
      case rel => exact ⟨kk + 1, _, by omega, by omega, by go_num, HE, HZ3, BZ⟩
end Go.Proofs.Ythdjodamdakjbaa.MK
