/- ResidueBack: part 4 of its proof. -/
import Derived.Test.YthapknnppabdaaaGreatZ02
import Derived.Test.YthapknnppabdaaaGreatZ03
namespace Go.Proofs.YthapknnppabdaaaGreat.MQ
open Go.RowKit Go.Proofs.YthapknnppabdaaaGreatW.PrintWords Go.Proofs.YthapknnppabdaaaGreatW.PrintLast Go.Proofs.YthapknnppabdaaaGreatW.PrintMore
attribute [local go_sem] max2_int min2_int max_two min_two max_three min_three max_four min_four   -- for this text's walks alone
set_option linter.unusedVariables false
set_option linter.unusedSimpArgs false

def comptoirhelp_Digits.f : Nat → Int → Option (ByteArray)
  | 0, _ => none
  | k + 1, a0 => if a0 < 10 then (some (strOfNums (([(IntKind.u64.wrap (48 + a0)) % 256] : List Int)))) else ((comptoirhelp_Digits.f k (IntKind.u64.wrap (Int.tdiv a0 10))).bind fun t586 => ((some (([(IntKind.u64.wrap (48 + (Int.tmod a0 10))) % 256] : List Int) : List Int)).bind fun y587 => (if t586.size + (strOfNums y587).size ≤ 9223372036854775807 then (some (t586 ++ (strOfNums y587))) else (none))))
def comptoirhelp_Digits.T3 : Bool × List (List Nat × List Nat) := (true, [([], []), ([0], [0]), ([1], [1]), ([], []), ([3], [3]), ([4], [4]), ([5], [5]), ([6], [6]), ([7], [7]), ([2, 8], [2, 8]), ([9, 2, 0, 1, 2, 3, 4, 5, 6, 7, 8, 9], [9])])
def comptoirhelp_Digits.B3 : List Nat := [0, 1, 3, 0, 8, 24, 56, 120, 248, 511, 1023]
theorem comptoirhelp_Digits.tab3 : rtab .any (opsOf Tryz.f86 3) = comptoirhelp_Digits.T3 := by kernel_rfl
theorem comptoirhelp_Digits.bits3 : waitsOk comptoirhelp_Digits.T3.2 comptoirhelp_Digits.B3 = true := by kernel_rfl
set_option maxHeartbeats 8000000 in
set_option maxRecDepth 100000 in
theorem comptoirhelp_Digits.calls (k : Nat) : ∀ (a0 : Int) (r : ByteArray) (w : World) (h : comptoirhelp_Digits.f k a0 = some r),
    Calls Tryz.prog 86 #[.int .u64 a0] w fun e w' => e = .returned (.string r) ∧ Below w.heap.size w w' := by
  induction k using Nat.strongRecOn with
  | _ k ih =>
  intro a0 r w h
  cases k with
  | zero => exact absurd h (by simp [comptoirhelp_Digits.f])
  | succ k =>
  simp only [comptoirhelp_Digits.f] at h
  have HB := Aside0.mk (Below.refl w.heap.size w)
  have H : (if a0 < 10 then (some (strOfNums (([(IntKind.u64.wrap (48 + a0)) % 256] : List Int)))) else ((comptoirhelp_Digits.f k (IntKind.u64.wrap (Int.tdiv a0 10))).bind fun t586 => ((some (([(IntKind.u64.wrap (48 + (Int.tmod a0 10))) % 256] : List Int) : List Int)).bind fun y587 => (if t586.size + (strOfNums y587).size ≤ 9223372036854775807 then (some (t586 ++ (strOfNums y587))) else (none))))) = some r := h
  clear h
  by_cases c2 : a0 < 10
  · rw [if_pos c2] at H
    have c2b0 : decide (a0 < 10) = true := decide_eq_true c2
    clear c2
    obtain ⟨y583, hy583⟩ : ∃ y_ : List Int, y_ = (([(IntKind.u64.wrap (48 + a0)) % 256] : List Int)) := ⟨_, rfl⟩
    replace H : (some (strOfNums y583)) = some r := by first | (rw [hy583]; with_reducible exact H) | (have H2_ := (Option.bind_some _ _).symm.trans H; rw [hy583]; with_reducible exact H2_) | (have H2_ := (Option.bind_some _ _).symm.trans H; with_reducible exact H2_) | with_reducible exact H | (rw [hy583]; exact H) | exact H
    have Ny583 := Aside0.mk hy583
    clear hy583
    obtain rfl := Option.some.inj H
    simp only [Option.some.injEq, Prod.mk.injEq] at H
    obtain ⟨rfl⟩ := H
    go_enter Tryz.func86, Tryz.ntmps86
    go_wp2_with (first | ((with_reducible refine gate_dst (N := 8) rfl ?_); refine Kd.R_lit (Kd.int .u8) _ 5 ?hg (N := 8) ?hd (xs := ([(IntKind.u64.wrap (48 + a0)) % 256] : List Int)) (inner := [.int .u8 ((IntKind.u64.wrap (48 + a0)) % 256)]) (ok := fun _ => True) (okp := fun _ => True) ?hr ?hp (fun _ hk => hk) trivial (Below.refl _ _) (Nat.le_refl _) (by simp) ?_; (case hd => rfl); (case hg => rfl); (case hr => first | (go_simp; done) | (go_simp; rfl) | (go_simp; simp only [show ∀ l_ : List UInt8, (l_ != []) = !l_.isEmpty from fun l_ => by cases l_ <;> rfl]; done)); (case hp => exact (Reps.one (show Kd.M (Kd.int .u8) _ _ _ ((IntKind.u64.wrap (48 + a0)) % 256) [.int .u8 ((IntKind.u64.wrap (48 + a0)) % 256)] from rfl) (Reps.none _ _))); intro v584 w3 ho4 hb hg_ hnew_; clear hg_ hnew_; (first | rw [← Ny583.out] at ho4 | (simp only [Int.reduceToNat] at ho4; rw [← Ny583.out] at ho4)); have n0_ := Aside0.mk (Kd.R_lower ho4 (below_size (by repeat (first | (with_reducible first | exact HB.out | apply below_alloc | apply pw_below_drewN | apply below_drew1) | exact HB.out)))); have n1_ := Aside0.mk (below_step (by repeat (first | (with_reducible first | exact HB.out | apply below_alloc | apply pw_below_drewN | apply below_drew1) | exact HB.out)) hb); clear HB; have HO585 := n0_; have HB := n1_; clear n0_ n1_; clear hb ho4; have hcv5 := own_string (P := Tryz.prog) Tryz.underlying38 Tryz.underlying5 Tryz.underlying9 (Kd.own_of_R HO585.out)))
    go_ret
    exact ⟨by first | rfl | (simp [errW_none, errW_some] <;> rfl) | (simp [*, errW_none, errW_some] <;> rfl), by repeat (first | (with_reducible first | exact HB.out | apply below_alloc | apply pw_below_drewN | apply below_drew1) | exact HB.out)⟩
  · rw [if_neg c2] at H
    have c2b0 : decide (a0 < 10) = false := decide_eq_false c2
    clear c2
    replace H := Option.bind_eq_some_iff.mp H
    obtain ⟨t586, A60, H⟩ := H
    replace H : ((some (([(IntKind.u64.wrap (48 + (Int.tmod a0 10))) % 256] : List Int) : List Int)).bind fun y587 => (if t586.size + (strOfNums y587).size ≤ 9223372036854775807 then (some (t586 ++ (strOfNums y587))) else (none))) = some r := H
    have A6 := Aside0.mk A60
    clear A60
    obtain ⟨y587, hy587⟩ : ∃ y_ : List Int, y_ = (([(IntKind.u64.wrap (48 + (Int.tmod a0 10))) % 256] : List Int)) := ⟨_, rfl⟩
    replace H : (if t586.size + (strOfNums y587).size ≤ 9223372036854775807 then (some (t586 ++ (strOfNums y587))) else (none)) = some r := by first | (rw [hy587]; with_reducible exact H) | (have H2_ := (Option.bind_some _ _).symm.trans H; rw [hy587]; with_reducible exact H2_) | (have H2_ := (Option.bind_some _ _).symm.trans H; with_reducible exact H2_) | with_reducible exact H | (rw [hy587]; exact H) | exact H
    have Ny587 := Aside0.mk hy587
    clear hy587
    by_cases c7 : t586.size + (strOfNums y587).size ≤ 9223372036854775807
    · rw [if_pos c7] at H
      have c7b0 := eq_true c7
      have c7b1 : decide (t586.size + (strOfNums y587).size ≤ 9223372036854775807) = true := decide_eq_true c7
      try have c7b2 : (9223372036854775807 < t586.size + (strOfNums y587).size) = False := eq_false (Nat.not_lt.2 c7)
      obtain rfl := Option.some.inj H
      simp only [Option.some.injEq, Prod.mk.injEq] at H
      obtain ⟨rfl⟩ := H
      go_enter Tryz.func86, Tryz.ntmps86
      try go_wp2
      have n0_ := Aside0.mk (below_drew1 HB.out)
      clear HB
      have HB := n0_
      clear n0_
      refine start_ (n := 11) (S := fun w' => True) (ds := []) #[false, false, false, false, false, false, false, false, false, false, false] (by kernel_rfl) rfl rfl trivial (fun hHeld => ?_); refine with_tabW comptoirhelp_Digits.tab3 comptoirhelp_Digits.bits3 (fun HT_ HW_ => ?_)
      generalize w.drew = w8 at HB hHeld ⊢
      refine pure_ (i := 0) (N := some 10) (v := ?_) (a' := ?_) #[true, false, false, false, false, false, false, false, false, false, false] rfl rfl (any_of HT_.out (by kernel_rfl)) (fun _ _ _ h => h) (Or.inl ⟨by rfl, ?_⟩) ?_ ?_
      rotate_left
      · intro w'
        go_simp
        with_reducible rfl
      rotate_left
      · simp only [Act.put, List.setIfInBounds_toArray, List.set_cons_zero, List.set_cons_succ, i64_w, i32_w]
        rfl
      refine pure_ (i := 1) (N := some 11) (v := ?_) (a' := ?_) #[true, true, false, false, false, false, false, false, false, false, false] rfl rfl (any_of HT_.out (by kernel_rfl)) (fun _ _ _ h => h) (Or.inl ⟨by rfl, ?_⟩) ?_ ?_
      rotate_left
      · intro w'
        go_simp
        with_reducible rfl
      rotate_left
      · simp only [Act.put, List.setIfInBounds_toArray, List.set_cons_zero, List.set_cons_succ, i64_w, i32_w]
        rfl
      refine pure_ (i := 3) (N := some 13) (v := ?_) (a' := ?_) #[true, true, false, true, false, false, false, false, false, false, false] rfl rfl (any_of HT_.out (by kernel_rfl)) (fun _ _ _ h => h) (Or.inl ⟨by rfl, ?_⟩) ?_ ?_
      rotate_left
      · intro w'
        go_simp
        with_reducible rfl
      rotate_left
      · simp only [Act.put, List.setIfInBounds_toArray, List.set_cons_zero, List.set_cons_succ, i64_w, i32_w]
        rfl
      refine pure_ (i := 4) (N := some 14) (v := ?_) (a' := ?_) #[true, true, false, true, true, false, false, false, false, false, false] rfl rfl (any_of HT_.out (by kernel_rfl)) (fun _ _ _ h => h) (Or.inl ⟨by rfl, ?_⟩) ?_ ?_
      rotate_left
      · intro w'
        go_simp
        with_reducible rfl
      rotate_left
      · simp only [Act.put, List.setIfInBounds_toArray, List.set_cons_zero, List.set_cons_succ, i64_w, i32_w]
        rfl
      refine pure_ (i := 5) (N := some 15) (v := ?_) (a' := ?_) #[true, true, false, true, true, true, false, false, false, false, false] rfl rfl (any_of HT_.out (by kernel_rfl)) (fun _ _ _ h => h) (Or.inl ⟨by rfl, ?_⟩) ?_ ?_
      rotate_left
      · intro w'
        go_simp
        with_reducible rfl
      rotate_left
      · simp only [Act.put, List.setIfInBounds_toArray, List.set_cons_zero, List.set_cons_succ, i64_w, i32_w]
        rfl
      refine pure_ (i := 6) (N := some 16) (v := ?_) (a' := ?_) #[true, true, false, true, true, true, true, false, false, false, false] rfl rfl (any_of HT_.out (by kernel_rfl)) (fun _ _ _ h => h) (Or.inl ⟨by rfl, ?_⟩) ?_ ?_
      rotate_left
      · intro w'
        go_simp
        with_reducible rfl
      rotate_left
      · simp only [Act.put, List.setIfInBounds_toArray, List.set_cons_zero, List.set_cons_succ, i64_w, i32_w]
        rfl
      refine join_ (σ := Value) 2 #[true, true, true, true, true, true, true, true, true, false, false] (fun s_ => [(12, .string t586), (17, s_), (18, .string (strOfNums y587))]) (fun s_ w' => (Kd.R (Kd.int .u8) 5 w' w.heap.size (fun _ => True) s_ y587) ∧ (Below w.heap.size w w')) ?_ ?_
      rotate_left
      · intro hCont
        refine two_ (i := 2) (j := 7) (Ni := some 12) (Nj := some 17) #[true, true, true, true, true, true, true, false, false, false, false] #[true, true, false, true, true, true, true, true, false, false, false] rfl rfl rfl rfl (two_of HT_.out (by kernel_rfl)) (by decide) (by decide) (fun K hK => ?_) (fun K hK => ?_)
        · skip
          refine goes_ Tryz.func86 (by kernel_rfl) rfl #[.int .u64 (IntKind.u64.wrap (Int.tdiv a0 10))] (by rfl) rfl rfl (by (try simp only [List.map_toArray, List.map_cons, List.map_nil]); first | done | rfl | (simp only [List.length_drop, List.length_take]; rfl)) ?_
          with_reducible refine (ih k (by omega) (IntKind.u64.wrap (Int.tdiv a0 10)) t586 _ A6.out).mono ?_
          rintro e w9 ⟨rfl, hb⟩
          refine ⟨_, rfl, ?_⟩
          have n0_ := Aside0.mk (below_step (by repeat (first | (with_reducible first | exact HB.out | apply below_alloc | apply pw_below_drewN | apply below_drew1) | exact HB.out)) hb)
          clear HB
          have HB := n0_
          clear n0_
          (try clear hb)
          (try clear hb2)
          (try clear hk)
          (try clear hi)
          refine hK.out _ _ trivial (fun hHeld => ?_)
          clear hK K
          refine norm_ (a' := ?_) ?_ ?_
          rotate_left
          · show Act.put _ (some 12) _ = _
            simp only [Act.put, List.setIfInBounds_toArray, List.set_cons_zero, List.set_cons_succ, i64_w, i32_w]
            rfl
          refine one_ (i := 7) (N := some 17) #[true, true, true, true, true, true, true, true, false, false, false] rfl rfl (one_of HT_.out (by kernel_rfl)) (by decide) (fun K hK => ?_)
          refine Kd.R_lit_step (Kd.int .u8) _ 5 ?hg (N := 17) ?hd (xs := ([(IntKind.u64.wrap (48 + (Int.tmod a0 10))) % 256] : List Int)) (inner := [.int .u8 ((IntKind.u64.wrap (48 + (Int.tmod a0 10))) % 256)]) (ok := fun _ => True) (okp := fun _ => True) ?hr ?hp (fun _ hk => hk) trivial (Below.refl _ _) (Nat.le_refl _) (by simp) ?_; (case hd => rfl); (case hg => rfl); (case hr => first | (go_simp; done) | (go_simp; rfl) | (go_simp; simp only [show ∀ l_ : List UInt8, (l_ != []) = !l_.isEmpty from fun l_ => by cases l_ <;> rfl]; done)); (case hp => exact (Reps.one (show Kd.M (Kd.int .u8) _ _ _ ((IntKind.u64.wrap (48 + (Int.tmod a0 10))) % 256) [.int .u8 ((IntKind.u64.wrap (48 + (Int.tmod a0 10))) % 256)] from rfl) (Reps.none _ _)))
          intro v588 w10 ho11 hb hg_ hnew_
          clear hg_ hnew_
          (first | rw [← Ny587.out] at ho11 | (simp only [Int.reduceToNat] at ho11; rw [← Ny587.out] at ho11))
          have n0_ := Aside0.mk (Kd.R_lower ho11 (below_size (by repeat (first | (with_reducible first | exact HB.out | apply below_alloc | apply pw_below_drewN | apply below_drew1) | exact HB.out))))
          have n1_ := Aside0.mk (below_step (by repeat (first | (with_reducible first | exact HB.out | apply below_alloc | apply pw_below_drewN | apply below_drew1) | exact HB.out)) hb)
          clear HB
          have HO589 := n0_
          have HB := n1_
          clear n0_ n1_
          clear hb ho11
          refine hK.out _ _ trivial (fun hHeld => ?_)
          clear hK K
          refine norm_ (a' := ?_) ?_ ?_
          rotate_left
          · show Act.put _ (some 17) _ = _
            simp only [Act.put, List.setIfInBounds_toArray, List.set_cons_zero, List.set_cons_succ, i64_w, i32_w]
            rfl
          refine one_ (i := 8) (N := some 18) #[true, true, true, true, true, true, true, true, true, false, false] rfl rfl (one_of HT_.out (by kernel_rfl)) (by decide) (fun K hK => ?_)
          have hcv12 := own_string (P := Tryz.prog) Tryz.underlying38 Tryz.underlying5 Tryz.underlying9 (Kd.own_of_R HO589.out)
          refine value_ (w1 := ?_) (v := ?_) (by rfl) rfl ?_ ?_
          rotate_left 2
          · go_simp
            constructor
            · rfl
            · rfl
          clear hcv12
          refine hK.out _ _ trivial (fun hHeld => ?_)
          clear hK K
          refine norm_ (a' := ?_) ?_ ?_
          rotate_left
          · show Act.put _ (some 18) _ = _
            simp only [Act.put, List.setIfInBounds_toArray, List.set_cons_zero, List.set_cons_succ, i64_w, i32_w]
            rfl
          exact norm_ (by simp only [putAll, Act.put, List.setIfInBounds_toArray, List.set_cons_zero, List.set_cons_succ]) (hCont (v588) _ ⟨(by (with_reducible repeat (first | apply Kd.R_alloc | apply Kd.R_drewN | apply Kd.R_drew)); exact HO589.out), (by repeat (first | (with_reducible first | exact HB.out | apply below_alloc | apply pw_below_drewN | apply below_drew1) | exact HB.out))⟩)
        · skip
          refine Kd.R_lit_step (Kd.int .u8) _ 5 ?hg (N := 17) ?hd (xs := ([(IntKind.u64.wrap (48 + (Int.tmod a0 10))) % 256] : List Int)) (inner := [.int .u8 ((IntKind.u64.wrap (48 + (Int.tmod a0 10))) % 256)]) (ok := fun _ => True) (okp := fun _ => True) ?hr ?hp (fun _ hk => hk) trivial (Below.refl _ _) (Nat.le_refl _) (by simp) ?_; (case hd => rfl); (case hg => rfl); (case hr => first | (go_simp; done) | (go_simp; rfl) | (go_simp; simp only [show ∀ l_ : List UInt8, (l_ != []) = !l_.isEmpty from fun l_ => by cases l_ <;> rfl]; done)); (case hp => exact (Reps.one (show Kd.M (Kd.int .u8) _ _ _ ((IntKind.u64.wrap (48 + (Int.tmod a0 10))) % 256) [.int .u8 ((IntKind.u64.wrap (48 + (Int.tmod a0 10))) % 256)] from rfl) (Reps.none _ _)))
          intro v588 w9 ho10 hb hg_ hnew_
          clear hg_ hnew_
          (first | rw [← Ny587.out] at ho10 | (simp only [Int.reduceToNat] at ho10; rw [← Ny587.out] at ho10))
          have n0_ := Aside0.mk (Kd.R_lower ho10 (below_size (by repeat (first | (with_reducible first | exact HB.out | apply below_alloc | apply pw_below_drewN | apply below_drew1) | exact HB.out))))
          have n1_ := Aside0.mk (below_step (by repeat (first | (with_reducible first | exact HB.out | apply below_alloc | apply pw_below_drewN | apply below_drew1) | exact HB.out)) hb)
          clear HB
          have HO589 := n0_
          have HB := n1_
          clear n0_ n1_
          clear hb ho10
          refine hK.out _ _ trivial (fun hHeld => ?_)
          clear hK K
          refine norm_ (a' := ?_) ?_ ?_
          rotate_left
          · show Act.put _ (some 17) _ = _
            simp only [Act.put, List.setIfInBounds_toArray, List.set_cons_zero, List.set_cons_succ, i64_w, i32_w]
            rfl
          refine two_ (i := 2) (j := 8) (Ni := some 12) (Nj := some 18) #[true, true, true, true, true, true, true, true, false, false, false] #[true, true, false, true, true, true, true, true, true, false, false] rfl rfl rfl rfl (two_of HT_.out (by kernel_rfl)) (by decide) (by decide) (fun K hK => ?_) (fun K hK => ?_)
          · skip
            refine goes_ Tryz.func86 (by kernel_rfl) rfl #[.int .u64 (IntKind.u64.wrap (Int.tdiv a0 10))] (by rfl) rfl rfl (by (try simp only [List.map_toArray, List.map_cons, List.map_nil]); first | done | rfl | (simp only [List.length_drop, List.length_take]; rfl)) ?_
            with_reducible refine (ih k (by omega) (IntKind.u64.wrap (Int.tdiv a0 10)) t586 _ A6.out).mono ?_
            rintro e w11 ⟨rfl, hb⟩
            refine ⟨_, rfl, ?_⟩
            have n0_ := Aside0.mk (Kd.R_below (by (with_reducible repeat (first | apply Kd.R_alloc | apply Kd.R_drewN | apply Kd.R_drew)); exact HO589.out) hb)
            have n1_ := Aside0.mk (below_step (by repeat (first | (with_reducible first | exact HB.out | apply below_alloc | apply pw_below_drewN | apply below_drew1) | exact HB.out)) hb)
            clear HO589
            clear HB
            have HO589 := n0_
            have HB := n1_
            clear n0_ n1_
            (try clear hb)
            (try clear hb2)
            (try clear hk)
            (try clear hi)
            refine hK.out _ _ trivial (fun hHeld => ?_)
            clear hK K
            refine norm_ (a' := ?_) ?_ ?_
            rotate_left
            · show Act.put _ (some 12) _ = _
              simp only [Act.put, List.setIfInBounds_toArray, List.set_cons_zero, List.set_cons_succ, i64_w, i32_w]
              rfl
            refine one_ (i := 8) (N := some 18) #[true, true, true, true, true, true, true, true, true, false, false] rfl rfl (one_of HT_.out (by kernel_rfl)) (by decide) (fun K hK => ?_)
            have hcv12 := own_string (P := Tryz.prog) Tryz.underlying38 Tryz.underlying5 Tryz.underlying9 (Kd.own_of_R HO589.out)
            refine value_ (w1 := ?_) (v := ?_) (by rfl) rfl ?_ ?_
            rotate_left 2
            · go_simp
              constructor
              · rfl
              · rfl
            clear hcv12
            refine hK.out _ _ trivial (fun hHeld => ?_)
            clear hK K
            refine norm_ (a' := ?_) ?_ ?_
            rotate_left
            · show Act.put _ (some 18) _ = _
              simp only [Act.put, List.setIfInBounds_toArray, List.set_cons_zero, List.set_cons_succ, i64_w, i32_w]
              rfl
            exact norm_ (by simp only [putAll, Act.put, List.setIfInBounds_toArray, List.set_cons_zero, List.set_cons_succ]) (hCont (v588) _ ⟨(by (with_reducible repeat (first | apply Kd.R_alloc | apply Kd.R_drewN | apply Kd.R_drew)); exact HO589.out), (by repeat (first | (with_reducible first | exact HB.out | apply below_alloc | apply pw_below_drewN | apply below_drew1) | exact HB.out))⟩)
          · skip
            have hcv11 := own_string (P := Tryz.prog) Tryz.underlying38 Tryz.underlying5 Tryz.underlying9 (Kd.own_of_R HO589.out)
            refine value_ (w1 := ?_) (v := ?_) (by rfl) rfl ?_ ?_
            rotate_left 2
            · go_simp
              constructor
              · rfl
              · rfl
            clear hcv11
            refine hK.out _ _ trivial (fun hHeld => ?_)
            clear hK K
            refine norm_ (a' := ?_) ?_ ?_
            rotate_left
            · show Act.put _ (some 18) _ = _
              simp only [Act.put, List.setIfInBounds_toArray, List.set_cons_zero, List.set_cons_succ, i64_w, i32_w]
              rfl
            refine one_ (i := 2) (N := some 12) #[true, true, true, true, true, true, true, true, true, false, false] rfl rfl (one_of HT_.out (by kernel_rfl)) (by decide) (fun K hK => ?_)
            refine goes_ Tryz.func86 (by kernel_rfl) rfl #[.int .u64 (IntKind.u64.wrap (Int.tdiv a0 10))] (by rfl) rfl rfl (by (try simp only [List.map_toArray, List.map_cons, List.map_nil]); first | done | rfl | (simp only [List.length_drop, List.length_take]; rfl)) ?_
            with_reducible refine (ih k (by omega) (IntKind.u64.wrap (Int.tdiv a0 10)) t586 _ A6.out).mono ?_
            rintro e w12 ⟨rfl, hb⟩
            refine ⟨_, rfl, ?_⟩
            have n0_ := Aside0.mk (Kd.R_below (by (with_reducible repeat (first | apply Kd.R_alloc | apply Kd.R_drewN | apply Kd.R_drew)); exact HO589.out) hb)
            have n1_ := Aside0.mk (below_step (by repeat (first | (with_reducible first | exact HB.out | apply below_alloc | apply pw_below_drewN | apply below_drew1) | exact HB.out)) hb)
            clear HO589
            clear HB
            have HO589 := n0_
            have HB := n1_
            clear n0_ n1_
            (try clear hb)
            (try clear hb2)
            (try clear hk)
            (try clear hi)
            refine hK.out _ _ trivial (fun hHeld => ?_)
            clear hK K
            refine norm_ (a' := ?_) ?_ ?_
            rotate_left
            · show Act.put _ (some 12) _ = _
              simp only [Act.put, List.setIfInBounds_toArray, List.set_cons_zero, List.set_cons_succ, i64_w, i32_w]
              rfl
            exact norm_ (by simp only [putAll, Act.put, List.setIfInBounds_toArray, List.set_cons_zero, List.set_cons_succ]) (hCont (v588) _ ⟨(by (with_reducible repeat (first | apply Kd.R_alloc | apply Kd.R_drewN | apply Kd.R_drew)); exact HO589.out), (by repeat (first | (with_reducible first | exact HB.out | apply below_alloc | apply pw_below_drewN | apply below_drew1) | exact HB.out))⟩)
      rintro v588 w13 ⟨h0_, h1_⟩
      have n0_ : Aside0 (Kd.R (Kd.int .u8) 5 w13 w.heap.size (fun _ => True) v588 y587) := ⟨h0_⟩
      have n1_ : Aside0 (Below w.heap.size w w13) := ⟨h1_⟩
      clear HB
      clear h0_ h1_
      have HO589 := n0_
      have HB := n1_
      clear n0_ n1_
      have hHeld := trivial
      refine norm_ (a' := ?_) ?_ ?_
      rotate_left
      · simp only [putAll, Act.put, List.setIfInBounds_toArray, List.set_cons_zero, List.set_cons_succ]
        rfl
      refine pure_ (i := 9) (N := some 19) (v := ?_) (a' := ?_) #[true, true, true, true, true, true, true, true, true, true, false] rfl rfl (any_of HT_.out (by kernel_rfl)) (fun _ _ _ h => h) (Or.inl ⟨by rfl, ?_⟩) ?_ ?_
      rotate_left
      · intro w'
        go_simp
        with_reducible rfl
      rotate_left
      · simp only [Act.put, List.setIfInBounds_toArray, List.set_cons_zero, List.set_cons_succ, i64_w, i32_w]
        rfl
      refine pure_ (i := 10) (N := some 2) (v := ?_) (a' := ?_) #[true, true, true, true, true, true, true, true, true, true, true] rfl rfl (any_of HT_.out (by kernel_rfl)) (fun _ _ _ h => h) (Or.inl ⟨by rfl, ?_⟩) ?_ ?_
      rotate_left
      · intro w'
        go_simp
        with_reducible rfl
      rotate_left
      · simp only [Act.put, List.setIfInBounds_toArray, List.set_cons_zero, List.set_cons_succ, i64_w, i32_w]
        rfl
      refine done_ (done_of HT_.out (by kernel_rfl)) ?_
      try go_wp2
      go_ret
      exact ⟨by first | rfl | (simp [errW_none, errW_some] <;> rfl) | (simp [*, errW_none, errW_some] <;> rfl), by repeat (first | (with_reducible first | exact HB.out | apply below_alloc | apply pw_below_drewN | apply below_drew1) | exact HB.out)⟩
    · rw [if_neg c7] at H
      exact absurd H (by simp)

def comptoirref01_Hex.l0 : Nat → List Int → ByteArray → Int → Option (ByteArray)
  | 0, _, _, _ => none
  | k + 1, x0, x3, x4 => if x4 < (x0.length : Int) then (if 0 ≤ x4 then (if 0 ≤ ((rd x0 x4) / 16) then (if ((rd x0 x4) / 16) ≤ ((((rd x0 x4) / 16) + 1) % 256) then (if ((((rd x0 x4) / 16) + 1) % 256) ≤ 16 then (if x3.size + ((⟨#[48, 49, 50, 51, 52, 53, 54, 55, 56, 57, 65, 66, 67, 68, 69, 70]⟩ : ByteArray).extract (((rd x0 x4) / 16) : Int).toNat (((((rd x0 x4) / 16) + 1) % 256) : Int).toNat).size ≤ 9223372036854775807 then (if 0 ≤ (Go.bits .and .u8 (rd x0 x4) 15) then (if (Go.bits .and .u8 (rd x0 x4) 15) ≤ (((Go.bits .and .u8 (rd x0 x4) 15) + 1) % 256) then (if (((Go.bits .and .u8 (rd x0 x4) 15) + 1) % 256) ≤ 16 then (if (x3 ++ ((⟨#[48, 49, 50, 51, 52, 53, 54, 55, 56, 57, 65, 66, 67, 68, 69, 70]⟩ : ByteArray).extract (((rd x0 x4) / 16) : Int).toNat (((((rd x0 x4) / 16) + 1) % 256) : Int).toNat)).size + ((⟨#[48, 49, 50, 51, 52, 53, 54, 55, 56, 57, 65, 66, 67, 68, 69, 70]⟩ : ByteArray).extract ((Go.bits .and .u8 (rd x0 x4) 15) : Int).toNat ((((Go.bits .and .u8 (rd x0 x4) 15) + 1) % 256) : Int).toNat).size ≤ 9223372036854775807 then (comptoirref01_Hex.l0 k x0 ((x3 ++ ((⟨#[48, 49, 50, 51, 52, 53, 54, 55, 56, 57, 65, 66, 67, 68, 69, 70]⟩ : ByteArray).extract (((rd x0 x4) / 16) : Int).toNat (((((rd x0 x4) / 16) + 1) % 256) : Int).toNat)) ++ ((⟨#[48, 49, 50, 51, 52, 53, 54, 55, 56, 57, 65, 66, 67, 68, 69, 70]⟩ : ByteArray).extract ((Go.bits .and .u8 (rd x0 x4) 15) : Int).toNat ((((Go.bits .and .u8 (rd x0 x4) 15) + 1) % 256) : Int).toNat)) (wrap64 (x4 + 1))) else (none)) else (none)) else (none)) else (none)) else (none)) else (none)) else (none)) else (none)) else (none)) else (some x3)
def comptoirref01_Hex.f (k : Nat) (l0 : List Int) : Option (ByteArray) := comptoirref01_Hex.l0 k l0 (⟨#[]⟩ : ByteArray) 0
set_option maxHeartbeats 8000000 in
set_option maxRecDepth 100000 in
theorem comptoirref01_Hex.calls (k : Nat) (A0 : Option Addr) (c0 : Nat) (l0 : List Int) (r : ByteArray) (w : World) (hr0 : Kd.C (Kd.int .u8) w A0 l0.length l0) (hc0 : l0.length ≤ c0) (h : comptoirref01_Hex.f k l0 = some r) :
    Calls Tryz.prog 87 #[.slice A0 l0.length c0] w fun e w' => e = .returned (.string r) ∧ Drawn0 w w' := by
  have HR0 := Aside0.mk hr0
  have HC0 := Aside0.mk hc0
  clear hr0 hc0
  have H : (comptoirref01_Hex.l0 k l0 (⟨#[]⟩ : ByteArray) 0) = some r := h
  clear h
  have H' := Aside0.mk H
  clear H
  go_enter Tryz.func87, Tryz.ntmps87
  go_wp2
  repeat (go_quiet (fail); try go_wp2)
  go_loopg [3, 4] k (fun kq v3 v4 w' => ∃ (x3_1 : ByteArray) (x4_1 : Int), v3 = .string x3_1 ∧ v4 = .int .i64 x4_1 ∧ Aside0 (comptoirref01_Hex.l0 kq l0 x3_1 x4_1 = some r) ∧ Aside0 (kq ≤ k) ∧ Drawn0 w w')
  case atStart => exact ⟨((⟨#[]⟩ : ByteArray)), (0), (by first | rfl | (simp; done) | (simp [*]; done)), (by first | rfl | (simp; done) | (simp [*]; done)), H', ⟨Nat.le_refl _⟩, by repeat (first | exact Drawn0.refl _ | apply Drawn0.step)⟩
  case round =>
    clear H'
    obtain ⟨x3_1, x4_1, rfl, rfl, HA, HK1, ⟨m1, rfl⟩⟩ := hrel
    cases gk with
    | zero => exact absurd HA.out (by simp [comptoirref01_Hex.l0])
    | succ k1 =>
      have H := HA.out
      clear HA
      simp only [comptoirref01_Hex.l0] at H
      by_cases c2 : x4_1 < (l0.length : Int)
      · rw [if_pos c2] at H
        have c2b0 : decide (x4_1 < (l0.length : Int)) = true := decide_eq_true c2
        clear c2
        by_cases c3 : 0 ≤ x4_1
        · rw [if_pos c3] at H
          have c3b0 : decide (0 ≤ x4_1) = true := decide_eq_true c3
          clear c3
          obtain ⟨ji4, hji4⟩ : ∃ j_ : Int, ((rd l0 x4_1) / 16) = j_ := ⟨_, rfl⟩
          replace H : (if 0 ≤ (ji4) then (if (ji4) ≤ (((ji4) + 1) % 256) then (if (((ji4) + 1) % 256) ≤ 16 then (if x3_1.size + ((⟨#[48, 49, 50, 51, 52, 53, 54, 55, 56, 57, 65, 66, 67, 68, 69, 70]⟩ : ByteArray).extract ((ji4) : Int).toNat ((((ji4) + 1) % 256) : Int).toNat).size ≤ 9223372036854775807 then (if 0 ≤ (Go.bits .and .u8 (rd l0 x4_1) 15) then (if (Go.bits .and .u8 (rd l0 x4_1) 15) ≤ (((Go.bits .and .u8 (rd l0 x4_1) 15) + 1) % 256) then (if (((Go.bits .and .u8 (rd l0 x4_1) 15) + 1) % 256) ≤ 16 then (if (x3_1 ++ ((⟨#[48, 49, 50, 51, 52, 53, 54, 55, 56, 57, 65, 66, 67, 68, 69, 70]⟩ : ByteArray).extract ((ji4) : Int).toNat ((((ji4) + 1) % 256) : Int).toNat)).size + ((⟨#[48, 49, 50, 51, 52, 53, 54, 55, 56, 57, 65, 66, 67, 68, 69, 70]⟩ : ByteArray).extract ((Go.bits .and .u8 (rd l0 x4_1) 15) : Int).toNat ((((Go.bits .and .u8 (rd l0 x4_1) 15) + 1) % 256) : Int).toNat).size ≤ 9223372036854775807 then (comptoirref01_Hex.l0 k1 l0 ((x3_1 ++ ((⟨#[48, 49, 50, 51, 52, 53, 54, 55, 56, 57, 65, 66, 67, 68, 69, 70]⟩ : ByteArray).extract ((ji4) : Int).toNat ((((ji4) + 1) % 256) : Int).toNat)) ++ ((⟨#[48, 49, 50, 51, 52, 53, 54, 55, 56, 57, 65, 66, 67, 68, 69, 70]⟩ : ByteArray).extract ((Go.bits .and .u8 (rd l0 x4_1) 15) : Int).toNat ((((Go.bits .and .u8 (rd l0 x4_1) 15) + 1) % 256) : Int).toNat)) (wrap64 (x4_1 + 1))) else (none)) else (none)) else (none)) else (none)) else (none)) else (none)) else (none)) else (none)) = some r := by first | (rw [hji4] at H; exact H) | (simp only [hji4] at H ⊢; exact H)
          by_cases c5 : 0 ≤ (ji4)
          · rw [if_pos c5] at H
            have c5b0 := eq_true c5
            have c5b1 : decide (0 ≤ (ji4)) = true := decide_eq_true c5
            clear c5
            by_cases c6 : (ji4) ≤ (((ji4) + 1) % 256)
            · rw [if_pos c6] at H
              have c6b0 := eq_true c6
              have c6b1 : decide ((ji4) ≤ (((ji4) + 1) % 256)) = true := decide_eq_true c6
              by_cases c7 : (((ji4) + 1) % 256) ≤ 16
              · rw [if_pos c7] at H
                have c7b0 := eq_true c7
                have c7b1 : decide ((((ji4) + 1) % 256) ≤ 16) = true := decide_eq_true c7
                by_cases c8 : x3_1.size + ((⟨#[48, 49, 50, 51, 52, 53, 54, 55, 56, 57, 65, 66, 67, 68, 69, 70]⟩ : ByteArray).extract ((ji4) : Int).toNat ((((ji4) + 1) % 256) : Int).toNat).size ≤ 9223372036854775807
                · rw [if_pos c8] at H
                  have c8b0 := eq_true c8
                  have c8b1 : decide (x3_1.size + ((⟨#[48, 49, 50, 51, 52, 53, 54, 55, 56, 57, 65, 66, 67, 68, 69, 70]⟩ : ByteArray).extract ((ji4) : Int).toNat ((((ji4) + 1) % 256) : Int).toNat).size ≤ 9223372036854775807) = true := decide_eq_true c8
                  try have c8b2 : (9223372036854775807 < x3_1.size + ((⟨#[48, 49, 50, 51, 52, 53, 54, 55, 56, 57, 65, 66, 67, 68, 69, 70]⟩ : ByteArray).extract ((ji4) : Int).toNat ((((ji4) + 1) % 256) : Int).toNat).size) = False := eq_false (Nat.not_lt.2 c8)
                  by_cases c9 : 0 ≤ (Go.bits .and .u8 (rd l0 x4_1) 15)
                  · rw [if_pos c9] at H
                    have c9b0 := eq_true c9
                    have c9b1 : decide (0 ≤ (Go.bits .and .u8 (rd l0 x4_1) 15)) = true := decide_eq_true c9
                    clear c9
                    by_cases c10 : (Go.bits .and .u8 (rd l0 x4_1) 15) ≤ (((Go.bits .and .u8 (rd l0 x4_1) 15) + 1) % 256)
                    · rw [if_pos c10] at H
                      have c10b0 := eq_true c10
                      have c10b1 : decide ((Go.bits .and .u8 (rd l0 x4_1) 15) ≤ (((Go.bits .and .u8 (rd l0 x4_1) 15) + 1) % 256)) = true := decide_eq_true c10
                      by_cases c11 : (((Go.bits .and .u8 (rd l0 x4_1) 15) + 1) % 256) ≤ 16
                      · rw [if_pos c11] at H
                        have c11b0 := eq_true c11
                        have c11b1 : decide ((((Go.bits .and .u8 (rd l0 x4_1) 15) + 1) % 256) ≤ 16) = true := decide_eq_true c11
                        by_cases c12 : (x3_1 ++ ((⟨#[48, 49, 50, 51, 52, 53, 54, 55, 56, 57, 65, 66, 67, 68, 69, 70]⟩ : ByteArray).extract ((ji4) : Int).toNat ((((ji4) + 1) % 256) : Int).toNat)).size + ((⟨#[48, 49, 50, 51, 52, 53, 54, 55, 56, 57, 65, 66, 67, 68, 69, 70]⟩ : ByteArray).extract ((Go.bits .and .u8 (rd l0 x4_1) 15) : Int).toNat ((((Go.bits .and .u8 (rd l0 x4_1) 15) + 1) % 256) : Int).toNat).size ≤ 9223372036854775807
                        · rw [if_pos c12] at H
                          have c12b0 := eq_true c12
                          have c12b1 : decide ((x3_1 ++ ((⟨#[48, 49, 50, 51, 52, 53, 54, 55, 56, 57, 65, 66, 67, 68, 69, 70]⟩ : ByteArray).extract ((ji4) : Int).toNat ((((ji4) + 1) % 256) : Int).toNat)).size + ((⟨#[48, 49, 50, 51, 52, 53, 54, 55, 56, 57, 65, 66, 67, 68, 69, 70]⟩ : ByteArray).extract ((Go.bits .and .u8 (rd l0 x4_1) 15) : Int).toNat ((((Go.bits .and .u8 (rd l0 x4_1) 15) + 1) % 256) : Int).toNat).size ≤ 9223372036854775807) = true := decide_eq_true c12
                          try have c12b2 : (9223372036854775807 < (x3_1 ++ ((⟨#[48, 49, 50, 51, 52, 53, 54, 55, 56, 57, 65, 66, 67, 68, 69, 70]⟩ : ByteArray).extract ((ji4) : Int).toNat ((((ji4) + 1) % 256) : Int).toNat)).size + ((⟨#[48, 49, 50, 51, 52, 53, 54, 55, 56, 57, 65, 66, 67, 68, 69, 70]⟩ : ByteArray).extract ((Go.bits .and .u8 (rd l0 x4_1) 15) : Int).toNat ((((Go.bits .and .u8 (rd l0 x4_1) 15) + 1) % 256) : Int).toNat).size) = False := eq_false (Nat.not_lt.2 c12)
                          try (have c12b3 := Nat.not_lt.2 c12; simp only [ByteArray.size_append] at c12b3; have c12b4 := eq_false c12b3; clear c12b3)
                          have H' := Aside0.mk H
                          clear H
                          have p596 : 0 ≤ (x4_1 : Int) := of_decide_eq_true (by first | (with_reducible assumption) | assumption)
                          have q596 : x4_1 < (l0.length : Int) := of_decide_eq_true (by first | (with_reducible assumption) | assumption)
                          obtain ⟨ad596, e596, hx596_0⟩ := Kd.at_int HR0.out x4_1 p596 q596
                          cases e596
                          replace p596 := eq_true p596
                          replace q596 := eq_true q596
                          have p597 : 0 ≤ (x4_1 : Int) := of_decide_eq_true (by first | (with_reducible assumption) | assumption)
                          have q597 : x4_1 < (l0.length : Int) := of_decide_eq_true (by first | (with_reducible assumption) | assumption)
                          obtain ⟨ad597, e597, hx597_0⟩ := Kd.at_int HR0.out x4_1 p597 q597
                          obtain rfl : ad596 = ad597 := (by injection e597)
                          replace p597 := eq_true p597
                          replace q597 := eq_true q597
                          have p598 : 0 ≤ (x4_1 : Int) := of_decide_eq_true (by first | (with_reducible assumption) | assumption)
                          have q598 : x4_1 < (l0.length : Int) := of_decide_eq_true (by first | (with_reducible assumption) | assumption)
                          obtain ⟨ad598, e598, hx598_0⟩ := Kd.at_int HR0.out x4_1 p598 q598
                          obtain rfl : ad596 = ad598 := (by injection e598)
                          replace p598 := eq_true p598
                          replace q598 := eq_true q598
                          have p599 : 0 ≤ (x4_1 : Int) := of_decide_eq_true (by first | (with_reducible assumption) | assumption)
                          have q599 : x4_1 < (l0.length : Int) := of_decide_eq_true (by first | (with_reducible assumption) | assumption)
                          obtain ⟨ad599, e599, hx599_0⟩ := Kd.at_int HR0.out x4_1 p599 q599
                          obtain rfl : ad596 = ad599 := (by injection e599)
                          replace p599 := eq_true p599
                          replace q599 := eq_true q599
                          go_wp2
                          repeat (go_quiet (fail); try go_wp2)
                          go_roundg k1
                          case measure => have := HK1.out; omega
                          case rel => exact ⟨((x3_1 ++ ((⟨#[48, 49, 50, 51, 52, 53, 54, 55, 56, 57, 65, 66, 67, 68, 69, 70]⟩ : ByteArray).extract ((ji4) : Int).toNat ((((ji4) + 1) % 256) : Int).toNat)) ++ ((⟨#[48, 49, 50, 51, 52, 53, 54, 55, 56, 57, 65, 66, 67, 68, 69, 70]⟩ : ByteArray).extract ((Go.bits .and .u8 (rd l0 x4_1) 15) : Int).toNat ((((Go.bits .and .u8 (rd l0 x4_1) 15) + 1) % 256) : Int).toNat)), (wrap64 (x4_1 + 1)), (by first | rfl | (simp; done) | (simp only [← hji4] <;> (first | rfl | simp)) | (simp [*]; done)), (by first | rfl | (simp; done) | (simp [*]; done)), H', ⟨by have := HK1.out; omega⟩, by repeat (first | exact Drawn0.refl _ | apply Drawn0.step)⟩
                        · rw [if_neg c12] at H
                          exact absurd H (by simp)
                      · rw [if_neg c11] at H
                        exact absurd H (by simp)
                    · rw [if_neg c10] at H
                      exact absurd H (by simp)
                  · rw [if_neg c9] at H
                    exact absurd H (by simp)
                · rw [if_neg c8] at H
                  exact absurd H (by simp)
              · rw [if_neg c7] at H
                exact absurd H (by simp)
            · rw [if_neg c6] at H
              exact absurd H (by simp)
          · rw [if_neg c5] at H
            exact absurd H (by simp)
        · rw [if_neg c3] at H
          exact absurd H (by simp)
      · rw [if_neg c2] at H
        have c2b0 : decide (x4_1 < (l0.length : Int)) = false := decide_eq_false c2
        clear c2
        obtain rfl := Option.some.inj H
        simp only [Option.some.injEq, Prod.mk.injEq] at H
        obtain ⟨rfl⟩ := H
        go_wp2
        repeat (go_quiet (fail); try go_wp2)
        go_ret
        exact ⟨by first | rfl | (simp; done) | (simp [*]; done), by repeat (first | exact Drawn0.refl _ | apply Drawn0.step)⟩

end Go.Proofs.YthapknnppabdaaaGreat.MQ
namespace Go.Proofs.YthapknnppabdaaaGreat.MQ
open Go.RowKit Go.Proofs.YthapknnppabdaaaGreatW.PrintWords Go.Proofs.YthapknnppabdaaaGreatW.PrintLast Go.Proofs.YthapknnppabdaaaGreatW.PrintMore
set_option linter.unusedVariables false
set_option linter.unusedSimpArgs false
theorem bs_nums (l : List Int) (h : ∀ x ∈ l, 0 ≤ x ∧ x < 256) : bs (strOfNums l) = l := by
  unfold bs
  rw [strOfNums_data, List.map_map]
  conv => rhs; rw [← List.map_id l]
  apply List.map_congr_left
  intro x hx
  have := h x hx
  show (((UInt8.ofNat x.toNat).toNat : Nat) : Int) = x
  rw [UInt8.toNat_ofNat']
  have e : x.toNat % 2 ^ 8 = x.toNat := Nat.mod_eq_of_lt (by omega)
  rw [e]; omega
theorem u64_id {x : Int} (h0 : 0 ≤ x) (h1 : x < 18446744073709551616) : IntKind.u64.wrap x = x := by
  have e : (2 : Int) ^ IntKind.u64.bits = 18446744073709551616 := by decide
  simp only [IntKind.wrap, IntKind.u64]
  exact Int.emod_eq_of_lt h0 h1
/-- A number's digits. -/
structure DecOf (v : Int) (t : ByteArray) : Prop where
  dg : (bs t).all dig = true
  vl : valL (bs t) = v
  lo : 1 ≤ t.size
theorem dec_from (n : Nat) : ∀ (k : Nat) (v : Int), n ≤ 100 → 0 ≤ v → v < 18446744073709551616 → v < 10 ^ (n + 1) → n < k → ∃ t, comptoirhelp_Digits.f k v = some t ∧ DecOf v t ∧ t.size ≤ n + 1 := by
  induction n with
  | zero =>
    intro k v hn h0 h1 h2 hk
    obtain ⟨k, rfl⟩ : ∃ m, k = m + 1 := ⟨k - 1, by omega⟩
    have h2' : v < 10 := h2
    unfold comptoirhelp_Digits.f
    rw [if_pos h2', u64_id (by omega) (by omega), Int.emod_eq_of_lt (by omega) (by omega)]
    have e := bs_nums [48 + v] (fun x hx => by rw [List.mem_singleton] at hx; subst hx; omega)
    refine ⟨_, rfl, ⟨?_, ?_, ?_⟩, ?_⟩
    · rw [e]; simp only [List.all_cons, List.all_nil, dig]; simp; omega
    · rw [e]; show 0 * 10 + (48 + v - 48) = v; omega
    · rw [strOfNums_size]; exact Nat.le_refl _
    · rw [strOfNums_size]; exact Nat.le_refl _
  | succ n ih =>
    intro k v hn h0 h1 h2 hk
    obtain ⟨k, rfl⟩ : ∃ m, k = m + 1 := ⟨k - 1, by omega⟩
    unfold comptoirhelp_Digits.f
    by_cases h10 : v < 10
    · rw [if_pos h10, u64_id (by omega) (by omega), Int.emod_eq_of_lt (by omega) (by omega)]
      have e := bs_nums [48 + v] (fun x hx => by rw [List.mem_singleton] at hx; subst hx; omega)
      refine ⟨_, rfl, ⟨?_, ?_, ?_⟩, ?_⟩
      · rw [e]; simp only [List.all_cons, List.all_nil, dig]; simp; omega
      · rw [e]; show 0 * 10 + (48 + v - 48) = v; omega
      · rw [strOfNums_size]; exact Nat.le_refl _
      · rw [strOfNums_size]; show 1 ≤ n + 1 + 1; omega
    · have ed : v.tdiv 10 = v / 10 := Int.tdiv_eq_ediv_of_nonneg h0
      have em : v.tmod 10 = v % 10 := Int.tmod_eq_emod_of_nonneg h0
      have hp : (10 : Int) ^ (n + 1 + 1) = 10 ^ (n + 1) * 10 := Int.pow_succ ..
      obtain ⟨t, ht, hd, hz⟩ := ih k (v / 10) (by omega) (by omega) (by omega) (by rw [hp] at h2; omega) (by omega)
      rw [if_neg h10, ed, em, u64_id (by omega) (by omega), ht, u64_id (by omega) (by omega), Int.emod_eq_of_lt (a := 48 + v % 10) (by omega) (by omega)]
      have e := bs_nums [48 + v % 10] (fun x hx => by rw [List.mem_singleton] at hx; subst hx; omega)
      have es : (strOfNums [48 + v % 10]).size = 1 := strOfNums_size _
      simp only [Option.bind_some]
      rw [if_pos (by rw [es]; omega)]
      refine ⟨_, rfl, ⟨?_, ?_, ?_⟩, ?_⟩
      · rw [bs_append, List.all_append, hd.dg, e]; simp only [List.all_cons, List.all_nil, dig]; simp; omega
      · rw [bs_append, e, valL_snoc, hd.vl]; omega
      · rw [ByteArray.size_append]; have := hd.lo; omega
      · rw [ByteArray.size_append, es]; omega
/-- The digits of a number. -/
def decS (v : Int) : ByteArray := (comptoirhelp_Digits.f 30 v).getD ⟨#[]⟩
theorem dec_is {v : Int} (h0 : 0 ≤ v) (n : Nat) (hn : n < 20) (h2 : v < 10 ^ (n + 1)) (h1 : v < 18446744073709551616) : comptoirhelp_Digits.f 30 v = some (decS v) ∧ DecOf v (decS v) ∧ (decS v).size ≤ n + 1 := by
  obtain ⟨t, ht, hd, hz⟩ := dec_from n 30 v (by omega) h0 h1 h2 (by omega)
  have e : decS v = t := by unfold decS; rw [ht]; rfl
  rw [e]
  exact ⟨ht, hd, hz⟩
theorem dec_all {v : Int} (h0 : 0 ≤ v) (h1 : v < 18446744073709551616) : comptoirhelp_Digits.f 30 v = some (decS v) ∧ DecOf v (decS v) ∧ (decS v).size ≤ 20 := dec_is h0 19 (by decide) (by omega) h1
theorem dec_e (v : Int) (w : World) (h0 : 0 ≤ v) (h1 : v < 18446744073709551616) : Calls Tryz.prog 86 #[.int .u64 v] w fun e w' => e = .returned (.string (decS v)) ∧ Below w.heap.size w w' := comptoirhelp_Digits.calls 30 v _ w (dec_all h0 h1).1
/-- So many noughts ahead. -/
def padS : Nat → ByteArray → ByteArray
  | 0, s => s
  | n + 1, s => ⟨#[48]⟩ ++ padS n s
theorem pad_size (n : Nat) (s : ByteArray) : (padS n s).size = n + s.size := by
  induction n with
  | zero => simp [padS]
  | succ n ih => unfold padS; rw [ByteArray.size_append, ih]; show 1 + (n + s.size) = _; omega
theorem pad_dec {v : Int} (n : Nat) {s : ByteArray} (h : DecOf v s) : DecOf v (padS n s) := by
  induction n with
  | zero => exact h
  | succ n ih =>
    have e : bs ⟨#[48]⟩ = [48] := rfl
    unfold padS
    refine ⟨?_, ?_, ?_⟩
    · rw [bs_append, e, List.all_append, ih.dg]; rfl
    · rw [bs_append, e]; exact ih.vl
    · rw [ByteArray.size_append]; have := ih.lo; omega
def digS (v width : Int) : ByteArray := if ((decS v).size : Int) ≤ width then padS (width.toNat - (decS v).size) (decS v) else ⟨#[]⟩
def digE (v width : Int) : Int := if ((decS v).size : Int) ≤ width then 0 else 4
set_option maxHeartbeats 4000000 in
theorem digits_e (v width : Int) (w : World) (h0 : 0 ≤ v) (h1 : v < 18446744073709551616) (hw : 1 ≤ width) (hw' : width ≤ 20) : Calls Tryz.prog 103 #[.int .u64 v, .int .i64 width] w fun e w' => e = .returned (.tuple #[.string (digS v width), .int .i64 (digE v width)]) ∧ Below w.heap.size w w' := by
  have HD := Aside0.mk (dec_all h0 h1)
  have HC := Aside0.mk (dec_e v w h0 h1)
  clear h0 h1
  go_enter Tryz.func103, Tryz.ntmps103
  go_wp2_with fail
  refine HC.out.mono ?_
  rintro e w1 ⟨rfl, hb⟩
  have BB := Aside0.mk hb
  clear hb HC
  obtain ⟨s, HS⟩ : ∃ s, Aside0 (s = decS v) := ⟨_, ⟨rfl⟩⟩
  rw [← HS.out]
  have hs20 : s.size ≤ 20 := by rw [HS.out]; exact HD.out.2.2
  by_cases q : (s.size : Int) ≤ width
  · have E : Aside0 (digS v width = padS (width.toNat - s.size) s ∧ digE v width = 0) := ⟨by unfold digS digE; rw [← HS.out, if_pos q, if_pos q]; exact ⟨rfl, rfl⟩⟩
    go_wp2_with fail
    go_loopg [6] width.toNat (fun gg s6 wr => ∃ j : Nat, (j : Int) + s.size ≤ width ∧ width.toNat - (j + s.size) ≤ gg ∧ s6 = .string (padS j s) ∧ Aside0 (Below w.heap.size w wr))
    case atStart => exact ⟨0, by omega, by omega, rfl, BB⟩
    case round =>
      obtain ⟨j, hj, hg, rfl, BW⟩ := hrel
      obtain ⟨u, HU⟩ : ∃ u, Aside0 (u = padS j s) := ⟨_, ⟨rfl⟩⟩
      have hu : u.size = j + s.size := by rw [HU.out, pad_size]
      rw [← HU.out]
      by_cases hlt : (j : Int) + s.size < width
      · have hltz : (u.size : Int) < width := by omega
        have hcap : (1 : Nat) + u.size ≤ 9223372036854775807 := by omega
        have HX := Aside0.mk hu
        go_wp2_with fail
        go_roundg (width.toNat - (j + 1 + s.size))
        case measure => omega
        case rel => exact ⟨j + 1, by omega, by omega, by rw [HU.out]; rfl, BW⟩
      · have hltz : ¬ (u.size : Int) < width := by omega
        have E2 : Aside0 (digS v width = u) := ⟨by rw [E.out.1, HU.out]; congr 1; omega⟩
        go_wp2_with fail
        go_ret2
        exact ⟨by rw [E2.out, E.out.2]; rfl, BW.out⟩
  · have E : Aside0 (digS v width = ⟨#[]⟩ ∧ digE v width = 4) := ⟨by unfold digS digE; rw [← HS.out, if_neg q, if_neg q]; exact ⟨rfl, rfl⟩⟩
    go_wp2_with fail
    go_ret2
    exact ⟨by rw [E.out.1, E.out.2]; rfl, BB.out⟩
def amtS (v : Int) : ByteArray := if v ≤ 999999999999 then decS (v / 100) ++ ⟨#[46]⟩ ++ digS (v % 100) 2 else ⟨#[]⟩
def amtE (v : Int) : Int := if v ≤ 999999999999 then 0 else 4
set_option maxHeartbeats 4000000 in
theorem amountText_e (v : Int) (w : World) (h0 : 0 ≤ v) (h1 : v < 18446744073709551616) : Calls Tryz.prog 85 #[.int .u64 v] w fun e w' => e = .returned (.tuple #[.string (amtS v), .int .i64 (amtE v)]) ∧ Below w.heap.size w w' := by
  have BB := Aside0.mk (Below.refl w.heap.size w)
  by_cases hv : v ≤ 999999999999
  · have E : Aside0 (amtS v = decS (v / 100) ++ ⟨#[46]⟩ ++ digS (v % 100) 2 ∧ amtE v = 0) := ⟨by unfold amtS amtE; rw [if_pos hv, if_pos hv]; exact ⟨rfl, rfl⟩⟩
    have em : v.tmod 100 = v % 100 := Int.tmod_eq_emod_of_nonneg h0
    have ed : v.tdiv 100 = v / 100 := Int.tdiv_eq_ediv_of_nonneg h0
    have ew : IntKind.u64.wrap (v / 100) = v / 100 := u64_id (by omega) (by omega)
    have ew2 : IntKind.u64.wrap (v % 100) = v % 100 := u64_id (by omega) (by omega)
    have HM := Aside0.mk (digits_e (v % 100) 2 w (by omega) (by omega) (by omega) (by omega))
    have HD : ∀ W : World, Aside0 (Calls Tryz.prog 86 #[.int .u64 (v / 100)] W fun e w' => e = .returned (.string (decS (v / 100))) ∧ Below W.heap.size W w') := fun W => ⟨dec_e (v / 100) W (by omega) (by omega)⟩
    have hz1 : (decS (v / 100)).size ≤ 20 := (dec_all (by omega) (by omega)).2.2
    have hz2 : (digS (v % 100) 2).size ≤ 20 := by
      unfold digS
      split
      · rw [pad_size]; omega
      · decide
    have hcap1 : (decS (v / 100)).size + 1 ≤ 9223372036854775807 := by omega
    have hcap2 : (decS (v / 100) ++ ⟨#[46]⟩).size + (digS (v % 100) 2).size ≤ 9223372036854775807 := by rw [ByteArray.size_append]; show _ + 1 + _ ≤ _; omega
    have HV := Aside0.mk hv
    have hvn : ¬ 999999999999 < v := by omega
    clear hv
    obtain ⟨x, hx⟩ : ∃ x, x = v / 100 := ⟨_, rfl⟩
    obtain ⟨y, hy⟩ : ∃ y, y = v % 100 := ⟨_, rfl⟩
    rw [← hx] at ed ew HD hz1 hcap1 hcap2 E
    rw [← hy] at em ew2 HM hz2 hcap2 E
    have HX := Aside0.mk (And.intro hx hy)
    clear hx hy
    go_enter Tryz.func85, Tryz.ntmps85
    go_wp2_with fail
    try rw [em]
    refine HM.out.mono ?_
    rintro e w1 ⟨rfl, hb⟩
    have BB := Aside0.mk hb
    clear hb
    go_wp2_with fail
    try rw [ed]
    try rw [ew]
    refine (HD _).out.mono ?_
    rintro e w2 ⟨rfl, hb⟩
    have BC := Aside0.mk (below_step BB.out hb)
    clear hb
    go_wp2_with fail
    go_ret2
    exact ⟨by rw [E.out.1, E.out.2]; rfl, BC.out⟩
  · have E : Aside0 (amtS v = ⟨#[]⟩ ∧ amtE v = 4) := ⟨by unfold amtS amtE; rw [if_neg hv, if_neg hv]; exact ⟨rfl, rfl⟩⟩
    have hvn : 999999999999 < v := by omega
    go_enter Tryz.func85, Tryz.ntmps85
    go_wp2_with fail
    go_ret2
    exact ⟨by rw [E.out.1, E.out.2]; rfl, BB.out⟩
def cutD (s : ByteArray) : ByteArray := s.extract 0 (s.size - 3) ++ s.extract (s.size - 2) s.size
def amtOfE (s : ByteArray) : Int := if 4 ≤ s.size ∧ s.size ≤ 13 then (if numE (cutD s) = 0 ∧ amtE (numF (cutD s)) = 0 ∧ amtS (numF (cutD s)) = s then 0 else 14) else 14
set_option maxHeartbeats 4000000 in
set_option maxRecDepth 100000 in
theorem amountOf_e (s : ByteArray) (w : World) (hs : s.size ≤ 140737488355328) : Calls Tryz.prog 118 #[.string s] w fun e w' => ∃ r, e = .returned (.tuple #[.int .u64 r, .int .i64 (amtOfE s)]) ∧ Below w.heap.size w w' := by
  have BB := Aside0.mk (Below.refl w.heap.size w)
  have ew : wrap64 ((s.size : Int) - 3) = (s.size : Int) - 3 := by unfold wrap64; omega
  by_cases h0 : s.size < 4
  · have E : Aside0 (amtOfE s = 14) := ⟨by unfold amtOfE; rw [if_neg (by omega)]⟩
    have q : (s.size : Int) - 3 < 1 := by omega
    go_enter Tryz.func118, Tryz.ntmps118
    go_wp2_with fail
    go_ret2
    exact ⟨_, by rw [E.out]; rfl, BB.out⟩
  by_cases h1 : 13 < s.size
  · have E : Aside0 (amtOfE s = 14) := ⟨by unfold amtOfE; rw [if_neg (by omega)]⟩
    have q : ¬ (s.size : Int) - 3 < 1 := by omega
    have q1 : 10 < (s.size : Int) - 3 := by omega
    go_enter Tryz.func118, Tryz.ntmps118
    go_wp2_with fail
    go_ret2
    exact ⟨⟨_, by rw [E.out]; rfl⟩, BB.out⟩
  have q : ¬ (s.size : Int) - 3 < 1 := by omega
  have q1 : ¬ 10 < (s.size : Int) - 3 := by omega
  obtain ⟨n, hn⟩ : ∃ n : Nat, (s.size : Int) - 3 = n := ⟨s.size - 3, by omega⟩
  have hz : s.size = n + 3 := by omega
  have E : Aside0 (amtOfE s = if numE (cutD s) = 0 ∧ amtE (numF (cutD s)) = 0 ∧ amtS (numF (cutD s)) = s then 0 else 14) := ⟨by unfold amtOfE; rw [if_pos (by omega)]⟩
  have hc : cutD s = s.extract 0 n ++ s.extract (n + 1) (n + 3) := by
    unfold cutD
    rw [show s.size - 3 = n by omega, show s.size - 2 = n + 1 by omega, hz]
  have hcz : (cutD s).size ≤ 140737488355328 := by rw [hc, ByteArray.size_append, ByteArray.size_extract, ByteArray.size_extract]; omega
  have HN := fun W => Aside0.mk (number_e (cutD s) W hcz)
  have HB := Aside0.mk (numF_bound (cutD s))
  rw [hn] at ew q q1
  have en : wrap64 ((n : Int) + 1) = ((n + 1 : Nat) : Int) := by unfold wrap64; omega
  have hcap : (s.extract 0 n).size + (s.extract (n + 1) (n + 3)).size ≤ 9223372036854775807 := by rw [ByteArray.size_extract, ByteArray.size_extract]; omega
  have l1 : (n : Int) ≤ (s.size : Int) := by omega
  have l2 : ((n + 1 : Nat) : Int) ≤ (s.size : Int) := by omega
  have HH := Aside0.mk (And.intro hn hz)
  have HC := Aside0.mk hc
  clear hc hcz h0 h1
  go_enter Tryz.func118, Tryz.ntmps118
  go_upto_region 4 with fail
  go_quiet (first | (rw [← HC.out]; exact Calls.quiet_of ((HN _).out.mono fun e w' h => ⟨h.1, h.2.out⟩)) | go_simp)
  go_upto_region 5 with fail
  rw [← HC.out]
  clear hcap l1 l2 en ew q q1
  obtain ⟨u, HU⟩ : ∃ u, Aside0 (u = cutD s) := ⟨_, ⟨rfl⟩⟩
  rw [← HU.out] at E HB ⊢
  obtain ⟨v, HV⟩ : ∃ v, Aside0 (v = numF u) := ⟨_, ⟨rfl⟩⟩
  rw [← HV.out] at E HB ⊢
  obtain ⟨f, HF⟩ : ∃ f, Aside0 (f = numE u) := ⟨_, ⟨rfl⟩⟩
  rw [← HF.out] at E ⊢
  go_wp2_with fail
  refine (amountText_e v _ HB.out.1 (by have := HB.out.2; omega)).mono ?_
  rintro e w1 ⟨rfl, hb⟩
  have BC := Aside0.mk (below_step (pw_below_drewN (Below.refl w.heap.size w) _) hb)
  clear hb BB
  obtain ⟨g, HG⟩ : ∃ g, Aside0 (g = amtE v) := ⟨_, ⟨rfl⟩⟩
  obtain ⟨x, HX⟩ : ∃ x, Aside0 (x = amtS v) := ⟨_, ⟨rfl⟩⟩
  rw [← HG.out, ← HX.out] at E ⊢
  by_cases f0 : f = 0
  · by_cases g0 : g = 0
    · by_cases x0 : x = s
      · have E2 : Aside0 (amtOfE s = 0) := ⟨by rw [E.out, if_pos ⟨f0, g0, x0⟩]⟩
        clear E
        subst f0; subst g0; subst x0
        go_wp2_with fail
        go_ret2
        first | exact ⟨_, by rw [E2.out]; rfl, BC.out⟩ | exact ⟨⟨_, by rw [E2.out]; rfl⟩, BC.out⟩
      · have E2 : Aside0 (amtOfE s = 14) := ⟨by rw [E.out, if_neg (fun h => x0 h.2.2)]⟩
        have x1 : (x.toList == s.toList) = false := beq_eq_false_iff_ne.mpr (fun h => x0 (by apply bs_inj; unfold bs; rw [← ByteArray.toList_eq, ← ByteArray.toList_eq, h]))
        clear E x0
        subst f0; subst g0
        go_wp2_with fail
        go_ret2
        first | exact ⟨_, by rw [E2.out]; rfl, BC.out⟩ | exact ⟨⟨_, by rw [E2.out]; rfl⟩, BC.out⟩
    · have E2 : Aside0 (amtOfE s = 14) := ⟨by rw [E.out, if_neg (fun h => g0 h.2.1)]⟩
      have g1 : (g == 0) = false := beq_eq_false_iff_ne.mpr g0
      clear E
      subst f0
      go_wp2_with fail
      go_ret2
      first | exact ⟨_, by rw [E2.out]; rfl, BC.out⟩ | exact ⟨⟨_, by rw [E2.out]; rfl⟩, BC.out⟩
  · have E2 : Aside0 (amtOfE s = 14) := ⟨by rw [E.out, if_neg (fun h => f0 h.1)]⟩
    have f1 : (f == 0) = false := beq_eq_false_iff_ne.mpr f0
    clear E
    go_wp2_with fail
    go_ret2
    first | exact ⟨_, by rw [E2.out]; rfl, BC.out⟩ | exact ⟨⟨_, by rw [E2.out]; rfl⟩, BC.out⟩
theorem cut_list (a b : List Int) (hb : b.length = 2) : ((a ++ [46] ++ b).take a.length).drop 0 ++ ((a ++ [46] ++ b).take (a.length + 3)).drop (a.length + 1) = a ++ b := by
  rw [List.drop_zero, List.take_of_length_le (l := a ++ [46] ++ b) (i := a.length + 3) (by simp [hb]), List.drop_left' (l₁ := a ++ [46]) (by simp), List.append_assoc, List.take_left' rfl]
/-- What AmountText makes, AmountOf takes. -/
theorem valL_app (l m : List Int) : valL (l ++ m) = m.foldl (fun v c => v * 10 + (c - 48)) (valL l) := by unfold valL; rw [List.foldl_append]
theorem amt_ok {v : Int} (h0 : 0 ≤ v) (hv : v ≤ 999999999999) : amtOfE (amtS v) = 0 ∧ 4 ≤ (amtS v).size ∧ (amtS v).size ≤ 13 := by
  obtain ⟨_, d1, z1⟩ := dec_is (v := v / 100) (by omega) 9 (by decide) (by omega) (by omega)
  obtain ⟨_, d2, z2⟩ := dec_is (v := v % 100) (by omega) 1 (by decide) (by omega) (by omega)
  have ea : amtS v = decS (v / 100) ++ ⟨#[46]⟩ ++ digS (v % 100) 2 := by unfold amtS; rw [if_pos hv]
  have hg : digS (v % 100) 2 = padS (2 - (decS (v % 100)).size) (decS (v % 100)) := by unfold digS; rw [if_pos (by omega)]; rfl
  have d3 := pad_dec (2 - (decS (v % 100)).size) d2
  rw [← hg] at d3
  have z3 : (digS (v % 100) 2).size = 2 := by rw [hg, pad_size]; omega
  have z1' := d1.lo
  generalize decS (v / 100) = a at ea d1 z1 z1'
  generalize digS (v % 100) 2 = b at ea d3 z3
  have hsz : (amtS v).size = a.size + 3 := by rw [ea, ByteArray.size_append, ByteArray.size_append, z3]; show a.size + 1 + 2 = _; omega
  have hc : cutD (amtS v) = a ++ b := by
    apply bs_inj
    unfold cutD
    rw [hsz, bs_append, bs_append, bs_extract, bs_extract, ea, bs_append, bs_append]
    have e46 : bs ⟨#[46]⟩ = [46] := rfl
    rw [e46]
    have la : (bs a).length = a.size := bs_len a
    have lb : (bs b).length = 2 := by rw [bs_len, z3]
    rw [show a.size + 3 - 3 = (bs a).length by omega, show a.size + 3 - 2 = (bs a).length + 1 by omega, show a.size + 3 = (bs a).length + 3 by omega]
    exact cut_list _ _ lb
  have hr : rightF (a ++ b) 1 18 = true := right_iff.2 ⟨by rw [bs_append, List.all_append, d1.dg, d3.dg]; rfl, by rw [ByteArray.size_append]; omega, by rw [ByteArray.size_append]; omega⟩
  have hval : valF (a ++ b) = v := by
    unfold valF
    rw [bs_append, valL_app, d1.vl]
    have lb : (bs b).length = 2 := by rw [bs_len, z3]
    have hv2 := d3.vl
    generalize bs b = l at lb hv2
    match l, lb with
    | [p, q], _ =>
      have : valL [p, q] = (0 * 10 + (p - 48)) * 10 + (q - 48) := rfl
      show (v / 100 * 10 + (p - 48)) * 10 + (q - 48) = v
      omega
  have hn : numF (a ++ b) = v := by unfold numF; rw [if_pos hr, hval]
  have he : numE (a ++ b) = 0 := by unfold numE; rw [if_pos hr]
  refine ⟨?_, by omega, by omega⟩
  unfold amtOfE
  rw [if_pos (by omega), hc, hn, he, if_pos ⟨rfl, by unfold amtE; rw [if_pos hv], rfl⟩]
end Go.Proofs.YthapknnppabdaaaGreat.MQ
