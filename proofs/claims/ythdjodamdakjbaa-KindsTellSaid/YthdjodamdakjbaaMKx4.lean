-- laid by wip/tools/mixprint.py over the kit's print (functions of function values by hand)
import Derived.Test.YthdjodamdakjbaaMKx0
import Derived.Test.YthdjodamdakjbaaMKx1
import Derived.Test.YthdjodamdakjbaaHFits
import Derived.Test.YthdjodamdakjbaaHKinds
namespace Go.Proofs.Ythdjodamdakjbaa.MK
open Go.RowKit Go.Proofs.YthdjodamdakjbaaW.PrintWords Go.Proofs.YthdjodamdakjbaaW.PrintLast Go.Proofs.YthdjodamdakjbaaW.PrintMore
attribute [local go_sem] max2_int min2_int max_two min_two max_three min_three max_four min_four   -- for this text's walks alone
set_option linter.unusedVariables false
set_option linter.unusedSimpArgs false

/-! ### comptoirlaw11_awake: function 9 -/
def comptoirlaw11_awake.f  : Option (Bool) := (kinds_Code.f 1).bind fun t118 => (if t118.toList = ([65, 85, 84, 81] : List UInt8) then ((kinds_OfMti.f (⟨#[50, 49, 49, 48]⟩ : ByteArray)).bind fun t119 => (if t119 = 2 then ((kinds_Answer.f 7).bind fun t120 => (if t120 = 8 then ((kinds_Money.f 3).bind fun t121 => (if t121 = true then ((kinds_Fits.f 9 0 (⟨#[]⟩ : ByteArray) (⟨#[]⟩ : ByteArray) (⟨#[]⟩ : ByteArray) (⟨#[]⟩ : ByteArray) 0 (⟨#[]⟩ : ByteArray) (⟨#[]⟩ : ByteArray) (⟨#[]⟩ : ByteArray) (⟨#[]⟩ : ByteArray) 0 (⟨#[]⟩ : ByteArray) (⟨#[]⟩ : ByteArray) 0 (⟨#[]⟩ : ByteArray) ([] : List (S51)) (⟨#[]⟩ : ByteArray) (⟨#[]⟩ : ByteArray) ([] : List (S53)) ([] : List (S55))).bind fun t122 => (some (t122 == 0))) else (some false))) else (some false))) else (some false))) else (some false))
set_option maxHeartbeats 8000000 in
set_option maxRecDepth 100000 in
theorem comptoirlaw11_awake.calls  (r : Bool) (w : World) (h : comptoirlaw11_awake.f  = some r) :
    Calls Try.prog 9 #[] w fun e w' => e = .returned (.bool r) ∧ Below w.heap.size w w' := by
  have hu29 := Try.underlying29
  have HB := Aside0.mk (Below.refl w.heap.size w)
  have H : ((kinds_Code.f 1).bind fun t118 => (if t118.toList = ([65, 85, 84, 81] : List UInt8) then ((kinds_OfMti.f (⟨#[50, 49, 49, 48]⟩ : ByteArray)).bind fun t119 => (if t119 = 2 then ((kinds_Answer.f 7).bind fun t120 => (if t120 = 8 then ((kinds_Money.f 3).bind fun t121 => (if t121 = true then ((kinds_Fits.f 9 0 (⟨#[]⟩ : ByteArray) (⟨#[]⟩ : ByteArray) (⟨#[]⟩ : ByteArray) (⟨#[]⟩ : ByteArray) 0 (⟨#[]⟩ : ByteArray) (⟨#[]⟩ : ByteArray) (⟨#[]⟩ : ByteArray) (⟨#[]⟩ : ByteArray) 0 (⟨#[]⟩ : ByteArray) (⟨#[]⟩ : ByteArray) 0 (⟨#[]⟩ : ByteArray) ([] : List (S51)) (⟨#[]⟩ : ByteArray) (⟨#[]⟩ : ByteArray) ([] : List (S53)) ([] : List (S55))).bind fun t122 => (some (t122 == 0))) else (some false))) else (some false))) else (some false))) else (some false))) = some r := h
  clear h
  replace H := Option.bind_eq_some_iff.mp H
  obtain ⟨t118, A10, H⟩ := H
  replace H : (if t118.toList = ([65, 85, 84, 81] : List UInt8) then ((kinds_OfMti.f (⟨#[50, 49, 49, 48]⟩ : ByteArray)).bind fun t119 => (if t119 = 2 then ((kinds_Answer.f 7).bind fun t120 => (if t120 = 8 then ((kinds_Money.f 3).bind fun t121 => (if t121 = true then ((kinds_Fits.f 9 0 (⟨#[]⟩ : ByteArray) (⟨#[]⟩ : ByteArray) (⟨#[]⟩ : ByteArray) (⟨#[]⟩ : ByteArray) 0 (⟨#[]⟩ : ByteArray) (⟨#[]⟩ : ByteArray) (⟨#[]⟩ : ByteArray) (⟨#[]⟩ : ByteArray) 0 (⟨#[]⟩ : ByteArray) (⟨#[]⟩ : ByteArray) 0 (⟨#[]⟩ : ByteArray) ([] : List (S51)) (⟨#[]⟩ : ByteArray) (⟨#[]⟩ : ByteArray) ([] : List (S53)) ([] : List (S55))).bind fun t122 => (some (t122 == 0))) else (some false))) else (some false))) else (some false))) else (some false)) = some r := H
  have A1 := Aside0.mk A10
  clear A10
  by_cases c2 : t118.toList = ([65, 85, 84, 81] : List UInt8)
  · rw [if_pos c2] at H
    have c2b0 : (t118.toList == ([65, 85, 84, 81] : List UInt8)) = true := beq_iff_eq.mpr c2
    have c2b1 : (t118.toList != ([65, 85, 84, 81] : List UInt8)) = false := bne_eq_false_iff_eq.mpr c2
    clear c2
    replace H := Option.bind_eq_some_iff.mp H
    obtain ⟨t119, A30, H⟩ := H
    replace H : (if t119 = 2 then ((kinds_Answer.f 7).bind fun t120 => (if t120 = 8 then ((kinds_Money.f 3).bind fun t121 => (if t121 = true then ((kinds_Fits.f 9 0 (⟨#[]⟩ : ByteArray) (⟨#[]⟩ : ByteArray) (⟨#[]⟩ : ByteArray) (⟨#[]⟩ : ByteArray) 0 (⟨#[]⟩ : ByteArray) (⟨#[]⟩ : ByteArray) (⟨#[]⟩ : ByteArray) (⟨#[]⟩ : ByteArray) 0 (⟨#[]⟩ : ByteArray) (⟨#[]⟩ : ByteArray) 0 (⟨#[]⟩ : ByteArray) ([] : List (S51)) (⟨#[]⟩ : ByteArray) (⟨#[]⟩ : ByteArray) ([] : List (S53)) ([] : List (S55))).bind fun t122 => (some (t122 == 0))) else (some false))) else (some false))) else (some false)) = some r := H
    have A3 := Aside0.mk A30
    clear A30
    by_cases c4 : t119 = 2
    · rw [if_pos c4] at H
      have c4b0 : (t119 == 2) = true := beq_iff_eq.mpr c4
      have c4b1 : (t119 != 2) = false := bne_eq_false_iff_eq.mpr c4
      clear c4
      replace H := Option.bind_eq_some_iff.mp H
      obtain ⟨t120, A50, H⟩ := H
      replace H : (if t120 = 8 then ((kinds_Money.f 3).bind fun t121 => (if t121 = true then ((kinds_Fits.f 9 0 (⟨#[]⟩ : ByteArray) (⟨#[]⟩ : ByteArray) (⟨#[]⟩ : ByteArray) (⟨#[]⟩ : ByteArray) 0 (⟨#[]⟩ : ByteArray) (⟨#[]⟩ : ByteArray) (⟨#[]⟩ : ByteArray) (⟨#[]⟩ : ByteArray) 0 (⟨#[]⟩ : ByteArray) (⟨#[]⟩ : ByteArray) 0 (⟨#[]⟩ : ByteArray) ([] : List (S51)) (⟨#[]⟩ : ByteArray) (⟨#[]⟩ : ByteArray) ([] : List (S53)) ([] : List (S55))).bind fun t122 => (some (t122 == 0))) else (some false))) else (some false)) = some r := H
      have A5 := Aside0.mk A50
      clear A50
      by_cases c6 : t120 = 8
      · rw [if_pos c6] at H
        have c6b0 : (t120 == 8) = true := beq_iff_eq.mpr c6
        have c6b1 : (t120 != 8) = false := bne_eq_false_iff_eq.mpr c6
        clear c6
        replace H := Option.bind_eq_some_iff.mp H
        obtain ⟨t121, A70, H⟩ := H
        replace H : (if t121 = true then ((kinds_Fits.f 9 0 (⟨#[]⟩ : ByteArray) (⟨#[]⟩ : ByteArray) (⟨#[]⟩ : ByteArray) (⟨#[]⟩ : ByteArray) 0 (⟨#[]⟩ : ByteArray) (⟨#[]⟩ : ByteArray) (⟨#[]⟩ : ByteArray) (⟨#[]⟩ : ByteArray) 0 (⟨#[]⟩ : ByteArray) (⟨#[]⟩ : ByteArray) 0 (⟨#[]⟩ : ByteArray) ([] : List (S51)) (⟨#[]⟩ : ByteArray) (⟨#[]⟩ : ByteArray) ([] : List (S53)) ([] : List (S55))).bind fun t122 => (some (t122 == 0))) else (some false)) = some r := H
        have A7 := Aside0.mk A70
        clear A70
        by_cases c8 : t121 = true
        · subst c8
          have H1 : ((kinds_Fits.f 9 0 (⟨#[]⟩ : ByteArray) (⟨#[]⟩ : ByteArray) (⟨#[]⟩ : ByteArray) (⟨#[]⟩ : ByteArray) 0 (⟨#[]⟩ : ByteArray) (⟨#[]⟩ : ByteArray) (⟨#[]⟩ : ByteArray) (⟨#[]⟩ : ByteArray) 0 (⟨#[]⟩ : ByteArray) (⟨#[]⟩ : ByteArray) 0 (⟨#[]⟩ : ByteArray) ([] : List (S51)) (⟨#[]⟩ : ByteArray) (⟨#[]⟩ : ByteArray) ([] : List (S53)) ([] : List (S55))).bind fun t122 => (some (t122 == 0))) = some r := by rw [if_pos rfl] at H; exact H
          clear H
          have H := H1
          clear H1
          replace H := Option.bind_eq_some_iff.mp H
          obtain ⟨t122, A90, H⟩ := H
          replace H : (some (t122 == 0)) = some r := H
          have A9 := Aside0.mk A90
          clear A90
          obtain rfl := Option.some.inj H
          simp only [Option.some.injEq, Prod.mk.injEq] at H
          obtain ⟨rfl⟩ := H
          go_enter Try.func9, Try.ntmps9
          go_wp2_with (first | ((with_reducible refine gate_callee (f := 19) rfl ?_); refine goesL_ (some 1) rfl rfl Try.func19 (by kernel_rfl) rfl #[.int .i64 1] rfl (by (try simp only [List.map_toArray, List.map_cons, List.map_nil]); first | done | rfl | (simp only [List.length_drop, List.length_take]; rfl)) ?_; (with_reducible refine (kinds_Code.calls 1 t118 _ A1.out).mono ?_); rintro e w10 ⟨rfl, hb⟩; refine ⟨_, rfl, ?_⟩; have n0_ := Aside0.mk (below_step (by repeat (first | (with_reducible first | exact HB.out | apply below_alloc | apply pw_below_drewN | apply below_drew1) | exact HB.out)) hb); clear HB; have HB := n0_; clear n0_; (try clear hb); (try clear hb2); (try clear hk); (try clear hi)) | (go_at_call 24; (with_reducible refine (kinds_OfMti.calls (⟨#[50, 49, 49, 48]⟩ : ByteArray) t119 _ A3.out).mono ?_); rintro e w11 ⟨rfl, hb⟩; have n0_ := Aside0.mk (below_step (by repeat (first | (with_reducible first | exact HB.out | apply below_alloc | apply pw_below_drewN | apply below_drew1) | exact HB.out)) hb); clear HB; have HB := n0_; clear n0_; (try clear hb); (try clear hb2); (try clear hk); (try clear hi)) | (go_at_call 16; (with_reducible refine (kinds_Answer.calls 7 t120 _ A5.out).mono ?_); rintro e w' ⟨rfl, ⟨nd, rfl⟩⟩) | (go_at_call 17; (with_reducible refine (kinds_Money.calls 3 true _ A7.out).mono ?_); rintro e w' ⟨rfl, ⟨nd, rfl⟩⟩) | (go_at_call 12; (refine (kinds_Fits.calls 9 0 (⟨#[]⟩ : ByteArray) (⟨#[]⟩ : ByteArray) (⟨#[]⟩ : ByteArray) (⟨#[]⟩ : ByteArray) 0 (⟨#[]⟩ : ByteArray) (⟨#[]⟩ : ByteArray) (⟨#[]⟩ : ByteArray) (⟨#[]⟩ : ByteArray) 0 (⟨#[]⟩ : ByteArray) (⟨#[]⟩ : ByteArray) 0 (⟨#[]⟩ : ByteArray) _ _ ([] : List (S51)) (⟨#[]⟩ : ByteArray) (⟨#[]⟩ : ByteArray) _ _ ([] : List (S53)) _ _ ([] : List (S55)) t122 _ ?side1 ?side2 ?side3 ?side4 ?side5 ?side6 A9.out).mono ?_); (case side1 => exact Kd.C_nil _ _); (case side2 => exact Nat.le_refl _); (case side3 => exact Kd.C_nil _ _); (case side4 => exact Nat.le_refl _); (case side5 => exact Kd.C_nil _ _); (case side6 => exact Nat.le_refl _); rintro e w12 ⟨rfl, hb⟩; have n0_ := Aside0.mk (below_step (by repeat (first | (with_reducible first | exact HB.out | apply below_alloc | apply pw_below_drewN | apply below_drew1) | exact HB.out)) hb); clear HB; have HB := n0_; clear n0_; (try clear hb); (try clear hb2); (try clear hk); (try clear hi)))
          go_ret
          exact ⟨by first | rfl | (simp [errW_none, errW_some] <;> rfl) | (simp [*, errW_none, errW_some] <;> rfl), by repeat (first | (with_reducible first | exact HB.out | apply below_alloc | apply pw_below_drewN | apply below_drew1) | exact HB.out)⟩
        · replace c8 := Bool.eq_false_iff.mpr c8
          subst c8
          have H1 : (some false) = some r := by rw [if_neg (show ¬ (false = true) by decide)] at H; exact H
          clear H
          have H := H1
          clear H1
          obtain rfl := Option.some.inj H
          simp only [Option.some.injEq, Prod.mk.injEq] at H
          obtain ⟨rfl⟩ := H
          go_enter Try.func9, Try.ntmps9
          go_wp2_with (first | ((with_reducible refine gate_callee (f := 19) rfl ?_); refine goesL_ (some 1) rfl rfl Try.func19 (by kernel_rfl) rfl #[.int .i64 1] rfl (by (try simp only [List.map_toArray, List.map_cons, List.map_nil]); first | done | rfl | (simp only [List.length_drop, List.length_take]; rfl)) ?_; (with_reducible refine (kinds_Code.calls 1 t118 _ A1.out).mono ?_); rintro e w13 ⟨rfl, hb⟩; refine ⟨_, rfl, ?_⟩; have n0_ := Aside0.mk (below_step (by repeat (first | (with_reducible first | exact HB.out | apply below_alloc | apply pw_below_drewN | apply below_drew1) | exact HB.out)) hb); clear HB; have HB := n0_; clear n0_; (try clear hb); (try clear hb2); (try clear hk); (try clear hi)) | (go_at_call 24; (with_reducible refine (kinds_OfMti.calls (⟨#[50, 49, 49, 48]⟩ : ByteArray) t119 _ A3.out).mono ?_); rintro e w14 ⟨rfl, hb⟩; have n0_ := Aside0.mk (below_step (by repeat (first | (with_reducible first | exact HB.out | apply below_alloc | apply pw_below_drewN | apply below_drew1) | exact HB.out)) hb); clear HB; have HB := n0_; clear n0_; (try clear hb); (try clear hb2); (try clear hk); (try clear hi)) | (go_at_call 16; (with_reducible refine (kinds_Answer.calls 7 t120 _ A5.out).mono ?_); rintro e w' ⟨rfl, ⟨nd, rfl⟩⟩) | (go_at_call 17; (with_reducible refine (kinds_Money.calls 3 false _ A7.out).mono ?_); rintro e w' ⟨rfl, ⟨nd, rfl⟩⟩))
          go_ret
          exact ⟨by first | rfl | (simp [errW_none, errW_some] <;> rfl) | (simp [*, errW_none, errW_some] <;> rfl), by repeat (first | (with_reducible first | exact HB.out | apply below_alloc | apply pw_below_drewN | apply below_drew1) | exact HB.out)⟩
      · rw [if_neg c6] at H
        have c6b0 : (t120 == 8) = false := beq_eq_false_iff_ne.mpr c6
        have c6b1 : (t120 != 8) = true := bne_iff_ne.mpr c6
        obtain rfl := Option.some.inj H
        simp only [Option.some.injEq, Prod.mk.injEq] at H
        obtain ⟨rfl⟩ := H
        go_enter Try.func9, Try.ntmps9
        go_wp2_with (first | ((with_reducible refine gate_callee (f := 19) rfl ?_); refine goesL_ (some 1) rfl rfl Try.func19 (by kernel_rfl) rfl #[.int .i64 1] rfl (by (try simp only [List.map_toArray, List.map_cons, List.map_nil]); first | done | rfl | (simp only [List.length_drop, List.length_take]; rfl)) ?_; (with_reducible refine (kinds_Code.calls 1 t118 _ A1.out).mono ?_); rintro e w15 ⟨rfl, hb⟩; refine ⟨_, rfl, ?_⟩; have n0_ := Aside0.mk (below_step (by repeat (first | (with_reducible first | exact HB.out | apply below_alloc | apply pw_below_drewN | apply below_drew1) | exact HB.out)) hb); clear HB; have HB := n0_; clear n0_; (try clear hb); (try clear hb2); (try clear hk); (try clear hi)) | (go_at_call 24; (with_reducible refine (kinds_OfMti.calls (⟨#[50, 49, 49, 48]⟩ : ByteArray) t119 _ A3.out).mono ?_); rintro e w16 ⟨rfl, hb⟩; have n0_ := Aside0.mk (below_step (by repeat (first | (with_reducible first | exact HB.out | apply below_alloc | apply pw_below_drewN | apply below_drew1) | exact HB.out)) hb); clear HB; have HB := n0_; clear n0_; (try clear hb); (try clear hb2); (try clear hk); (try clear hi)) | (go_at_call 16; (with_reducible refine (kinds_Answer.calls 7 t120 _ A5.out).mono ?_); rintro e w' ⟨rfl, ⟨nd, rfl⟩⟩))
        go_ret
        exact ⟨by first | rfl | (simp [errW_none, errW_some] <;> rfl) | (simp [*, errW_none, errW_some] <;> rfl), by repeat (first | (with_reducible first | exact HB.out | apply below_alloc | apply pw_below_drewN | apply below_drew1) | exact HB.out)⟩
    · rw [if_neg c4] at H
      have c4b0 : (t119 == 2) = false := beq_eq_false_iff_ne.mpr c4
      have c4b1 : (t119 != 2) = true := bne_iff_ne.mpr c4
      obtain rfl := Option.some.inj H
      simp only [Option.some.injEq, Prod.mk.injEq] at H
      obtain ⟨rfl⟩ := H
      go_enter Try.func9, Try.ntmps9
      go_wp2_with (first | ((with_reducible refine gate_callee (f := 19) rfl ?_); refine goesL_ (some 1) rfl rfl Try.func19 (by kernel_rfl) rfl #[.int .i64 1] rfl (by (try simp only [List.map_toArray, List.map_cons, List.map_nil]); first | done | rfl | (simp only [List.length_drop, List.length_take]; rfl)) ?_; (with_reducible refine (kinds_Code.calls 1 t118 _ A1.out).mono ?_); rintro e w17 ⟨rfl, hb⟩; refine ⟨_, rfl, ?_⟩; have n0_ := Aside0.mk (below_step (by repeat (first | (with_reducible first | exact HB.out | apply below_alloc | apply pw_below_drewN | apply below_drew1) | exact HB.out)) hb); clear HB; have HB := n0_; clear n0_; (try clear hb); (try clear hb2); (try clear hk); (try clear hi)) | (go_at_call 24; (with_reducible refine (kinds_OfMti.calls (⟨#[50, 49, 49, 48]⟩ : ByteArray) t119 _ A3.out).mono ?_); rintro e w18 ⟨rfl, hb⟩; have n0_ := Aside0.mk (below_step (by repeat (first | (with_reducible first | exact HB.out | apply below_alloc | apply pw_below_drewN | apply below_drew1) | exact HB.out)) hb); clear HB; have HB := n0_; clear n0_; (try clear hb); (try clear hb2); (try clear hk); (try clear hi)))
      go_ret
      exact ⟨by first | rfl | (simp [errW_none, errW_some] <;> rfl) | (simp [*, errW_none, errW_some] <;> rfl), by repeat (first | (with_reducible first | exact HB.out | apply below_alloc | apply pw_below_drewN | apply below_drew1) | exact HB.out)⟩
  · rw [if_neg c2] at H
    have c2b0 : (t118.toList == ([65, 85, 84, 81] : List UInt8)) = false := beq_eq_false_iff_ne.mpr c2
    have c2b1 : (t118.toList != ([65, 85, 84, 81] : List UInt8)) = true := bne_iff_ne.mpr c2
    obtain rfl := Option.some.inj H
    simp only [Option.some.injEq, Prod.mk.injEq] at H
    obtain ⟨rfl⟩ := H
    go_enter Try.func9, Try.ntmps9
    go_wp2_with (first | ((with_reducible refine gate_callee (f := 19) rfl ?_); refine goesL_ (some 1) rfl rfl Try.func19 (by kernel_rfl) rfl #[.int .i64 1] rfl (by (try simp only [List.map_toArray, List.map_cons, List.map_nil]); first | done | rfl | (simp only [List.length_drop, List.length_take]; rfl)) ?_; (with_reducible refine (kinds_Code.calls 1 t118 _ A1.out).mono ?_); rintro e w19 ⟨rfl, hb⟩; refine ⟨_, rfl, ?_⟩; have n0_ := Aside0.mk (below_step (by repeat (first | (with_reducible first | exact HB.out | apply below_alloc | apply pw_below_drewN | apply below_drew1) | exact HB.out)) hb); clear HB; have HB := n0_; clear n0_; (try clear hb); (try clear hb2); (try clear hk); (try clear hi)))
    go_ret
    exact ⟨by first | rfl | (simp [errW_none, errW_some] <;> rfl) | (simp [*, errW_none, errW_some] <;> rfl), by repeat (first | (with_reducible first | exact HB.out | apply below_alloc | apply pw_below_drewN | apply below_drew1) | exact HB.out)⟩

/-! ### comptoirlaw11_KindsAnswers: function 5 -/
def comptoirlaw11_KindsAnswers.j0 : Nat → Int → Int → Bool → Option (Bool)
  | 0, _, _, _ => none
  | k + 1, x0, x3, x4 => (comptoirlaw11_awake.f).bind fun t124 => (if t124 = true then (if ((x3 == (wrap64 (x0 + 1))) == x4) = true then (if ((x3 == 0) == (!x4)) = true then ((kinds_Money.f x0).bind fun t125 => (if x0 = 1 then (if (t125 == true) = true then ((kinds_Code.f x0).bind fun t126 => ((kinds_OfCode.f t126).bind fun t127 => (if x0 ≥ 0 then (some ((t127 == x0) == (decide (x0 ≤ 11)))) else (some ((t127 == x0) == false))))) else (some false)) else (if (t125 == (x0 == 3)) = true then ((kinds_Code.f x0).bind fun t128 => ((kinds_OfCode.f t128).bind fun t129 => (if x0 ≥ 0 then (some ((t129 == x0) == (decide (x0 ≤ 11)))) else (some ((t129 == x0) == false))))) else (some false)))) else (some false)) else (some false)) else (some false))
def comptoirlaw11_KindsAnswers.f (k : Nat) (a0 : Int) : Option (Bool) := (kinds_Answer.f (wrap64 (Int.tmod (IntKind.u64.wrap (a0)) 14))).bind fun t123 => (if (wrap64 (Int.tmod (IntKind.u64.wrap (a0)) 14)) ≥ 1 then (if (wrap64 (Int.tmod (IntKind.u64.wrap (a0)) 14)) ≤ 9 then (comptoirlaw11_KindsAnswers.j0 k (wrap64 (Int.tmod (IntKind.u64.wrap (a0)) 14)) t123 ((Int.tmod (wrap64 (Int.tmod (IntKind.u64.wrap (a0)) 14)) 2) == 1)) else (comptoirlaw11_KindsAnswers.j0 k (wrap64 (Int.tmod (IntKind.u64.wrap (a0)) 14)) t123 false)) else (comptoirlaw11_KindsAnswers.j0 k (wrap64 (Int.tmod (IntKind.u64.wrap (a0)) 14)) t123 false))
theorem comptoirlaw11_KindsAnswers.mono_l : ∀ k, (∀ y0 y1 y2, LeO (comptoirlaw11_KindsAnswers.j0 k y0 y1 y2) (comptoirlaw11_KindsAnswers.j0 (k + 1) y0 y1 y2))
  | 0 => fun _ _ _ r h => by simp [comptoirlaw11_KindsAnswers.j0] at h
  | k + 1 => by
    have ih0 := comptoirlaw11_KindsAnswers.mono_l k
    · intro y0 y1 y2
      unfold comptoirlaw11_KindsAnswers.j0
      repeat' first
      | (with_reducible exact ih0 _ _ _)
      | (with_reducible exact LeO.refl _)
      | (with_reducible exact LeO.none _)
      | (with_reducible refine LeO.ite ?_ ?_)
      | (with_reducible refine LeO.bind ?_ (fun _ => ?_))
      | exact ih0 _ _ _
      | exact LeO.none _
      | refine LeO.ite ?_ ?_
      | refine LeO.bind ?_ (fun _ => ?_)
theorem comptoirlaw11_KindsAnswers.mono : ∀ a0 k, LeO (comptoirlaw11_KindsAnswers.f k a0) (comptoirlaw11_KindsAnswers.f (k + 1) a0) := by
  intro a0 k
  have ih0 := comptoirlaw11_KindsAnswers.mono_l k
  unfold comptoirlaw11_KindsAnswers.f
  repeat' first
      | (with_reducible exact ih0 _ _ _)
      | (with_reducible exact LeO.refl _)
      | (with_reducible exact LeO.none _)
      | (with_reducible refine LeO.ite ?_ ?_)
      | (with_reducible refine LeO.bind ?_ (fun _ => ?_))
      | exact ih0 _ _ _
      | exact LeO.none _
      | refine LeO.ite ?_ ?_
      | refine LeO.bind ?_ (fun _ => ?_)
set_option maxHeartbeats 8000000 in
set_option maxRecDepth 100000 in
theorem comptoirlaw11_KindsAnswers.calls (k : Nat) (a0 : Int) (r : Bool) (ht_ : r = true) (w : World) (h : comptoirlaw11_KindsAnswers.f k a0 = some r) :
    Calls Try.prog 5 #[.int .i64 a0] w fun e w' => e = .returned (.bool r) ∧ Below w.heap.size w w' := by
  have HT_ := Aside0.mk ht_
  clear ht_
  have HB := Aside0.mk (Below.refl w.heap.size w)
  have H : ((kinds_Answer.f (wrap64 (Int.tmod (IntKind.u64.wrap (a0)) 14))).bind fun t123 => (if (wrap64 (Int.tmod (IntKind.u64.wrap (a0)) 14)) ≥ 1 then (if (wrap64 (Int.tmod (IntKind.u64.wrap (a0)) 14)) ≤ 9 then (comptoirlaw11_KindsAnswers.j0 k (wrap64 (Int.tmod (IntKind.u64.wrap (a0)) 14)) t123 ((Int.tmod (wrap64 (Int.tmod (IntKind.u64.wrap (a0)) 14)) 2) == 1)) else (comptoirlaw11_KindsAnswers.j0 k (wrap64 (Int.tmod (IntKind.u64.wrap (a0)) 14)) t123 false)) else (comptoirlaw11_KindsAnswers.j0 k (wrap64 (Int.tmod (IntKind.u64.wrap (a0)) 14)) t123 false))) = some r := h
  clear h
  replace H := Option.bind_eq_some_iff.mp H
  obtain ⟨t123, A20, H⟩ := H
  replace H : (if (wrap64 (Int.tmod (IntKind.u64.wrap (a0)) 14)) ≥ 1 then (if (wrap64 (Int.tmod (IntKind.u64.wrap (a0)) 14)) ≤ 9 then (comptoirlaw11_KindsAnswers.j0 k (wrap64 (Int.tmod (IntKind.u64.wrap (a0)) 14)) t123 ((Int.tmod (wrap64 (Int.tmod (IntKind.u64.wrap (a0)) 14)) 2) == 1)) else (comptoirlaw11_KindsAnswers.j0 k (wrap64 (Int.tmod (IntKind.u64.wrap (a0)) 14)) t123 false)) else (comptoirlaw11_KindsAnswers.j0 k (wrap64 (Int.tmod (IntKind.u64.wrap (a0)) 14)) t123 false)) = some r := H
  have A2 := Aside0.mk A20
  clear A20
  have HC3 := Aside0.mk H
  clear H
  go_enter Try.func5, Try.ntmps5
  go_upto_region 3 with (first | ((with_reducible refine gate_callee (f := 16) rfl ?_); refine goesL_ (some 10) rfl rfl Try.func16 (by kernel_rfl) rfl #[.int .i64 (wrap64 (Int.tmod (IntKind.u64.wrap (a0)) 14))] rfl (by (try simp only [List.map_toArray, List.map_cons, List.map_nil]); first | done | rfl | (simp only [List.length_drop, List.length_take]; rfl)) ?_; (with_reducible refine (kinds_Answer.calls (wrap64 (Int.tmod (IntKind.u64.wrap (a0)) 14)) t123 _ A2.out).mono ?_); rintro e w' ⟨rfl, ⟨nd, rfl⟩⟩; refine ⟨_, rfl, ?_⟩))
  (try simp only [Act.put, List.setIfInBounds_toArray, List.set_cons_zero, List.set_cons_succ])
  go_cut [4] (fun v4 wc => ∃ (kq : Nat) (x4_2 : Bool), v4 = .bool x4_2 ∧ Aside0 (comptoirlaw11_KindsAnswers.j0 kq (wrap64 (Int.tmod (IntKind.u64.wrap (a0)) 14)) t123 x4_2 = some r) ∧ Aside0 (kq ≤ k) ∧ Aside0 (Below w.heap.size w wc))
  case first =>
    have H := HC3.out
    clear HC3
    by_cases c4 : (wrap64 (Int.tmod (IntKind.u64.wrap (a0)) 14)) ≥ 1
    · rw [if_pos c4] at H
      have c4b0 : decide (1 ≤ (wrap64 (Int.tmod (IntKind.u64.wrap (a0)) 14))) = true := decide_eq_true c4
      clear c4
      (first | rw [c4b0] | (simp only [i64_w, i32_w]; rw [c4b0]) | skip)
      by_cases c5 : (wrap64 (Int.tmod (IntKind.u64.wrap (a0)) 14)) ≤ 9
      · rw [if_pos c5] at H
        have c5b0 : decide ((wrap64 (Int.tmod (IntKind.u64.wrap (a0)) 14)) ≤ 9) = true := decide_eq_true c5
        clear c5
        have H' := Aside0.mk H
        clear H
        go_wp2
        go_meet
        case rel => exact ⟨_, (((Int.tmod (wrap64 (Int.tmod (IntKind.u64.wrap (a0)) 14)) 2) == 1)), (by first | rfl | (simp; done) | (simp [*]; done)), H', ⟨by first | omega | exact Nat.le_refl _⟩, ⟨by repeat (first | (with_reducible first | exact HB.out | apply below_alloc | apply pw_below_drewN | apply below_drew1) | exact HB.out)⟩⟩
      · rw [if_neg c5] at H
        have c5b0 : decide ((wrap64 (Int.tmod (IntKind.u64.wrap (a0)) 14)) ≤ 9) = false := decide_eq_false c5
        clear c5
        have H' := Aside0.mk H
        clear H
        go_wp2
        go_meet
        case rel => exact ⟨_, (false), (by first | rfl | (simp; done) | (simp [*]; done)), H', ⟨by first | omega | exact Nat.le_refl _⟩, ⟨by repeat (first | (with_reducible first | exact HB.out | apply below_alloc | apply pw_below_drewN | apply below_drew1) | exact HB.out)⟩⟩
    · rw [if_neg c4] at H
      have c4b0 : decide (1 ≤ (wrap64 (Int.tmod (IntKind.u64.wrap (a0)) 14))) = false := decide_eq_false c4
      clear c4
      (first | rw [c4b0] | (simp only [i64_w, i32_w]; rw [c4b0]) | skip)
      have H' := Aside0.mk H
      clear H
      go_wp2
      go_meet
      case rel => exact ⟨_, (false), (by first | rfl | (simp; done) | (simp [*]; done)), H', ⟨by first | omega | exact Nat.le_refl _⟩, ⟨by repeat (first | (with_reducible first | exact HB.out | apply below_alloc | apply pw_below_drewN | apply below_drew1) | exact HB.out)⟩⟩
  case rest =>
    clear HC3
    try clear c1
    try clear p2
    try clear c4
    try clear c4b0
    try clear c5
    try clear c5b0
    obtain ⟨kq, x4_2, rfl, HA, HJ2, HB⟩ := hcut
    cases kq with
    | zero => exact absurd HA.out (by simp [comptoirlaw11_KindsAnswers.j0])
    | succ kj2 =>
      have H := HA.out
      clear HA
      simp only [comptoirlaw11_KindsAnswers.j0] at H
      replace H := Option.bind_eq_some_iff.mp H
      obtain ⟨t124, A60, H⟩ := H
      replace H : (if t124 = true then (if ((t123 == (wrap64 ((wrap64 (Int.tmod (IntKind.u64.wrap (a0)) 14)) + 1))) == x4_2) = true then (if ((t123 == 0) == (!x4_2)) = true then ((kinds_Money.f (wrap64 (Int.tmod (IntKind.u64.wrap (a0)) 14))).bind fun t125 => (if (wrap64 (Int.tmod (IntKind.u64.wrap (a0)) 14)) = 1 then (if (t125 == true) = true then ((kinds_Code.f (wrap64 (Int.tmod (IntKind.u64.wrap (a0)) 14))).bind fun t126 => ((kinds_OfCode.f t126).bind fun t127 => (if (wrap64 (Int.tmod (IntKind.u64.wrap (a0)) 14)) ≥ 0 then (some ((t127 == (wrap64 (Int.tmod (IntKind.u64.wrap (a0)) 14))) == (decide ((wrap64 (Int.tmod (IntKind.u64.wrap (a0)) 14)) ≤ 11)))) else (some ((t127 == (wrap64 (Int.tmod (IntKind.u64.wrap (a0)) 14))) == false))))) else (some false)) else (if (t125 == ((wrap64 (Int.tmod (IntKind.u64.wrap (a0)) 14)) == 3)) = true then ((kinds_Code.f (wrap64 (Int.tmod (IntKind.u64.wrap (a0)) 14))).bind fun t128 => ((kinds_OfCode.f t128).bind fun t129 => (if (wrap64 (Int.tmod (IntKind.u64.wrap (a0)) 14)) ≥ 0 then (some ((t129 == (wrap64 (Int.tmod (IntKind.u64.wrap (a0)) 14))) == (decide ((wrap64 (Int.tmod (IntKind.u64.wrap (a0)) 14)) ≤ 11)))) else (some ((t129 == (wrap64 (Int.tmod (IntKind.u64.wrap (a0)) 14))) == false))))) else (some false)))) else (some false)) else (some false)) else (some false)) = some r := H
      have A6 := Aside0.mk A60
      clear A60
      by_cases c7 : t124 = true
      · subst c7
        have H1 : (if ((t123 == (wrap64 ((wrap64 (Int.tmod (IntKind.u64.wrap (a0)) 14)) + 1))) == x4_2) = true then (if ((t123 == 0) == (!x4_2)) = true then ((kinds_Money.f (wrap64 (Int.tmod (IntKind.u64.wrap (a0)) 14))).bind fun t125 => (if (wrap64 (Int.tmod (IntKind.u64.wrap (a0)) 14)) = 1 then (if (t125 == true) = true then ((kinds_Code.f (wrap64 (Int.tmod (IntKind.u64.wrap (a0)) 14))).bind fun t126 => ((kinds_OfCode.f t126).bind fun t127 => (if (wrap64 (Int.tmod (IntKind.u64.wrap (a0)) 14)) ≥ 0 then (some ((t127 == (wrap64 (Int.tmod (IntKind.u64.wrap (a0)) 14))) == (decide ((wrap64 (Int.tmod (IntKind.u64.wrap (a0)) 14)) ≤ 11)))) else (some ((t127 == (wrap64 (Int.tmod (IntKind.u64.wrap (a0)) 14))) == false))))) else (some false)) else (if (t125 == ((wrap64 (Int.tmod (IntKind.u64.wrap (a0)) 14)) == 3)) = true then ((kinds_Code.f (wrap64 (Int.tmod (IntKind.u64.wrap (a0)) 14))).bind fun t128 => ((kinds_OfCode.f t128).bind fun t129 => (if (wrap64 (Int.tmod (IntKind.u64.wrap (a0)) 14)) ≥ 0 then (some ((t129 == (wrap64 (Int.tmod (IntKind.u64.wrap (a0)) 14))) == (decide ((wrap64 (Int.tmod (IntKind.u64.wrap (a0)) 14)) ≤ 11)))) else (some ((t129 == (wrap64 (Int.tmod (IntKind.u64.wrap (a0)) 14))) == false))))) else (some false)))) else (some false)) else (some false)) = some r := by rw [if_pos rfl] at H; exact H
        clear H
        have H := H1
        clear H1
        by_cases c8 : ((t123 == (wrap64 ((wrap64 (Int.tmod (IntKind.u64.wrap (a0)) 14)) + 1))) == x4_2) = true
        · rw [if_pos c8] at H
          have c8b0 : ((t123 == (wrap64 ((wrap64 (Int.tmod (IntKind.u64.wrap (a0)) 14)) + 1))) == x4_2) = true := c8
          (try (have c8b1 : decide ((t123 == (wrap64 ((wrap64 (Int.tmod (IntKind.u64.wrap (a0)) 14)) + 1))) = x4_2) = true := by simpa using c8))
          (try (have c8b2 : ((t123 == (wrap64 ((wrap64 (Int.tmod (IntKind.u64.wrap (a0)) 14)) + 1))) == x4_2) = true := by simpa using c8))
          clear c8
          by_cases c9 : ((t123 == 0) == (!x4_2)) = true
          · rw [if_pos c9] at H
            have c9b0 : ((t123 == 0) == (!x4_2)) = true := c9
            (try (have c9b1 : decide ((t123 == 0) = (!x4_2)) = true := by simpa using c9))
            (try (have c9b2 : ((t123 == 0) == (!x4_2)) = true := by simpa using c9))
            clear c9
            replace H := Option.bind_eq_some_iff.mp H
            obtain ⟨t125, A100, H⟩ := H
            replace H : (if (wrap64 (Int.tmod (IntKind.u64.wrap (a0)) 14)) = 1 then (if (t125 == true) = true then ((kinds_Code.f (wrap64 (Int.tmod (IntKind.u64.wrap (a0)) 14))).bind fun t126 => ((kinds_OfCode.f t126).bind fun t127 => (if (wrap64 (Int.tmod (IntKind.u64.wrap (a0)) 14)) ≥ 0 then (some ((t127 == (wrap64 (Int.tmod (IntKind.u64.wrap (a0)) 14))) == (decide ((wrap64 (Int.tmod (IntKind.u64.wrap (a0)) 14)) ≤ 11)))) else (some ((t127 == (wrap64 (Int.tmod (IntKind.u64.wrap (a0)) 14))) == false))))) else (some false)) else (if (t125 == ((wrap64 (Int.tmod (IntKind.u64.wrap (a0)) 14)) == 3)) = true then ((kinds_Code.f (wrap64 (Int.tmod (IntKind.u64.wrap (a0)) 14))).bind fun t128 => ((kinds_OfCode.f t128).bind fun t129 => (if (wrap64 (Int.tmod (IntKind.u64.wrap (a0)) 14)) ≥ 0 then (some ((t129 == (wrap64 (Int.tmod (IntKind.u64.wrap (a0)) 14))) == (decide ((wrap64 (Int.tmod (IntKind.u64.wrap (a0)) 14)) ≤ 11)))) else (some ((t129 == (wrap64 (Int.tmod (IntKind.u64.wrap (a0)) 14))) == false))))) else (some false))) = some r := H
            have A10 := Aside0.mk A100
            clear A100
            by_cases c11 : (wrap64 (Int.tmod (IntKind.u64.wrap (a0)) 14)) = 1
            · rw [if_pos c11] at H
              have c11b0 : ((wrap64 (Int.tmod (IntKind.u64.wrap (a0)) 14)) == 1) = true := beq_iff_eq.mpr c11
              have c11b1 : ((wrap64 (Int.tmod (IntKind.u64.wrap (a0)) 14)) != 1) = false := bne_eq_false_iff_eq.mpr c11
              clear c11
              by_cases c12 : (t125 == true) = true
              · rw [if_pos c12] at H
                have c12b0 : (t125 == true) = true := c12
                (try (have c12b1 : decide (t125 = true) = true := by simpa using c12))
                (try (have c12b2 : (t125 == true) = true := by simpa using c12))
                clear c12
                replace H := Option.bind_eq_some_iff.mp H
                obtain ⟨t126, A130, H⟩ := H
                replace H : ((kinds_OfCode.f t126).bind fun t127 => (if (wrap64 (Int.tmod (IntKind.u64.wrap (a0)) 14)) ≥ 0 then (some ((t127 == (wrap64 (Int.tmod (IntKind.u64.wrap (a0)) 14))) == (decide ((wrap64 (Int.tmod (IntKind.u64.wrap (a0)) 14)) ≤ 11)))) else (some ((t127 == (wrap64 (Int.tmod (IntKind.u64.wrap (a0)) 14))) == false)))) = some r := H
                have A13 := Aside0.mk A130
                clear A130
                replace H := Option.bind_eq_some_iff.mp H
                obtain ⟨t127, A140, H⟩ := H
                replace H : (if (wrap64 (Int.tmod (IntKind.u64.wrap (a0)) 14)) ≥ 0 then (some ((t127 == (wrap64 (Int.tmod (IntKind.u64.wrap (a0)) 14))) == (decide ((wrap64 (Int.tmod (IntKind.u64.wrap (a0)) 14)) ≤ 11)))) else (some ((t127 == (wrap64 (Int.tmod (IntKind.u64.wrap (a0)) 14))) == false))) = some r := H
                have A14 := Aside0.mk A140
                clear A140
                by_cases c15 : (wrap64 (Int.tmod (IntKind.u64.wrap (a0)) 14)) ≥ 0
                · rw [if_pos c15] at H
                  have c15b0 : decide (0 ≤ (wrap64 (Int.tmod (IntKind.u64.wrap (a0)) 14))) = true := decide_eq_true c15
                  clear c15
                  obtain rfl := Option.some.inj H
                  simp only [Option.some.injEq, Prod.mk.injEq] at H
                  obtain ⟨rfl⟩ := H
                  go_wp2_with (first | ((with_reducible refine gate_callee (f := 9) rfl ?_); refine goesL_ (some 22) rfl rfl Try.func9 (by kernel_rfl) rfl #[] rfl (by (try simp only [List.map_toArray, List.map_cons, List.map_nil]); first | done | rfl | (simp only [List.length_drop, List.length_take]; rfl)) ?_; (with_reducible refine (comptoirlaw11_awake.calls  true _ A6.out).mono ?_); rintro e w16 ⟨rfl, hb⟩; refine ⟨_, rfl, ?_⟩; have n0_ := Aside0.mk (below_step (by repeat (first | (with_reducible first | exact HB.out | apply below_alloc | apply pw_below_drewN | apply below_drew1) | exact HB.out)) hb); clear HB; have HB := n0_; clear n0_; (try clear hb); (try clear hb2); (try clear hk); (try clear hi)) | (go_at_call 17; (with_reducible refine (kinds_Money.calls (wrap64 (Int.tmod (IntKind.u64.wrap (a0)) 14)) t125 _ A10.out).mono ?_); rintro e w' ⟨rfl, ⟨nd, rfl⟩⟩) | (go_at_call 19; (with_reducible refine (kinds_Code.calls (wrap64 (Int.tmod (IntKind.u64.wrap (a0)) 14)) t126 _ A13.out).mono ?_); rintro e w17 ⟨rfl, hb⟩; have n0_ := Aside0.mk (below_step (by repeat (first | (with_reducible first | exact HB.out | apply below_alloc | apply pw_below_drewN | apply below_drew1) | exact HB.out)) hb); clear HB; have HB := n0_; clear n0_; (try clear hb); (try clear hb2); (try clear hk); (try clear hi)) | (go_at_call 18; (with_reducible refine (kinds_OfCode.calls t126 t127 _ A14.out).mono ?_); rintro e w18 ⟨rfl, hb⟩; have n0_ := Aside0.mk (below_step (by repeat (first | (with_reducible first | exact HB.out | apply below_alloc | apply pw_below_drewN | apply below_drew1) | exact HB.out)) hb); clear HB; have HB := n0_; clear n0_; (try clear hb); (try clear hb2); (try clear hk); (try clear hi)))
                  go_ret
                  exact ⟨by first | rfl | (simp [errW_none, errW_some] <;> rfl) | (simp [*, errW_none, errW_some] <;> rfl), by repeat (first | (with_reducible first | exact HB.out | apply below_alloc | apply pw_below_drewN | apply below_drew1) | exact HB.out)⟩
                · rw [if_neg c15] at H
                  have c15b0 : decide (0 ≤ (wrap64 (Int.tmod (IntKind.u64.wrap (a0)) 14))) = false := decide_eq_false c15
                  clear c15
                  obtain rfl := Option.some.inj H
                  simp only [Option.some.injEq, Prod.mk.injEq] at H
                  obtain ⟨rfl⟩ := H
                  go_wp2_with (first | ((with_reducible refine gate_callee (f := 9) rfl ?_); refine goesL_ (some 22) rfl rfl Try.func9 (by kernel_rfl) rfl #[] rfl (by (try simp only [List.map_toArray, List.map_cons, List.map_nil]); first | done | rfl | (simp only [List.length_drop, List.length_take]; rfl)) ?_; (with_reducible refine (comptoirlaw11_awake.calls  true _ A6.out).mono ?_); rintro e w19 ⟨rfl, hb⟩; refine ⟨_, rfl, ?_⟩; have n0_ := Aside0.mk (below_step (by repeat (first | (with_reducible first | exact HB.out | apply below_alloc | apply pw_below_drewN | apply below_drew1) | exact HB.out)) hb); clear HB; have HB := n0_; clear n0_; (try clear hb); (try clear hb2); (try clear hk); (try clear hi)) | (go_at_call 17; (with_reducible refine (kinds_Money.calls (wrap64 (Int.tmod (IntKind.u64.wrap (a0)) 14)) t125 _ A10.out).mono ?_); rintro e w' ⟨rfl, ⟨nd, rfl⟩⟩) | (go_at_call 19; (with_reducible refine (kinds_Code.calls (wrap64 (Int.tmod (IntKind.u64.wrap (a0)) 14)) t126 _ A13.out).mono ?_); rintro e w20 ⟨rfl, hb⟩; have n0_ := Aside0.mk (below_step (by repeat (first | (with_reducible first | exact HB.out | apply below_alloc | apply pw_below_drewN | apply below_drew1) | exact HB.out)) hb); clear HB; have HB := n0_; clear n0_; (try clear hb); (try clear hb2); (try clear hk); (try clear hi)) | (go_at_call 18; (with_reducible refine (kinds_OfCode.calls t126 t127 _ A14.out).mono ?_); rintro e w21 ⟨rfl, hb⟩; have n0_ := Aside0.mk (below_step (by repeat (first | (with_reducible first | exact HB.out | apply below_alloc | apply pw_below_drewN | apply below_drew1) | exact HB.out)) hb); clear HB; have HB := n0_; clear n0_; (try clear hb); (try clear hb2); (try clear hk); (try clear hi)))
                  go_ret
                  exact ⟨by first | rfl | (simp [errW_none, errW_some] <;> rfl) | (simp [*, errW_none, errW_some] <;> rfl), by repeat (first | (with_reducible first | exact HB.out | apply below_alloc | apply pw_below_drewN | apply below_drew1) | exact HB.out)⟩
              · rw [if_neg c12] at H
                have c12b0 : (t125 == true) = false := by simpa using c12
                (try (have c12b1 : decide (t125 = true) = false := by simpa using c12))
                (try (have c12b2 : (t125 == true) = false := by simpa using c12))
                (try (have c12b3 : ¬ (t125 = true) := by simpa using c12))
                clear c12
                obtain rfl := Option.some.inj H
                exact absurd HT_.out (by decide)
            · rw [if_neg c11] at H
              have c11b0 : ((wrap64 (Int.tmod (IntKind.u64.wrap (a0)) 14)) == 1) = false := beq_eq_false_iff_ne.mpr c11
              have c11b1 : ((wrap64 (Int.tmod (IntKind.u64.wrap (a0)) 14)) != 1) = true := bne_iff_ne.mpr c11
              by_cases c22 : (t125 == ((wrap64 (Int.tmod (IntKind.u64.wrap (a0)) 14)) == 3)) = true
              · rw [if_pos c22] at H
                have c22b0 : (t125 == ((wrap64 (Int.tmod (IntKind.u64.wrap (a0)) 14)) == 3)) = true := c22
                (try (have c22b1 : decide (t125 = ((wrap64 (Int.tmod (IntKind.u64.wrap (a0)) 14)) == 3)) = true := by simpa using c22))
                (try (have c22b2 : (t125 == ((wrap64 (Int.tmod (IntKind.u64.wrap (a0)) 14)) == 3)) = true := by simpa using c22))
                clear c22
                replace H := Option.bind_eq_some_iff.mp H
                obtain ⟨t128, A230, H⟩ := H
                replace H : ((kinds_OfCode.f t128).bind fun t129 => (if (wrap64 (Int.tmod (IntKind.u64.wrap (a0)) 14)) ≥ 0 then (some ((t129 == (wrap64 (Int.tmod (IntKind.u64.wrap (a0)) 14))) == (decide ((wrap64 (Int.tmod (IntKind.u64.wrap (a0)) 14)) ≤ 11)))) else (some ((t129 == (wrap64 (Int.tmod (IntKind.u64.wrap (a0)) 14))) == false)))) = some r := H
                have A23 := Aside0.mk A230
                clear A230
                replace H := Option.bind_eq_some_iff.mp H
                obtain ⟨t129, A240, H⟩ := H
                replace H : (if (wrap64 (Int.tmod (IntKind.u64.wrap (a0)) 14)) ≥ 0 then (some ((t129 == (wrap64 (Int.tmod (IntKind.u64.wrap (a0)) 14))) == (decide ((wrap64 (Int.tmod (IntKind.u64.wrap (a0)) 14)) ≤ 11)))) else (some ((t129 == (wrap64 (Int.tmod (IntKind.u64.wrap (a0)) 14))) == false))) = some r := H
                have A24 := Aside0.mk A240
                clear A240
                by_cases c25 : (wrap64 (Int.tmod (IntKind.u64.wrap (a0)) 14)) ≥ 0
                · rw [if_pos c25] at H
                  have c25b0 : decide (0 ≤ (wrap64 (Int.tmod (IntKind.u64.wrap (a0)) 14))) = true := decide_eq_true c25
                  clear c25
                  obtain rfl := Option.some.inj H
                  simp only [Option.some.injEq, Prod.mk.injEq] at H
                  obtain ⟨rfl⟩ := H
                  go_wp2_with (first | ((with_reducible refine gate_callee (f := 9) rfl ?_); refine goesL_ (some 22) rfl rfl Try.func9 (by kernel_rfl) rfl #[] rfl (by (try simp only [List.map_toArray, List.map_cons, List.map_nil]); first | done | rfl | (simp only [List.length_drop, List.length_take]; rfl)) ?_; (with_reducible refine (comptoirlaw11_awake.calls  true _ A6.out).mono ?_); rintro e w26 ⟨rfl, hb⟩; refine ⟨_, rfl, ?_⟩; have n0_ := Aside0.mk (below_step (by repeat (first | (with_reducible first | exact HB.out | apply below_alloc | apply pw_below_drewN | apply below_drew1) | exact HB.out)) hb); clear HB; have HB := n0_; clear n0_; (try clear hb); (try clear hb2); (try clear hk); (try clear hi)) | (go_at_call 17; (with_reducible refine (kinds_Money.calls (wrap64 (Int.tmod (IntKind.u64.wrap (a0)) 14)) t125 _ A10.out).mono ?_); rintro e w' ⟨rfl, ⟨nd, rfl⟩⟩) | (go_at_call 19; (with_reducible refine (kinds_Code.calls (wrap64 (Int.tmod (IntKind.u64.wrap (a0)) 14)) t128 _ A23.out).mono ?_); rintro e w27 ⟨rfl, hb⟩; have n0_ := Aside0.mk (below_step (by repeat (first | (with_reducible first | exact HB.out | apply below_alloc | apply pw_below_drewN | apply below_drew1) | exact HB.out)) hb); clear HB; have HB := n0_; clear n0_; (try clear hb); (try clear hb2); (try clear hk); (try clear hi)) | (go_at_call 18; (with_reducible refine (kinds_OfCode.calls t128 t129 _ A24.out).mono ?_); rintro e w28 ⟨rfl, hb⟩; have n0_ := Aside0.mk (below_step (by repeat (first | (with_reducible first | exact HB.out | apply below_alloc | apply pw_below_drewN | apply below_drew1) | exact HB.out)) hb); clear HB; have HB := n0_; clear n0_; (try clear hb); (try clear hb2); (try clear hk); (try clear hi)))
                  go_ret
                  exact ⟨by first | rfl | (simp [errW_none, errW_some] <;> rfl) | (simp [*, errW_none, errW_some] <;> rfl), by repeat (first | (with_reducible first | exact HB.out | apply below_alloc | apply pw_below_drewN | apply below_drew1) | exact HB.out)⟩
                · rw [if_neg c25] at H
                  have c25b0 : decide (0 ≤ (wrap64 (Int.tmod (IntKind.u64.wrap (a0)) 14))) = false := decide_eq_false c25
                  clear c25
                  obtain rfl := Option.some.inj H
                  simp only [Option.some.injEq, Prod.mk.injEq] at H
                  obtain ⟨rfl⟩ := H
                  go_wp2_with (first | ((with_reducible refine gate_callee (f := 9) rfl ?_); refine goesL_ (some 22) rfl rfl Try.func9 (by kernel_rfl) rfl #[] rfl (by (try simp only [List.map_toArray, List.map_cons, List.map_nil]); first | done | rfl | (simp only [List.length_drop, List.length_take]; rfl)) ?_; (with_reducible refine (comptoirlaw11_awake.calls  true _ A6.out).mono ?_); rintro e w29 ⟨rfl, hb⟩; refine ⟨_, rfl, ?_⟩; have n0_ := Aside0.mk (below_step (by repeat (first | (with_reducible first | exact HB.out | apply below_alloc | apply pw_below_drewN | apply below_drew1) | exact HB.out)) hb); clear HB; have HB := n0_; clear n0_; (try clear hb); (try clear hb2); (try clear hk); (try clear hi)) | (go_at_call 17; (with_reducible refine (kinds_Money.calls (wrap64 (Int.tmod (IntKind.u64.wrap (a0)) 14)) t125 _ A10.out).mono ?_); rintro e w' ⟨rfl, ⟨nd, rfl⟩⟩) | (go_at_call 19; (with_reducible refine (kinds_Code.calls (wrap64 (Int.tmod (IntKind.u64.wrap (a0)) 14)) t128 _ A23.out).mono ?_); rintro e w30 ⟨rfl, hb⟩; have n0_ := Aside0.mk (below_step (by repeat (first | (with_reducible first | exact HB.out | apply below_alloc | apply pw_below_drewN | apply below_drew1) | exact HB.out)) hb); clear HB; have HB := n0_; clear n0_; (try clear hb); (try clear hb2); (try clear hk); (try clear hi)) | (go_at_call 18; (with_reducible refine (kinds_OfCode.calls t128 t129 _ A24.out).mono ?_); rintro e w31 ⟨rfl, hb⟩; have n0_ := Aside0.mk (below_step (by repeat (first | (with_reducible first | exact HB.out | apply below_alloc | apply pw_below_drewN | apply below_drew1) | exact HB.out)) hb); clear HB; have HB := n0_; clear n0_; (try clear hb); (try clear hb2); (try clear hk); (try clear hi)))
                  go_ret
                  exact ⟨by first | rfl | (simp [errW_none, errW_some] <;> rfl) | (simp [*, errW_none, errW_some] <;> rfl), by repeat (first | (with_reducible first | exact HB.out | apply below_alloc | apply pw_below_drewN | apply below_drew1) | exact HB.out)⟩
              · rw [if_neg c22] at H
                have c22b0 : (t125 == ((wrap64 (Int.tmod (IntKind.u64.wrap (a0)) 14)) == 3)) = false := by simpa using c22
                (try (have c22b1 : decide (t125 = ((wrap64 (Int.tmod (IntKind.u64.wrap (a0)) 14)) == 3)) = false := by simpa using c22))
                (try (have c22b2 : (t125 == ((wrap64 (Int.tmod (IntKind.u64.wrap (a0)) 14)) == 3)) = false := by simpa using c22))
                (try (have c22b3 : ¬ (t125 = ((wrap64 (Int.tmod (IntKind.u64.wrap (a0)) 14)) == 3)) := by simpa using c22))
                clear c22
                obtain rfl := Option.some.inj H
                exact absurd HT_.out (by decide)
          · rw [if_neg c9] at H
            have c9b0 : ((t123 == 0) == (!x4_2)) = false := by simpa using c9
            (try (have c9b1 : decide ((t123 == 0) = (!x4_2)) = false := by simpa using c9))
            (try (have c9b2 : ((t123 == 0) == (!x4_2)) = false := by simpa using c9))
            (try (have c9b3 : ¬ ((t123 == 0) = (!x4_2)) := by simpa using c9))
            clear c9
            obtain rfl := Option.some.inj H
            exact absurd HT_.out (by decide)
        · rw [if_neg c8] at H
          have c8b0 : ((t123 == (wrap64 ((wrap64 (Int.tmod (IntKind.u64.wrap (a0)) 14)) + 1))) == x4_2) = false := by simpa using c8
          (try (have c8b1 : decide ((t123 == (wrap64 ((wrap64 (Int.tmod (IntKind.u64.wrap (a0)) 14)) + 1))) = x4_2) = false := by simpa using c8))
          (try (have c8b2 : ((t123 == (wrap64 ((wrap64 (Int.tmod (IntKind.u64.wrap (a0)) 14)) + 1))) == x4_2) = false := by simpa using c8))
          (try (have c8b3 : ¬ ((t123 == (wrap64 ((wrap64 (Int.tmod (IntKind.u64.wrap (a0)) 14)) + 1))) = x4_2) := by simpa using c8))
          clear c8
          obtain rfl := Option.some.inj H
          exact absurd HT_.out (by decide)
      · replace c7 := Bool.eq_false_iff.mpr c7
        subst c7
        have H1 : (some false) = some r := by rw [if_neg (show ¬ (false = true) by decide)] at H; exact H
        clear H
        have H := H1
        clear H1
        obtain rfl := Option.some.inj H
        exact absurd HT_.out (by decide)

/-- THE ONE PURE STATEMENT of comptoirlaw11_KindsAnswers: yours. -/
def comptoirlaw11_KindsAnswers.Pure : Prop := ∀ (a0 : Int), (Lit.int .i64 a0).wf = true → ∃ k, comptoirlaw11_KindsAnswers.f k a0 = some true
theorem comptoirlaw11_KindsAnswers.walk (P : comptoirlaw11_KindsAnswers.Pure) (a0 : Int) (w : World) (w0 : (Lit.int .i64 a0).wf = true) :
    Calls Try.prog 5 #[.int .i64 a0] w fun e w' => e = .returned (.bool true) ∧ Below w.heap.size w w' := by
  obtain ⟨k, h⟩ := P a0 w0
  refine (comptoirlaw11_KindsAnswers.calls k a0 true rfl w h).mono ?_
  rintro e w' ⟨rfl, hd⟩
  exact ⟨rfl, hd⟩

end Go.Proofs.Ythdjodamdakjbaa.MK
