-- laid by wip/tools/mixprint.py over the kit's print (functions of function values by hand)
import Derived.Test.YtjhamgodpgkkjaaDoorMTx0
import Derived.Test.YtjhamgodpgkkjaaDoorMTx1
import Derived.Test.YtjhamgodpgkkjaaDoorMTx2
import Derived.Test.YtjhamgodpgkkjaaDoorMTx3
import Derived.Test.YtjhamgodpgkkjaaDoorHAll
import Derived.Test.YtjhamgodpgkkjaaDoorHPlain
import Derived.Test.YtjhamgodpgkkjaaDoorHText
namespace Go.Proofs.YtjhamgodpgkkjaaDoor.MT
open Go.RowKit Go.Proofs.YtjhamgodpgkkjaaDoorW.PrintWords Go.Proofs.YtjhamgodpgkkjaaDoorW.PrintLast Go.Proofs.YtjhamgodpgkkjaaDoorW.PrintMore
attribute [local go_sem] max2_int min2_int max_two min_two max_three min_three max_four min_four   -- for this text's walks alone
set_option linter.unusedVariables false
set_option linter.unusedSimpArgs false

/-! ### comptoirlaw04_awake: function 8 -/
def comptoirlaw04_awake.f  : Option (Bool) := (text_Utf8.f (⟨#[97]⟩ : ByteArray)).bind fun t110 => (if t110 = true then ((text_Runes.f (⟨#[97, 98]⟩ : ByteArray)).bind fun t111 => (if t111 = 2 then ((text_Plain.f (⟨#[97, 32, 98]⟩ : ByteArray) 1 3).bind fun t112 => (if t112 = true then ((text_Ans.f (⟨#[97]⟩ : ByteArray) 1).bind fun t113 => (if t113 = true then ((text_Aln.f (⟨#[97, 49]⟩ : ByteArray) 2 2).bind fun t114 => (some t114)) else (some false))) else (some false))) else (some false))) else (some false))
set_option maxHeartbeats 8000000 in
set_option maxRecDepth 100000 in
theorem comptoirlaw04_awake.calls  (r : Bool) (w : World) (hT_ : Tabs w) (h : comptoirlaw04_awake.f  = some r) :
    Calls Tryd.prog 8 #[] w fun e w' => e = .returned (.bool r) ∧ Below w.heap.size w w' := by
  have HTB_ := Aside0.mk hT_
  clear hT_
  have HB := Aside0.mk (Below.refl w.heap.size w)
  have H : ((text_Utf8.f (⟨#[97]⟩ : ByteArray)).bind fun t110 => (if t110 = true then ((text_Runes.f (⟨#[97, 98]⟩ : ByteArray)).bind fun t111 => (if t111 = 2 then ((text_Plain.f (⟨#[97, 32, 98]⟩ : ByteArray) 1 3).bind fun t112 => (if t112 = true then ((text_Ans.f (⟨#[97]⟩ : ByteArray) 1).bind fun t113 => (if t113 = true then ((text_Aln.f (⟨#[97, 49]⟩ : ByteArray) 2 2).bind fun t114 => (some t114)) else (some false))) else (some false))) else (some false))) else (some false))) = some r := h
  clear h
  replace H := Option.bind_eq_some_iff.mp H
  obtain ⟨t110, A10, H⟩ := H
  replace H : (if t110 = true then ((text_Runes.f (⟨#[97, 98]⟩ : ByteArray)).bind fun t111 => (if t111 = 2 then ((text_Plain.f (⟨#[97, 32, 98]⟩ : ByteArray) 1 3).bind fun t112 => (if t112 = true then ((text_Ans.f (⟨#[97]⟩ : ByteArray) 1).bind fun t113 => (if t113 = true then ((text_Aln.f (⟨#[97, 49]⟩ : ByteArray) 2 2).bind fun t114 => (some t114)) else (some false))) else (some false))) else (some false))) else (some false)) = some r := H
  have A1 := Aside0.mk A10
  clear A10
  by_cases c2 : t110 = true
  · subst c2
    have H1 : ((text_Runes.f (⟨#[97, 98]⟩ : ByteArray)).bind fun t111 => (if t111 = 2 then ((text_Plain.f (⟨#[97, 32, 98]⟩ : ByteArray) 1 3).bind fun t112 => (if t112 = true then ((text_Ans.f (⟨#[97]⟩ : ByteArray) 1).bind fun t113 => (if t113 = true then ((text_Aln.f (⟨#[97, 49]⟩ : ByteArray) 2 2).bind fun t114 => (some t114)) else (some false))) else (some false))) else (some false))) = some r := by rw [if_pos rfl] at H; exact H
    clear H
    have H := H1
    clear H1
    replace H := Option.bind_eq_some_iff.mp H
    obtain ⟨t111, A30, H⟩ := H
    replace H : (if t111 = 2 then ((text_Plain.f (⟨#[97, 32, 98]⟩ : ByteArray) 1 3).bind fun t112 => (if t112 = true then ((text_Ans.f (⟨#[97]⟩ : ByteArray) 1).bind fun t113 => (if t113 = true then ((text_Aln.f (⟨#[97, 49]⟩ : ByteArray) 2 2).bind fun t114 => (some t114)) else (some false))) else (some false))) else (some false)) = some r := H
    have A3 := Aside0.mk A30
    clear A30
    by_cases c4 : t111 = 2
    · rw [if_pos c4] at H
      have c4b0 : (t111 == 2) = true := beq_iff_eq.mpr c4
      have c4b1 : (t111 != 2) = false := bne_eq_false_iff_eq.mpr c4
      clear c4
      replace H := Option.bind_eq_some_iff.mp H
      obtain ⟨t112, A50, H⟩ := H
      replace H : (if t112 = true then ((text_Ans.f (⟨#[97]⟩ : ByteArray) 1).bind fun t113 => (if t113 = true then ((text_Aln.f (⟨#[97, 49]⟩ : ByteArray) 2 2).bind fun t114 => (some t114)) else (some false))) else (some false)) = some r := H
      have A5 := Aside0.mk A50
      clear A50
      by_cases c6 : t112 = true
      · subst c6
        have H1 : ((text_Ans.f (⟨#[97]⟩ : ByteArray) 1).bind fun t113 => (if t113 = true then ((text_Aln.f (⟨#[97, 49]⟩ : ByteArray) 2 2).bind fun t114 => (some t114)) else (some false))) = some r := by rw [if_pos rfl] at H; exact H
        clear H
        have H := H1
        clear H1
        replace H := Option.bind_eq_some_iff.mp H
        obtain ⟨t113, A70, H⟩ := H
        replace H : (if t113 = true then ((text_Aln.f (⟨#[97, 49]⟩ : ByteArray) 2 2).bind fun t114 => (some t114)) else (some false)) = some r := H
        have A7 := Aside0.mk A70
        clear A70
        by_cases c8 : t113 = true
        · subst c8
          have H1 : ((text_Aln.f (⟨#[97, 49]⟩ : ByteArray) 2 2).bind fun t114 => (some t114)) = some r := by rw [if_pos rfl] at H; exact H
          clear H
          have H := H1
          clear H1
          replace H := Option.bind_eq_some_iff.mp H
          obtain ⟨t114, A90, H⟩ := H
          replace H : (some t114) = some r := H
          have A9 := Aside0.mk A90
          clear A90
          obtain rfl := Option.some.inj H
          simp only [Option.some.injEq, Prod.mk.injEq] at H
          obtain ⟨rfl⟩ := H
          go_enter Tryd.func8, Tryd.ntmps8
          go_wp2_with (first | ((with_reducible refine gate_callee (f := 9) rfl ?_); refine goesL_ (some 1) rfl rfl Tryd.func9 (by kernel_rfl) rfl #[.string (⟨#[97]⟩ : ByteArray)] rfl (by (try simp only [List.map_toArray, List.map_cons, List.map_nil]); first | done | rfl | (simp only [List.length_drop, List.length_take]; rfl)) ?_; (with_reducible refine (text_Utf8.calls (⟨#[97]⟩ : ByteArray) true _ ?side1 A1.out).mono ?_); (case side1 => exact HTB_.out.below (by repeat (first | (with_reducible first | exact HB.out | apply below_alloc | apply pw_below_drewN | apply below_drew1) | exact HB.out))); rintro e w10 ⟨rfl, hb⟩; refine ⟨_, rfl, ?_⟩; have n0_ := Aside0.mk (below_step (by repeat (first | (with_reducible first | exact HB.out | apply below_alloc | apply pw_below_drewN | apply below_drew1) | exact HB.out)) hb); clear HB; have HB := n0_; clear n0_; (try clear hb); (try clear hb2); (try clear hk); (try clear hi)) | (go_at_call 11; (with_reducible refine (text_Runes.calls (⟨#[97, 98]⟩ : ByteArray) t111 _ ?side1 A3.out).mono ?_); (case side1 => exact HTB_.out.below (by repeat (first | (with_reducible first | exact HB.out | apply below_alloc | apply pw_below_drewN | apply below_drew1) | exact HB.out))); rintro e w11 ⟨rfl, hb⟩; have n0_ := Aside0.mk (below_step (by repeat (first | (with_reducible first | exact HB.out | apply below_alloc | apply pw_below_drewN | apply below_drew1) | exact HB.out)) hb); clear HB; have HB := n0_; clear n0_; (try clear hb); (try clear hb2); (try clear hk); (try clear hi)) | (go_at_call 13; (with_reducible refine (text_Plain.calls (⟨#[97, 32, 98]⟩ : ByteArray) 1 3 true _ ?side1 A5.out).mono ?_); (case side1 => exact HTB_.out.below (by repeat (first | (with_reducible first | exact HB.out | apply below_alloc | apply pw_below_drewN | apply below_drew1) | exact HB.out))); rintro e w12 ⟨rfl, hb⟩; have n0_ := Aside0.mk (below_step (by repeat (first | (with_reducible first | exact HB.out | apply below_alloc | apply pw_below_drewN | apply below_drew1) | exact HB.out)) hb); clear HB; have HB := n0_; clear n0_; (try clear hb); (try clear hb2); (try clear hk); (try clear hi)) | (go_at_call 15; (with_reducible refine (text_Ans.calls (⟨#[97]⟩ : ByteArray) 1 true _ A7.out).mono ?_); rintro e w13 ⟨rfl, hb⟩; have n0_ := Aside0.mk (below_step (by repeat (first | (with_reducible first | exact HB.out | apply below_alloc | apply pw_below_drewN | apply below_drew1) | exact HB.out)) hb); clear HB; have HB := n0_; clear n0_; (try clear hb); (try clear hb2); (try clear hk); (try clear hi)) | (go_at_call 17; (with_reducible refine (text_Aln.calls (⟨#[97, 49]⟩ : ByteArray) 2 2 t114 _ A9.out).mono ?_); rintro e w14 ⟨rfl, hb⟩; have n0_ := Aside0.mk (below_step (by repeat (first | (with_reducible first | exact HB.out | apply below_alloc | apply pw_below_drewN | apply below_drew1) | exact HB.out)) hb); clear HB; have HB := n0_; clear n0_; (try clear hb); (try clear hb2); (try clear hk); (try clear hi)))
          go_ret
          exact ⟨by first | rfl | (simp [errW_none, errW_some] <;> rfl) | (simp [*, errW_none, errW_some] <;> rfl), by repeat (first | (with_reducible first | exact HB.out | apply below_alloc | apply pw_below_drewN | apply below_drew1) | exact HB.out)⟩
        · replace c8 := Bool.eq_false_iff.mpr c8
          subst c8
          have H1 : (some false) = some r := by rw [if_neg (show ¬ (false = true) by decide)] at H; exact H
          clear H
          have H := H1
          clear H1
          obtain rfl := Option.some.inj H
          simp only [Option.some.injEq, Prod.mk.injEq] at H
          obtain ⟨rfl⟩ := H
          go_enter Tryd.func8, Tryd.ntmps8
          go_wp2_with (first | ((with_reducible refine gate_callee (f := 9) rfl ?_); refine goesL_ (some 1) rfl rfl Tryd.func9 (by kernel_rfl) rfl #[.string (⟨#[97]⟩ : ByteArray)] rfl (by (try simp only [List.map_toArray, List.map_cons, List.map_nil]); first | done | rfl | (simp only [List.length_drop, List.length_take]; rfl)) ?_; (with_reducible refine (text_Utf8.calls (⟨#[97]⟩ : ByteArray) true _ ?side1 A1.out).mono ?_); (case side1 => exact HTB_.out.below (by repeat (first | (with_reducible first | exact HB.out | apply below_alloc | apply pw_below_drewN | apply below_drew1) | exact HB.out))); rintro e w15 ⟨rfl, hb⟩; refine ⟨_, rfl, ?_⟩; have n0_ := Aside0.mk (below_step (by repeat (first | (with_reducible first | exact HB.out | apply below_alloc | apply pw_below_drewN | apply below_drew1) | exact HB.out)) hb); clear HB; have HB := n0_; clear n0_; (try clear hb); (try clear hb2); (try clear hk); (try clear hi)) | (go_at_call 11; (with_reducible refine (text_Runes.calls (⟨#[97, 98]⟩ : ByteArray) t111 _ ?side1 A3.out).mono ?_); (case side1 => exact HTB_.out.below (by repeat (first | (with_reducible first | exact HB.out | apply below_alloc | apply pw_below_drewN | apply below_drew1) | exact HB.out))); rintro e w16 ⟨rfl, hb⟩; have n0_ := Aside0.mk (below_step (by repeat (first | (with_reducible first | exact HB.out | apply below_alloc | apply pw_below_drewN | apply below_drew1) | exact HB.out)) hb); clear HB; have HB := n0_; clear n0_; (try clear hb); (try clear hb2); (try clear hk); (try clear hi)) | (go_at_call 13; (with_reducible refine (text_Plain.calls (⟨#[97, 32, 98]⟩ : ByteArray) 1 3 true _ ?side1 A5.out).mono ?_); (case side1 => exact HTB_.out.below (by repeat (first | (with_reducible first | exact HB.out | apply below_alloc | apply pw_below_drewN | apply below_drew1) | exact HB.out))); rintro e w17 ⟨rfl, hb⟩; have n0_ := Aside0.mk (below_step (by repeat (first | (with_reducible first | exact HB.out | apply below_alloc | apply pw_below_drewN | apply below_drew1) | exact HB.out)) hb); clear HB; have HB := n0_; clear n0_; (try clear hb); (try clear hb2); (try clear hk); (try clear hi)) | (go_at_call 15; (with_reducible refine (text_Ans.calls (⟨#[97]⟩ : ByteArray) 1 false _ A7.out).mono ?_); rintro e w18 ⟨rfl, hb⟩; have n0_ := Aside0.mk (below_step (by repeat (first | (with_reducible first | exact HB.out | apply below_alloc | apply pw_below_drewN | apply below_drew1) | exact HB.out)) hb); clear HB; have HB := n0_; clear n0_; (try clear hb); (try clear hb2); (try clear hk); (try clear hi)))
          go_ret
          exact ⟨by first | rfl | (simp [errW_none, errW_some] <;> rfl) | (simp [*, errW_none, errW_some] <;> rfl), by repeat (first | (with_reducible first | exact HB.out | apply below_alloc | apply pw_below_drewN | apply below_drew1) | exact HB.out)⟩
      · replace c6 := Bool.eq_false_iff.mpr c6
        subst c6
        have H1 : (some false) = some r := by rw [if_neg (show ¬ (false = true) by decide)] at H; exact H
        clear H
        have H := H1
        clear H1
        obtain rfl := Option.some.inj H
        simp only [Option.some.injEq, Prod.mk.injEq] at H
        obtain ⟨rfl⟩ := H
        go_enter Tryd.func8, Tryd.ntmps8
        go_wp2_with (first | ((with_reducible refine gate_callee (f := 9) rfl ?_); refine goesL_ (some 1) rfl rfl Tryd.func9 (by kernel_rfl) rfl #[.string (⟨#[97]⟩ : ByteArray)] rfl (by (try simp only [List.map_toArray, List.map_cons, List.map_nil]); first | done | rfl | (simp only [List.length_drop, List.length_take]; rfl)) ?_; (with_reducible refine (text_Utf8.calls (⟨#[97]⟩ : ByteArray) true _ ?side1 A1.out).mono ?_); (case side1 => exact HTB_.out.below (by repeat (first | (with_reducible first | exact HB.out | apply below_alloc | apply pw_below_drewN | apply below_drew1) | exact HB.out))); rintro e w19 ⟨rfl, hb⟩; refine ⟨_, rfl, ?_⟩; have n0_ := Aside0.mk (below_step (by repeat (first | (with_reducible first | exact HB.out | apply below_alloc | apply pw_below_drewN | apply below_drew1) | exact HB.out)) hb); clear HB; have HB := n0_; clear n0_; (try clear hb); (try clear hb2); (try clear hk); (try clear hi)) | (go_at_call 11; (with_reducible refine (text_Runes.calls (⟨#[97, 98]⟩ : ByteArray) t111 _ ?side1 A3.out).mono ?_); (case side1 => exact HTB_.out.below (by repeat (first | (with_reducible first | exact HB.out | apply below_alloc | apply pw_below_drewN | apply below_drew1) | exact HB.out))); rintro e w20 ⟨rfl, hb⟩; have n0_ := Aside0.mk (below_step (by repeat (first | (with_reducible first | exact HB.out | apply below_alloc | apply pw_below_drewN | apply below_drew1) | exact HB.out)) hb); clear HB; have HB := n0_; clear n0_; (try clear hb); (try clear hb2); (try clear hk); (try clear hi)) | (go_at_call 13; (with_reducible refine (text_Plain.calls (⟨#[97, 32, 98]⟩ : ByteArray) 1 3 false _ ?side1 A5.out).mono ?_); (case side1 => exact HTB_.out.below (by repeat (first | (with_reducible first | exact HB.out | apply below_alloc | apply pw_below_drewN | apply below_drew1) | exact HB.out))); rintro e w21 ⟨rfl, hb⟩; have n0_ := Aside0.mk (below_step (by repeat (first | (with_reducible first | exact HB.out | apply below_alloc | apply pw_below_drewN | apply below_drew1) | exact HB.out)) hb); clear HB; have HB := n0_; clear n0_; (try clear hb); (try clear hb2); (try clear hk); (try clear hi)))
        go_ret
        exact ⟨by first | rfl | (simp [errW_none, errW_some] <;> rfl) | (simp [*, errW_none, errW_some] <;> rfl), by repeat (first | (with_reducible first | exact HB.out | apply below_alloc | apply pw_below_drewN | apply below_drew1) | exact HB.out)⟩
    · rw [if_neg c4] at H
      have c4b0 : (t111 == 2) = false := beq_eq_false_iff_ne.mpr c4
      have c4b1 : (t111 != 2) = true := bne_iff_ne.mpr c4
      obtain rfl := Option.some.inj H
      simp only [Option.some.injEq, Prod.mk.injEq] at H
      obtain ⟨rfl⟩ := H
      go_enter Tryd.func8, Tryd.ntmps8
      go_wp2_with (first | ((with_reducible refine gate_callee (f := 9) rfl ?_); refine goesL_ (some 1) rfl rfl Tryd.func9 (by kernel_rfl) rfl #[.string (⟨#[97]⟩ : ByteArray)] rfl (by (try simp only [List.map_toArray, List.map_cons, List.map_nil]); first | done | rfl | (simp only [List.length_drop, List.length_take]; rfl)) ?_; (with_reducible refine (text_Utf8.calls (⟨#[97]⟩ : ByteArray) true _ ?side1 A1.out).mono ?_); (case side1 => exact HTB_.out.below (by repeat (first | (with_reducible first | exact HB.out | apply below_alloc | apply pw_below_drewN | apply below_drew1) | exact HB.out))); rintro e w22 ⟨rfl, hb⟩; refine ⟨_, rfl, ?_⟩; have n0_ := Aside0.mk (below_step (by repeat (first | (with_reducible first | exact HB.out | apply below_alloc | apply pw_below_drewN | apply below_drew1) | exact HB.out)) hb); clear HB; have HB := n0_; clear n0_; (try clear hb); (try clear hb2); (try clear hk); (try clear hi)) | (go_at_call 11; (with_reducible refine (text_Runes.calls (⟨#[97, 98]⟩ : ByteArray) t111 _ ?side1 A3.out).mono ?_); (case side1 => exact HTB_.out.below (by repeat (first | (with_reducible first | exact HB.out | apply below_alloc | apply pw_below_drewN | apply below_drew1) | exact HB.out))); rintro e w23 ⟨rfl, hb⟩; have n0_ := Aside0.mk (below_step (by repeat (first | (with_reducible first | exact HB.out | apply below_alloc | apply pw_below_drewN | apply below_drew1) | exact HB.out)) hb); clear HB; have HB := n0_; clear n0_; (try clear hb); (try clear hb2); (try clear hk); (try clear hi)))
      go_ret
      exact ⟨by first | rfl | (simp [errW_none, errW_some] <;> rfl) | (simp [*, errW_none, errW_some] <;> rfl), by repeat (first | (with_reducible first | exact HB.out | apply below_alloc | apply pw_below_drewN | apply below_drew1) | exact HB.out)⟩
  · replace c2 := Bool.eq_false_iff.mpr c2
    subst c2
    have H1 : (some false) = some r := by rw [if_neg (show ¬ (false = true) by decide)] at H; exact H
    clear H
    have H := H1
    clear H1
    obtain rfl := Option.some.inj H
    simp only [Option.some.injEq, Prod.mk.injEq] at H
    obtain ⟨rfl⟩ := H
    go_enter Tryd.func8, Tryd.ntmps8
    go_wp2_with (first | ((with_reducible refine gate_callee (f := 9) rfl ?_); refine goesL_ (some 1) rfl rfl Tryd.func9 (by kernel_rfl) rfl #[.string (⟨#[97]⟩ : ByteArray)] rfl (by (try simp only [List.map_toArray, List.map_cons, List.map_nil]); first | done | rfl | (simp only [List.length_drop, List.length_take]; rfl)) ?_; (with_reducible refine (text_Utf8.calls (⟨#[97]⟩ : ByteArray) false _ ?side1 A1.out).mono ?_); (case side1 => exact HTB_.out.below (by repeat (first | (with_reducible first | exact HB.out | apply below_alloc | apply pw_below_drewN | apply below_drew1) | exact HB.out))); rintro e w24 ⟨rfl, hb⟩; refine ⟨_, rfl, ?_⟩; have n0_ := Aside0.mk (below_step (by repeat (first | (with_reducible first | exact HB.out | apply below_alloc | apply pw_below_drewN | apply below_drew1) | exact HB.out)) hb); clear HB; have HB := n0_; clear n0_; (try clear hb); (try clear hb2); (try clear hk); (try clear hi)))
    go_ret
    exact ⟨by first | rfl | (simp [errW_none, errW_some] <;> rfl) | (simp [*, errW_none, errW_some] <;> rfl), by repeat (first | (with_reducible first | exact HB.out | apply below_alloc | apply pw_below_drewN | apply below_drew1) | exact HB.out)⟩

/-! ### comptoirlaw04_TextTells: function 3 -/
def comptoirlaw04_TextTells.f (k : Nat) (a0 : ByteArray) (a1 : Int) (a2 : Int) : Option (Bool) := if (a0.size : Int) > 1000 then ((comptoirlaw04_awake.f).bind fun t121 => (some t121)) else ((comptoirlaw04_awake.f).bind fun t122 => (if t122 = true then ((text_Utf8.f a0).bind fun t123 => ((comptoirref01_Utf8.f k a0).bind fun t124 => (if (t123 == t124) = true then ((text_Runes.f a0).bind fun t125 => ((comptoirref01_Runes.f k a0).bind fun t126 => (if t125 = t126 then ((text_Plain.f a0 a1 a2).bind fun t127 => ((comptoirref01_Plain.f k a0 a1 a2).bind fun t128 => (if (t127 == t128) = true then ((text_Ans.f a0 a2).bind fun t129 => ((comptoirref01_Ans.f k a0 a2).bind fun t130 => (if (t129 == t130) = true then ((text_Aln.f a0 a1 a2).bind fun t131 => ((comptoirref01_Aln.f k a0 a1 a2).bind fun t132 => (some (t131 == t132)))) else (some false)))) else (some false)))) else (some false)))) else (some false)))) else (some false)))
theorem comptoirlaw04_TextTells.mono : ∀ a0 a1 a2 k, LeO (comptoirlaw04_TextTells.f k a0 a1 a2) (comptoirlaw04_TextTells.f (k + 1) a0 a1 a2) := by
  intro a0 a1 a2 k
  unfold comptoirlaw04_TextTells.f
  repeat' first
      | (with_reducible exact comptoirref01_Aln.mono _ _ _ _)
      | (with_reducible exact comptoirref01_Ans.mono _ _ _)
      | (with_reducible exact comptoirref01_Plain.mono _ _ _ _)
      | (with_reducible exact comptoirref01_Runes.mono _ _)
      | (with_reducible exact comptoirref01_Utf8.mono _ _)
      | (with_reducible exact LeO.refl _)
      | (with_reducible exact LeO.none _)
      | (with_reducible refine LeO.ite ?_ ?_)
      | (with_reducible refine LeO.bind ?_ (fun _ => ?_))
      | exact comptoirref01_Aln.mono _ _ _ _
      | exact comptoirref01_Ans.mono _ _ _
      | exact comptoirref01_Plain.mono _ _ _ _
      | exact comptoirref01_Runes.mono _ _
      | exact comptoirref01_Utf8.mono _ _
      | exact LeO.none _
      | refine LeO.ite ?_ ?_
      | refine LeO.bind ?_ (fun _ => ?_)
set_option maxHeartbeats 8000000 in
set_option maxRecDepth 100000 in
theorem comptoirlaw04_TextTells.calls (k : Nat) (a0 : ByteArray) (a1 : Int) (a2 : Int) (r : Bool) (ht_ : r = true) (w : World) (hT_ : Tabs w) (h : comptoirlaw04_TextTells.f k a0 a1 a2 = some r) :
    Calls Tryd.prog 3 #[.string a0, .int .i64 a1, .int .i64 a2] w fun e w' => e = .returned (.bool r) ∧ Below w.heap.size w w' := by
  have HT_ := Aside0.mk ht_
  clear ht_
  have HTB_ := Aside0.mk hT_
  clear hT_
  have HB := Aside0.mk (Below.refl w.heap.size w)
  have H : (if (a0.size : Int) > 1000 then ((comptoirlaw04_awake.f).bind fun t121 => (some t121)) else ((comptoirlaw04_awake.f).bind fun t122 => (if t122 = true then ((text_Utf8.f a0).bind fun t123 => ((comptoirref01_Utf8.f k a0).bind fun t124 => (if (t123 == t124) = true then ((text_Runes.f a0).bind fun t125 => ((comptoirref01_Runes.f k a0).bind fun t126 => (if t125 = t126 then ((text_Plain.f a0 a1 a2).bind fun t127 => ((comptoirref01_Plain.f k a0 a1 a2).bind fun t128 => (if (t127 == t128) = true then ((text_Ans.f a0 a2).bind fun t129 => ((comptoirref01_Ans.f k a0 a2).bind fun t130 => (if (t129 == t130) = true then ((text_Aln.f a0 a1 a2).bind fun t131 => ((comptoirref01_Aln.f k a0 a1 a2).bind fun t132 => (some (t131 == t132)))) else (some false)))) else (some false)))) else (some false)))) else (some false)))) else (some false)))) = some r := h
  clear h
  by_cases c4 : (a0.size : Int) > 1000
  · rw [if_pos c4] at H
    have c4b0 : decide (1000 < (a0.size : Int)) = true := decide_eq_true c4
    have c4b1 : decide (1000 < a0.size) = true := decide_eq_true (by omega)
    clear c4
    replace H := Option.bind_eq_some_iff.mp H
    obtain ⟨t121, A50, H⟩ := H
    replace H : (some t121) = some r := H
    have A5 := Aside0.mk A50
    clear A50
    obtain rfl := Option.some.inj H
    simp only [Option.some.injEq, Prod.mk.injEq] at H
    obtain ⟨rfl⟩ := H
    go_enter Tryd.func3, Tryd.ntmps3
    go_wp2_with (first | ((with_reducible refine gate_callee (f := 8) rfl ?_); refine goesL_ (some 10) rfl rfl Tryd.func8 (by kernel_rfl) rfl #[] rfl (by (try simp only [List.map_toArray, List.map_cons, List.map_nil]); first | done | rfl | (simp only [List.length_drop, List.length_take]; rfl)) ?_; (with_reducible refine (comptoirlaw04_awake.calls  t121 _ ?side1 A5.out).mono ?_); (case side1 => exact HTB_.out.below (by repeat (first | (with_reducible first | exact HB.out | apply below_alloc | apply pw_below_drewN | apply below_drew1) | exact HB.out))); rintro e w6 ⟨rfl, hb⟩; refine ⟨_, rfl, ?_⟩; have n0_ := Aside0.mk (below_step (by repeat (first | (with_reducible first | exact HB.out | apply below_alloc | apply pw_below_drewN | apply below_drew1) | exact HB.out)) hb); clear HB; have HB := n0_; clear n0_; (try clear hb); (try clear hb2); (try clear hk); (try clear hi)))
    go_ret
    exact ⟨by first | rfl | (simp [errW_none, errW_some] <;> rfl) | (simp [*, errW_none, errW_some] <;> rfl), by repeat (first | (with_reducible first | exact HB.out | apply below_alloc | apply pw_below_drewN | apply below_drew1) | exact HB.out)⟩
  · rw [if_neg c4] at H
    have c4b0 : decide (1000 < (a0.size : Int)) = false := decide_eq_false c4
    have c4b1 : decide (1000 < a0.size) = false := decide_eq_false (by omega)
    clear c4
    replace H := Option.bind_eq_some_iff.mp H
    obtain ⟨t122, A70, H⟩ := H
    replace H : (if t122 = true then ((text_Utf8.f a0).bind fun t123 => ((comptoirref01_Utf8.f k a0).bind fun t124 => (if (t123 == t124) = true then ((text_Runes.f a0).bind fun t125 => ((comptoirref01_Runes.f k a0).bind fun t126 => (if t125 = t126 then ((text_Plain.f a0 a1 a2).bind fun t127 => ((comptoirref01_Plain.f k a0 a1 a2).bind fun t128 => (if (t127 == t128) = true then ((text_Ans.f a0 a2).bind fun t129 => ((comptoirref01_Ans.f k a0 a2).bind fun t130 => (if (t129 == t130) = true then ((text_Aln.f a0 a1 a2).bind fun t131 => ((comptoirref01_Aln.f k a0 a1 a2).bind fun t132 => (some (t131 == t132)))) else (some false)))) else (some false)))) else (some false)))) else (some false)))) else (some false)) = some r := H
    have A7 := Aside0.mk A70
    clear A70
    by_cases c8 : t122 = true
    · subst c8
      have H1 : ((text_Utf8.f a0).bind fun t123 => ((comptoirref01_Utf8.f k a0).bind fun t124 => (if (t123 == t124) = true then ((text_Runes.f a0).bind fun t125 => ((comptoirref01_Runes.f k a0).bind fun t126 => (if t125 = t126 then ((text_Plain.f a0 a1 a2).bind fun t127 => ((comptoirref01_Plain.f k a0 a1 a2).bind fun t128 => (if (t127 == t128) = true then ((text_Ans.f a0 a2).bind fun t129 => ((comptoirref01_Ans.f k a0 a2).bind fun t130 => (if (t129 == t130) = true then ((text_Aln.f a0 a1 a2).bind fun t131 => ((comptoirref01_Aln.f k a0 a1 a2).bind fun t132 => (some (t131 == t132)))) else (some false)))) else (some false)))) else (some false)))) else (some false)))) = some r := by rw [if_pos rfl] at H; exact H
      clear H
      have H := H1
      clear H1
      replace H := Option.bind_eq_some_iff.mp H
      obtain ⟨t123, A90, H⟩ := H
      replace H : ((comptoirref01_Utf8.f k a0).bind fun t124 => (if (t123 == t124) = true then ((text_Runes.f a0).bind fun t125 => ((comptoirref01_Runes.f k a0).bind fun t126 => (if t125 = t126 then ((text_Plain.f a0 a1 a2).bind fun t127 => ((comptoirref01_Plain.f k a0 a1 a2).bind fun t128 => (if (t127 == t128) = true then ((text_Ans.f a0 a2).bind fun t129 => ((comptoirref01_Ans.f k a0 a2).bind fun t130 => (if (t129 == t130) = true then ((text_Aln.f a0 a1 a2).bind fun t131 => ((comptoirref01_Aln.f k a0 a1 a2).bind fun t132 => (some (t131 == t132)))) else (some false)))) else (some false)))) else (some false)))) else (some false))) = some r := H
      have A9 := Aside0.mk A90
      clear A90
      replace H := Option.bind_eq_some_iff.mp H
      obtain ⟨t124, A100, H⟩ := H
      replace H : (if (t123 == t124) = true then ((text_Runes.f a0).bind fun t125 => ((comptoirref01_Runes.f k a0).bind fun t126 => (if t125 = t126 then ((text_Plain.f a0 a1 a2).bind fun t127 => ((comptoirref01_Plain.f k a0 a1 a2).bind fun t128 => (if (t127 == t128) = true then ((text_Ans.f a0 a2).bind fun t129 => ((comptoirref01_Ans.f k a0 a2).bind fun t130 => (if (t129 == t130) = true then ((text_Aln.f a0 a1 a2).bind fun t131 => ((comptoirref01_Aln.f k a0 a1 a2).bind fun t132 => (some (t131 == t132)))) else (some false)))) else (some false)))) else (some false)))) else (some false)) = some r := H
      have A10 := Aside0.mk A100
      clear A100
      by_cases c11 : (t123 == t124) = true
      · rw [if_pos c11] at H
        have c11b0 : (t123 == t124) = true := c11
        (try (have c11b1 : decide (t123 = t124) = true := by simpa using c11))
        (try (have c11b2 : (t123 == t124) = true := by simpa using c11))
        clear c11
        replace H := Option.bind_eq_some_iff.mp H
        obtain ⟨t125, A120, H⟩ := H
        replace H : ((comptoirref01_Runes.f k a0).bind fun t126 => (if t125 = t126 then ((text_Plain.f a0 a1 a2).bind fun t127 => ((comptoirref01_Plain.f k a0 a1 a2).bind fun t128 => (if (t127 == t128) = true then ((text_Ans.f a0 a2).bind fun t129 => ((comptoirref01_Ans.f k a0 a2).bind fun t130 => (if (t129 == t130) = true then ((text_Aln.f a0 a1 a2).bind fun t131 => ((comptoirref01_Aln.f k a0 a1 a2).bind fun t132 => (some (t131 == t132)))) else (some false)))) else (some false)))) else (some false))) = some r := H
        have A12 := Aside0.mk A120
        clear A120
        replace H := Option.bind_eq_some_iff.mp H
        obtain ⟨t126, A130, H⟩ := H
        replace H : (if t125 = t126 then ((text_Plain.f a0 a1 a2).bind fun t127 => ((comptoirref01_Plain.f k a0 a1 a2).bind fun t128 => (if (t127 == t128) = true then ((text_Ans.f a0 a2).bind fun t129 => ((comptoirref01_Ans.f k a0 a2).bind fun t130 => (if (t129 == t130) = true then ((text_Aln.f a0 a1 a2).bind fun t131 => ((comptoirref01_Aln.f k a0 a1 a2).bind fun t132 => (some (t131 == t132)))) else (some false)))) else (some false)))) else (some false)) = some r := H
        have A13 := Aside0.mk A130
        clear A130
        by_cases c14 : t125 = t126
        · rw [if_pos c14] at H
          have c14b0 : (t125 == t126) = true := beq_iff_eq.mpr c14
          have c14b1 : (t125 != t126) = false := bne_eq_false_iff_eq.mpr c14
          clear c14
          replace H := Option.bind_eq_some_iff.mp H
          obtain ⟨t127, A150, H⟩ := H
          replace H : ((comptoirref01_Plain.f k a0 a1 a2).bind fun t128 => (if (t127 == t128) = true then ((text_Ans.f a0 a2).bind fun t129 => ((comptoirref01_Ans.f k a0 a2).bind fun t130 => (if (t129 == t130) = true then ((text_Aln.f a0 a1 a2).bind fun t131 => ((comptoirref01_Aln.f k a0 a1 a2).bind fun t132 => (some (t131 == t132)))) else (some false)))) else (some false))) = some r := H
          have A15 := Aside0.mk A150
          clear A150
          replace H := Option.bind_eq_some_iff.mp H
          obtain ⟨t128, A160, H⟩ := H
          replace H : (if (t127 == t128) = true then ((text_Ans.f a0 a2).bind fun t129 => ((comptoirref01_Ans.f k a0 a2).bind fun t130 => (if (t129 == t130) = true then ((text_Aln.f a0 a1 a2).bind fun t131 => ((comptoirref01_Aln.f k a0 a1 a2).bind fun t132 => (some (t131 == t132)))) else (some false)))) else (some false)) = some r := H
          have A16 := Aside0.mk A160
          clear A160
          by_cases c17 : (t127 == t128) = true
          · rw [if_pos c17] at H
            have c17b0 : (t127 == t128) = true := c17
            (try (have c17b1 : decide (t127 = t128) = true := by simpa using c17))
            (try (have c17b2 : (t127 == t128) = true := by simpa using c17))
            clear c17
            replace H := Option.bind_eq_some_iff.mp H
            obtain ⟨t129, A180, H⟩ := H
            replace H : ((comptoirref01_Ans.f k a0 a2).bind fun t130 => (if (t129 == t130) = true then ((text_Aln.f a0 a1 a2).bind fun t131 => ((comptoirref01_Aln.f k a0 a1 a2).bind fun t132 => (some (t131 == t132)))) else (some false))) = some r := H
            have A18 := Aside0.mk A180
            clear A180
            replace H := Option.bind_eq_some_iff.mp H
            obtain ⟨t130, A190, H⟩ := H
            replace H : (if (t129 == t130) = true then ((text_Aln.f a0 a1 a2).bind fun t131 => ((comptoirref01_Aln.f k a0 a1 a2).bind fun t132 => (some (t131 == t132)))) else (some false)) = some r := H
            have A19 := Aside0.mk A190
            clear A190
            by_cases c20 : (t129 == t130) = true
            · rw [if_pos c20] at H
              have c20b0 : (t129 == t130) = true := c20
              (try (have c20b1 : decide (t129 = t130) = true := by simpa using c20))
              (try (have c20b2 : (t129 == t130) = true := by simpa using c20))
              clear c20
              replace H := Option.bind_eq_some_iff.mp H
              obtain ⟨t131, A210, H⟩ := H
              replace H : ((comptoirref01_Aln.f k a0 a1 a2).bind fun t132 => (some (t131 == t132))) = some r := H
              have A21 := Aside0.mk A210
              clear A210
              replace H := Option.bind_eq_some_iff.mp H
              obtain ⟨t132, A220, H⟩ := H
              replace H : (some (t131 == t132)) = some r := H
              have A22 := Aside0.mk A220
              clear A220
              obtain rfl := Option.some.inj H
              simp only [Option.some.injEq, Prod.mk.injEq] at H
              obtain ⟨rfl⟩ := H
              go_enter Tryd.func3, Tryd.ntmps3
              go_wp2_with (first | ((with_reducible refine gate_callee (f := 8) rfl ?_); refine goesL_ (some 11) rfl rfl Tryd.func8 (by kernel_rfl) rfl #[] rfl (by (try simp only [List.map_toArray, List.map_cons, List.map_nil]); first | done | rfl | (simp only [List.length_drop, List.length_take]; rfl)) ?_; (with_reducible refine (comptoirlaw04_awake.calls  true _ ?side1 A7.out).mono ?_); (case side1 => exact HTB_.out.below (by repeat (first | (with_reducible first | exact HB.out | apply below_alloc | apply pw_below_drewN | apply below_drew1) | exact HB.out))); rintro e w23 ⟨rfl, hb⟩; refine ⟨_, rfl, ?_⟩; have n0_ := Aside0.mk (below_step (by repeat (first | (with_reducible first | exact HB.out | apply below_alloc | apply pw_below_drewN | apply below_drew1) | exact HB.out)) hb); clear HB; have HB := n0_; clear n0_; (try clear hb); (try clear hb2); (try clear hk); (try clear hi)) | (go_at_call 9; (with_reducible refine (text_Utf8.calls a0 t123 _ ?side1 A9.out).mono ?_); (case side1 => exact HTB_.out.below (by repeat (first | (with_reducible first | exact HB.out | apply below_alloc | apply pw_below_drewN | apply below_drew1) | exact HB.out))); rintro e w24 ⟨rfl, hb⟩; have n0_ := Aside0.mk (below_step (by repeat (first | (with_reducible first | exact HB.out | apply below_alloc | apply pw_below_drewN | apply below_drew1) | exact HB.out)) hb); clear HB; have HB := n0_; clear n0_; (try clear hb); (try clear hb2); (try clear hk); (try clear hi)) | (go_at_call 10; (with_reducible refine (comptoirref01_Utf8.calls k a0 t124 _ A10.out).mono ?_); rintro e w' ⟨rfl, ⟨nd, rfl⟩⟩) | (go_at_call 11; (with_reducible refine (text_Runes.calls a0 t125 _ ?side1 A12.out).mono ?_); (case side1 => exact HTB_.out.below (by repeat (first | (with_reducible first | exact HB.out | apply below_alloc | apply pw_below_drewN | apply below_drew1) | exact HB.out))); rintro e w25 ⟨rfl, hb⟩; have n0_ := Aside0.mk (below_step (by repeat (first | (with_reducible first | exact HB.out | apply below_alloc | apply pw_below_drewN | apply below_drew1) | exact HB.out)) hb); clear HB; have HB := n0_; clear n0_; (try clear hb); (try clear hb2); (try clear hk); (try clear hi)) | (go_at_call 12; (with_reducible refine (comptoirref01_Runes.calls k a0 t126 _ A13.out).mono ?_); rintro e w26 ⟨rfl, hb⟩; have n0_ := Aside0.mk (below_step (by repeat (first | (with_reducible first | exact HB.out | apply below_alloc | apply pw_below_drewN | apply below_drew1) | exact HB.out)) hb); clear HB; have HB := n0_; clear n0_; (try clear hb); (try clear hb2); (try clear hk); (try clear hi)) | (go_at_call 13; (with_reducible refine (text_Plain.calls a0 a1 a2 t127 _ ?side1 A15.out).mono ?_); (case side1 => exact HTB_.out.below (by repeat (first | (with_reducible first | exact HB.out | apply below_alloc | apply pw_below_drewN | apply below_drew1) | exact HB.out))); rintro e w27 ⟨rfl, hb⟩; have n0_ := Aside0.mk (below_step (by repeat (first | (with_reducible first | exact HB.out | apply below_alloc | apply pw_below_drewN | apply below_drew1) | exact HB.out)) hb); clear HB; have HB := n0_; clear n0_; (try clear hb); (try clear hb2); (try clear hk); (try clear hi)) | (go_at_call 14; (with_reducible refine (comptoirref01_Plain.calls k a0 a1 a2 t128 _ A16.out).mono ?_); rintro e w' ⟨rfl, ⟨nd, rfl⟩⟩) | (go_at_call 15; (with_reducible refine (text_Ans.calls a0 a2 t129 _ A18.out).mono ?_); rintro e w28 ⟨rfl, hb⟩; have n0_ := Aside0.mk (below_step (by repeat (first | (with_reducible first | exact HB.out | apply below_alloc | apply pw_below_drewN | apply below_drew1) | exact HB.out)) hb); clear HB; have HB := n0_; clear n0_; (try clear hb); (try clear hb2); (try clear hk); (try clear hi)) | (go_at_call 16; (with_reducible refine (comptoirref01_Ans.calls k a0 a2 t130 _ A19.out).mono ?_); rintro e w' ⟨rfl, ⟨nd, rfl⟩⟩) | (go_at_call 17; (with_reducible refine (text_Aln.calls a0 a1 a2 t131 _ A21.out).mono ?_); rintro e w29 ⟨rfl, hb⟩; have n0_ := Aside0.mk (below_step (by repeat (first | (with_reducible first | exact HB.out | apply below_alloc | apply pw_below_drewN | apply below_drew1) | exact HB.out)) hb); clear HB; have HB := n0_; clear n0_; (try clear hb); (try clear hb2); (try clear hk); (try clear hi)) | (go_at_call 18; (with_reducible refine (comptoirref01_Aln.calls k a0 a1 a2 t132 _ A22.out).mono ?_); rintro e w' ⟨rfl, ⟨nd, rfl⟩⟩))
              go_ret
              exact ⟨by first | rfl | (simp [errW_none, errW_some] <;> rfl) | (simp [*, errW_none, errW_some] <;> rfl), by repeat (first | (with_reducible first | exact HB.out | apply below_alloc | apply pw_below_drewN | apply below_drew1) | exact HB.out)⟩
            · rw [if_neg c20] at H
              have c20b0 : (t129 == t130) = false := by simpa using c20
              (try (have c20b1 : decide (t129 = t130) = false := by simpa using c20))
              (try (have c20b2 : (t129 == t130) = false := by simpa using c20))
              (try (have c20b3 : ¬ (t129 = t130) := by simpa using c20))
              clear c20
              obtain rfl := Option.some.inj H
              exact absurd HT_.out (by decide)
          · rw [if_neg c17] at H
            have c17b0 : (t127 == t128) = false := by simpa using c17
            (try (have c17b1 : decide (t127 = t128) = false := by simpa using c17))
            (try (have c17b2 : (t127 == t128) = false := by simpa using c17))
            (try (have c17b3 : ¬ (t127 = t128) := by simpa using c17))
            clear c17
            obtain rfl := Option.some.inj H
            exact absurd HT_.out (by decide)
        · rw [if_neg c14] at H
          have c14b0 : (t125 == t126) = false := beq_eq_false_iff_ne.mpr c14
          have c14b1 : (t125 != t126) = true := bne_iff_ne.mpr c14
          obtain rfl := Option.some.inj H
          exact absurd HT_.out (by decide)
      · rw [if_neg c11] at H
        have c11b0 : (t123 == t124) = false := by simpa using c11
        (try (have c11b1 : decide (t123 = t124) = false := by simpa using c11))
        (try (have c11b2 : (t123 == t124) = false := by simpa using c11))
        (try (have c11b3 : ¬ (t123 = t124) := by simpa using c11))
        clear c11
        obtain rfl := Option.some.inj H
        exact absurd HT_.out (by decide)
    · replace c8 := Bool.eq_false_iff.mpr c8
      subst c8
      have H1 : (some false) = some r := by rw [if_neg (show ¬ (false = true) by decide)] at H; exact H
      clear H
      have H := H1
      clear H1
      obtain rfl := Option.some.inj H
      exact absurd HT_.out (by decide)

/-- THE ONE PURE STATEMENT of comptoirlaw04_TextTells: yours. -/
def comptoirlaw04_TextTells.Pure : Prop := ∀ (a0 : ByteArray) (a1 : Int) (a2 : Int), a0.size ≤ 140737488351232 → (Lit.int .i64 a1).wf = true → (Lit.int .i64 a2).wf = true → ∃ k, comptoirlaw04_TextTells.f k a0 a1 a2 = some true
theorem comptoirlaw04_TextTells.walk (P : comptoirlaw04_TextTells.Pure) (a0 : ByteArray) (a1 : Int) (a2 : Int) (w : World) (hT_ : Tabs w) (w0 : a0.size ≤ 140737488351232) (w1 : (Lit.int .i64 a1).wf = true) (w2 : (Lit.int .i64 a2).wf = true) :
    Calls Tryd.prog 3 #[.string a0, .int .i64 a1, .int .i64 a2] w fun e w' => e = .returned (.bool true) ∧ Below w.heap.size w w' := by
  obtain ⟨k, h⟩ := P a0 a1 a2 w0 w1 w2
  refine (comptoirlaw04_TextTells.calls k a0 a1 a2 true rfl w hT_ h).mono ?_
  rintro e w' ⟨rfl, hd⟩
  exact ⟨rfl, hd⟩

/-! ### comptoirlaw04_TextRunes: function 4 -/
def comptoirlaw04_TextRunes.j0 : Nat → Int → Bool → ByteArray → Bool → Option (Bool)
  | 0, _, _, _, _ => none
  | k + 1, x1, x5, x6, x26 => if x26 = true then ((comptoirlaw04_awake.f).bind fun t134 => (if t134 = true then ((text_Utf8.f x6).bind fun t135 => (some t135)) else (some false))) else (if 0 ≤ (mx 0 (wrap64 ((x6.size : Int) - (wrap64 (1 + (wrap64 (Int.tmod (IntKind.u64.wrap (x1)) 3))))))) then (if (mx 0 (wrap64 ((x6.size : Int) - (wrap64 (1 + (wrap64 (Int.tmod (IntKind.u64.wrap (x1)) 3))))))) ≤ (x6.size : Int) then ((comptoirlaw04_awake.f).bind fun t136 => (if t136 = true then ((text_Utf8.f x6).bind fun t137 => (if (t137 == x5) = true then (if x5 = true then ((text_Runes.f x6).bind fun t138 => (if t138 = 1 then (if (x6.extract 0 ((mx 0 (wrap64 ((x6.size : Int) - (wrap64 (1 + (wrap64 (Int.tmod (IntKind.u64.wrap (x1)) 3))))))) : Int).toNat).toList = ([] : List UInt8) then ((text_Utf8.f (⟨#[]⟩ : ByteArray)).bind fun t139 => (if t139 = true then ((text_Runes.f (⟨#[]⟩ : ByteArray)).bind fun t140 => (some (t140 == 0))) else (some false))) else ((text_Utf8.f (x6.extract 0 ((mx 0 (wrap64 ((x6.size : Int) - (wrap64 (1 + (wrap64 (Int.tmod (IntKind.u64.wrap (x1)) 3))))))) : Int).toNat)).bind fun t141 => (if t141 = true then (some false) else ((text_Utf8.f (⟨#[]⟩ : ByteArray)).bind fun t142 => (if t142 = true then ((text_Runes.f (⟨#[]⟩ : ByteArray)).bind fun t143 => (some (t143 == 0))) else (some false)))))) else (some false))) else (if (x6.extract 0 ((mx 0 (wrap64 ((x6.size : Int) - (wrap64 (1 + (wrap64 (Int.tmod (IntKind.u64.wrap (x1)) 3))))))) : Int).toNat).toList = ([] : List UInt8) then ((text_Utf8.f (⟨#[]⟩ : ByteArray)).bind fun t144 => (if t144 = true then ((text_Runes.f (⟨#[]⟩ : ByteArray)).bind fun t145 => (some (t145 == 0))) else (some false))) else ((text_Utf8.f (x6.extract 0 ((mx 0 (wrap64 ((x6.size : Int) - (wrap64 (1 + (wrap64 (Int.tmod (IntKind.u64.wrap (x1)) 3))))))) : Int).toNat)).bind fun t146 => (if t146 = true then (some false) else ((text_Utf8.f (⟨#[]⟩ : ByteArray)).bind fun t147 => (if t147 = true then ((text_Runes.f (⟨#[]⟩ : ByteArray)).bind fun t148 => (some (t148 == 0))) else (some false))))))) else (some false))) else (some false))) else (none)) else (none))
def comptoirlaw04_TextRunes.f (k : Nat) (a0 : Int) (a1 : Int) : Option (Bool) := (comptoirref01_Char.f (wrap64 (Int.tmod (IntKind.u64.wrap (a0)) 1200000))).bind fun t133 => (if (wrap64 (Int.tmod (IntKind.u64.wrap (a0)) 1200000)) > 1114111 then (comptoirlaw04_TextRunes.j0 k a1 t133 (Utf8.encode (wrap32 (wrap64 (Int.tmod (IntKind.u64.wrap (a0)) 1200000)))) true) else (if (wrap64 (Int.tmod (IntKind.u64.wrap (a0)) 1200000)) ≥ 55296 then (comptoirlaw04_TextRunes.j0 k a1 t133 (Utf8.encode (wrap32 (wrap64 (Int.tmod (IntKind.u64.wrap (a0)) 1200000)))) (decide ((wrap64 (Int.tmod (IntKind.u64.wrap (a0)) 1200000)) ≤ 57343))) else (comptoirlaw04_TextRunes.j0 k a1 t133 (Utf8.encode (wrap32 (wrap64 (Int.tmod (IntKind.u64.wrap (a0)) 1200000)))) false)))
theorem comptoirlaw04_TextRunes.mono_l : ∀ k, (∀ y0 y1 y2 y3, LeO (comptoirlaw04_TextRunes.j0 k y0 y1 y2 y3) (comptoirlaw04_TextRunes.j0 (k + 1) y0 y1 y2 y3))
  | 0 => fun _ _ _ _ r h => by simp [comptoirlaw04_TextRunes.j0] at h
  | k + 1 => by
    have ih0 := comptoirlaw04_TextRunes.mono_l k
    · intro y0 y1 y2 y3
      unfold comptoirlaw04_TextRunes.j0
      repeat' first
      | (with_reducible exact ih0 _ _ _ _)
      | (with_reducible exact LeO.refl _)
      | (with_reducible exact LeO.none _)
      | (with_reducible refine LeO.ite ?_ ?_)
      | (with_reducible refine LeO.bind ?_ (fun _ => ?_))
      | exact ih0 _ _ _ _
      | exact LeO.none _
      | refine LeO.ite ?_ ?_
      | refine LeO.bind ?_ (fun _ => ?_)
theorem comptoirlaw04_TextRunes.mono : ∀ a0 a1 k, LeO (comptoirlaw04_TextRunes.f k a0 a1) (comptoirlaw04_TextRunes.f (k + 1) a0 a1) := by
  intro a0 a1 k
  have ih0 := comptoirlaw04_TextRunes.mono_l k
  unfold comptoirlaw04_TextRunes.f
  repeat' first
      | (with_reducible exact ih0 _ _ _ _)
      | (with_reducible exact LeO.refl _)
      | (with_reducible exact LeO.none _)
      | (with_reducible refine LeO.ite ?_ ?_)
      | (with_reducible refine LeO.bind ?_ (fun _ => ?_))
      | exact ih0 _ _ _ _
      | exact LeO.none _
      | refine LeO.ite ?_ ?_
      | refine LeO.bind ?_ (fun _ => ?_)
set_option maxHeartbeats 8000000 in
set_option maxRecDepth 100000 in
theorem comptoirlaw04_TextRunes.calls (k : Nat) (a0 : Int) (a1 : Int) (r : Bool) (ht_ : r = true) (w : World) (hT_ : Tabs w) (h : comptoirlaw04_TextRunes.f k a0 a1 = some r) :
    Calls Tryd.prog 4 #[.int .i64 a0, .int .i64 a1] w fun e w' => e = .returned (.bool r) ∧ Below w.heap.size w w' := by
  have HT_ := Aside0.mk ht_
  clear ht_
  have HTB_ := Aside0.mk hT_
  clear hT_
  have hcv_21_9 : ∀ (n : Int) (W : World), (convert 21 9 (.int .i32 n)).run Tryd.prog W = .ok (.string (Utf8.encode n)) W := fun n W => run_convert_int_string W 21 9 .i32 n (by rw [Tryd.underlying21]; rfl) Tryd.underlying9
  have HB := Aside0.mk (Below.refl w.heap.size w)
  have H : ((comptoirref01_Char.f (wrap64 (Int.tmod (IntKind.u64.wrap (a0)) 1200000))).bind fun t133 => (if (wrap64 (Int.tmod (IntKind.u64.wrap (a0)) 1200000)) > 1114111 then (comptoirlaw04_TextRunes.j0 k a1 t133 (Utf8.encode (wrap32 (wrap64 (Int.tmod (IntKind.u64.wrap (a0)) 1200000)))) true) else (if (wrap64 (Int.tmod (IntKind.u64.wrap (a0)) 1200000)) ≥ 55296 then (comptoirlaw04_TextRunes.j0 k a1 t133 (Utf8.encode (wrap32 (wrap64 (Int.tmod (IntKind.u64.wrap (a0)) 1200000)))) (decide ((wrap64 (Int.tmod (IntKind.u64.wrap (a0)) 1200000)) ≤ 57343))) else (comptoirlaw04_TextRunes.j0 k a1 t133 (Utf8.encode (wrap32 (wrap64 (Int.tmod (IntKind.u64.wrap (a0)) 1200000)))) false)))) = some r := h
  clear h
  replace H := Option.bind_eq_some_iff.mp H
  obtain ⟨t133, A30, H⟩ := H
  replace H : (if (wrap64 (Int.tmod (IntKind.u64.wrap (a0)) 1200000)) > 1114111 then (comptoirlaw04_TextRunes.j0 k a1 t133 (Utf8.encode (wrap32 (wrap64 (Int.tmod (IntKind.u64.wrap (a0)) 1200000)))) true) else (if (wrap64 (Int.tmod (IntKind.u64.wrap (a0)) 1200000)) ≥ 55296 then (comptoirlaw04_TextRunes.j0 k a1 t133 (Utf8.encode (wrap32 (wrap64 (Int.tmod (IntKind.u64.wrap (a0)) 1200000)))) (decide ((wrap64 (Int.tmod (IntKind.u64.wrap (a0)) 1200000)) ≤ 57343))) else (comptoirlaw04_TextRunes.j0 k a1 t133 (Utf8.encode (wrap32 (wrap64 (Int.tmod (IntKind.u64.wrap (a0)) 1200000)))) false))) = some r := H
  have A3 := Aside0.mk A30
  clear A30
  have HC4 := Aside0.mk H
  clear H
  go_enter Tryd.func4, Tryd.ntmps4
  go_upto_region 4 with (first | ((with_reducible refine gate_callee (f := 19) rfl ?_); refine goesL_ (some 13) rfl rfl Tryd.func19 (by kernel_rfl) rfl #[.int .i64 (wrap64 (Int.tmod (IntKind.u64.wrap (a0)) 1200000))] rfl (by (try simp only [List.map_toArray, List.map_cons, List.map_nil]); first | done | rfl | (simp only [List.length_drop, List.length_take]; rfl)) ?_; (with_reducible refine (comptoirref01_Char.calls (wrap64 (Int.tmod (IntKind.u64.wrap (a0)) 1200000)) t133 _ A3.out).mono ?_); rintro e w' ⟨rfl, ⟨nd, rfl⟩⟩; refine ⟨_, rfl, ?_⟩))
  (try simp only [Act.put, List.setIfInBounds_toArray, List.set_cons_zero, List.set_cons_succ])
  go_cut [26] (fun v26 wc => ∃ (kq : Nat) (x26_3 : Bool), v26 = .bool x26_3 ∧ Aside0 (comptoirlaw04_TextRunes.j0 kq a1 t133 (Utf8.encode (wrap32 (wrap64 (Int.tmod (IntKind.u64.wrap (a0)) 1200000)))) x26_3 = some r) ∧ Aside0 (kq ≤ k) ∧ Aside0 (Below w.heap.size w wc))
  case first =>
    have H := HC4.out
    clear HC4
    by_cases c5 : (wrap64 (Int.tmod (IntKind.u64.wrap (a0)) 1200000)) > 1114111
    · rw [if_pos c5] at H
      have c5b0 : decide (1114111 < (wrap64 (Int.tmod (IntKind.u64.wrap (a0)) 1200000))) = true := decide_eq_true c5
      clear c5
      (first | rw [c5b0] | (simp only [i64_w, i32_w]; rw [c5b0]) | skip)
      have H' := Aside0.mk H
      clear H
      go_wp2
      go_meet
      case rel => exact ⟨_, (true), (by first | rfl | (simp; done) | (simp [*]; done)), H', ⟨by first | omega | exact Nat.le_refl _⟩, ⟨by repeat (first | (with_reducible first | exact HB.out | apply below_alloc | apply pw_below_drewN | apply below_drew1) | exact HB.out)⟩⟩
    · rw [if_neg c5] at H
      have c5b0 : decide (1114111 < (wrap64 (Int.tmod (IntKind.u64.wrap (a0)) 1200000))) = false := decide_eq_false c5
      clear c5
      (first | rw [c5b0] | (simp only [i64_w, i32_w]; rw [c5b0]) | skip)
      by_cases c6 : (wrap64 (Int.tmod (IntKind.u64.wrap (a0)) 1200000)) ≥ 55296
      · rw [if_pos c6] at H
        have c6b0 : decide (55296 ≤ (wrap64 (Int.tmod (IntKind.u64.wrap (a0)) 1200000))) = true := decide_eq_true c6
        clear c6
        have H' := Aside0.mk H
        clear H
        go_wp2
        go_meet
        case rel => exact ⟨_, (decide ((wrap64 (Int.tmod (IntKind.u64.wrap (a0)) 1200000)) ≤ 57343)), (by first | rfl | (simp; done) | (simp [*]; done)), H', ⟨by first | omega | exact Nat.le_refl _⟩, ⟨by repeat (first | (with_reducible first | exact HB.out | apply below_alloc | apply pw_below_drewN | apply below_drew1) | exact HB.out)⟩⟩
      · rw [if_neg c6] at H
        have c6b0 : decide (55296 ≤ (wrap64 (Int.tmod (IntKind.u64.wrap (a0)) 1200000))) = false := decide_eq_false c6
        clear c6
        have H' := Aside0.mk H
        clear H
        go_wp2
        go_meet
        case rel => exact ⟨_, (false), (by first | rfl | (simp; done) | (simp [*]; done)), H', ⟨by first | omega | exact Nat.le_refl _⟩, ⟨by repeat (first | (with_reducible first | exact HB.out | apply below_alloc | apply pw_below_drewN | apply below_drew1) | exact HB.out)⟩⟩
  case rest =>
    clear HC4
    try clear c1
    try clear p2
    try clear p3
    try clear c4
    try clear c5
    try clear c5b0
    try clear c6
    try clear c6b0
    try clear p6
    obtain ⟨kq, x26_3, rfl, HA, HJ3, HB⟩ := hcut
    cases kq with
    | zero => exact absurd HA.out (by simp [comptoirlaw04_TextRunes.j0])
    | succ kj3 =>
      have H := HA.out
      clear HA
      simp only [comptoirlaw04_TextRunes.j0] at H
      by_cases c7 : x26_3 = true
      · subst c7
        have H1 : ((comptoirlaw04_awake.f).bind fun t134 => (if t134 = true then ((text_Utf8.f (Utf8.encode (wrap32 (wrap64 (Int.tmod (IntKind.u64.wrap (a0)) 1200000))))).bind fun t135 => (some t135)) else (some false))) = some r := by rw [if_pos rfl] at H; exact H
        clear H
        have H := H1
        clear H1
        replace H := Option.bind_eq_some_iff.mp H
        obtain ⟨t134, A80, H⟩ := H
        replace H : (if t134 = true then ((text_Utf8.f (Utf8.encode (wrap32 (wrap64 (Int.tmod (IntKind.u64.wrap (a0)) 1200000))))).bind fun t135 => (some t135)) else (some false)) = some r := H
        have A8 := Aside0.mk A80
        clear A80
        by_cases c9 : t134 = true
        · subst c9
          have H1 : ((text_Utf8.f (Utf8.encode (wrap32 (wrap64 (Int.tmod (IntKind.u64.wrap (a0)) 1200000))))).bind fun t135 => (some t135)) = some r := by rw [if_pos rfl] at H; exact H
          clear H
          have H := H1
          clear H1
          replace H := Option.bind_eq_some_iff.mp H
          obtain ⟨t135, A100, H⟩ := H
          replace H : (some t135) = some r := H
          have A10 := Aside0.mk A100
          clear A100
          obtain rfl := Option.some.inj H
          simp only [Option.some.injEq, Prod.mk.injEq] at H
          obtain ⟨rfl⟩ := H
          go_wp2_with (first | ((with_reducible refine gate_callee (f := 8) rfl ?_); refine goesL_ (some 27) rfl rfl Tryd.func8 (by kernel_rfl) rfl #[] rfl (by (try simp only [List.map_toArray, List.map_cons, List.map_nil]); first | done | rfl | (simp only [List.length_drop, List.length_take]; rfl)) ?_; (with_reducible refine (comptoirlaw04_awake.calls  true _ ?side1 A8.out).mono ?_); (case side1 => exact HTB_.out.below (by repeat (first | (with_reducible first | exact HB.out | apply below_alloc | apply pw_below_drewN | apply below_drew1) | exact HB.out))); rintro e w11 ⟨rfl, hb⟩; refine ⟨_, rfl, ?_⟩; have n0_ := Aside0.mk (below_step (by repeat (first | (with_reducible first | exact HB.out | apply below_alloc | apply pw_below_drewN | apply below_drew1) | exact HB.out)) hb); clear HB; have HB := n0_; clear n0_; (try clear hb); (try clear hb2); (try clear hk); (try clear hi)) | (go_at_call 9; (with_reducible refine (text_Utf8.calls (Utf8.encode (wrap32 (wrap64 (Int.tmod (IntKind.u64.wrap (a0)) 1200000)))) t135 _ ?side1 A10.out).mono ?_); (case side1 => exact HTB_.out.below (by repeat (first | (with_reducible first | exact HB.out | apply below_alloc | apply pw_below_drewN | apply below_drew1) | exact HB.out))); rintro e w12 ⟨rfl, hb⟩; have n0_ := Aside0.mk (below_step (by repeat (first | (with_reducible first | exact HB.out | apply below_alloc | apply pw_below_drewN | apply below_drew1) | exact HB.out)) hb); clear HB; have HB := n0_; clear n0_; (try clear hb); (try clear hb2); (try clear hk); (try clear hi)))
          go_ret
          exact ⟨by first | rfl | (simp [errW_none, errW_some] <;> rfl) | (simp [*, errW_none, errW_some] <;> rfl), by repeat (first | (with_reducible first | exact HB.out | apply below_alloc | apply pw_below_drewN | apply below_drew1) | exact HB.out)⟩
        · replace c9 := Bool.eq_false_iff.mpr c9
          subst c9
          have H1 : (some false) = some r := by rw [if_neg (show ¬ (false = true) by decide)] at H; exact H
          clear H
          have H := H1
          clear H1
          obtain rfl := Option.some.inj H
          exact absurd HT_.out (by decide)
      · replace c7 := Bool.eq_false_iff.mpr c7
        subst c7
        have H1 : (if 0 ≤ (mx 0 (wrap64 (((Utf8.encode (wrap32 (wrap64 (Int.tmod (IntKind.u64.wrap (a0)) 1200000)))).size : Int) - (wrap64 (1 + (wrap64 (Int.tmod (IntKind.u64.wrap (a1)) 3))))))) then (if (mx 0 (wrap64 (((Utf8.encode (wrap32 (wrap64 (Int.tmod (IntKind.u64.wrap (a0)) 1200000)))).size : Int) - (wrap64 (1 + (wrap64 (Int.tmod (IntKind.u64.wrap (a1)) 3))))))) ≤ ((Utf8.encode (wrap32 (wrap64 (Int.tmod (IntKind.u64.wrap (a0)) 1200000)))).size : Int) then ((comptoirlaw04_awake.f).bind fun t136 => (if t136 = true then ((text_Utf8.f (Utf8.encode (wrap32 (wrap64 (Int.tmod (IntKind.u64.wrap (a0)) 1200000))))).bind fun t137 => (if (t137 == t133) = true then (if t133 = true then ((text_Runes.f (Utf8.encode (wrap32 (wrap64 (Int.tmod (IntKind.u64.wrap (a0)) 1200000))))).bind fun t138 => (if t138 = 1 then (if ((Utf8.encode (wrap32 (wrap64 (Int.tmod (IntKind.u64.wrap (a0)) 1200000)))).extract 0 ((mx 0 (wrap64 (((Utf8.encode (wrap32 (wrap64 (Int.tmod (IntKind.u64.wrap (a0)) 1200000)))).size : Int) - (wrap64 (1 + (wrap64 (Int.tmod (IntKind.u64.wrap (a1)) 3))))))) : Int).toNat).toList = ([] : List UInt8) then ((text_Utf8.f (⟨#[]⟩ : ByteArray)).bind fun t139 => (if t139 = true then ((text_Runes.f (⟨#[]⟩ : ByteArray)).bind fun t140 => (some (t140 == 0))) else (some false))) else ((text_Utf8.f ((Utf8.encode (wrap32 (wrap64 (Int.tmod (IntKind.u64.wrap (a0)) 1200000)))).extract 0 ((mx 0 (wrap64 (((Utf8.encode (wrap32 (wrap64 (Int.tmod (IntKind.u64.wrap (a0)) 1200000)))).size : Int) - (wrap64 (1 + (wrap64 (Int.tmod (IntKind.u64.wrap (a1)) 3))))))) : Int).toNat)).bind fun t141 => (if t141 = true then (some false) else ((text_Utf8.f (⟨#[]⟩ : ByteArray)).bind fun t142 => (if t142 = true then ((text_Runes.f (⟨#[]⟩ : ByteArray)).bind fun t143 => (some (t143 == 0))) else (some false)))))) else (some false))) else (if ((Utf8.encode (wrap32 (wrap64 (Int.tmod (IntKind.u64.wrap (a0)) 1200000)))).extract 0 ((mx 0 (wrap64 (((Utf8.encode (wrap32 (wrap64 (Int.tmod (IntKind.u64.wrap (a0)) 1200000)))).size : Int) - (wrap64 (1 + (wrap64 (Int.tmod (IntKind.u64.wrap (a1)) 3))))))) : Int).toNat).toList = ([] : List UInt8) then ((text_Utf8.f (⟨#[]⟩ : ByteArray)).bind fun t144 => (if t144 = true then ((text_Runes.f (⟨#[]⟩ : ByteArray)).bind fun t145 => (some (t145 == 0))) else (some false))) else ((text_Utf8.f ((Utf8.encode (wrap32 (wrap64 (Int.tmod (IntKind.u64.wrap (a0)) 1200000)))).extract 0 ((mx 0 (wrap64 (((Utf8.encode (wrap32 (wrap64 (Int.tmod (IntKind.u64.wrap (a0)) 1200000)))).size : Int) - (wrap64 (1 + (wrap64 (Int.tmod (IntKind.u64.wrap (a1)) 3))))))) : Int).toNat)).bind fun t146 => (if t146 = true then (some false) else ((text_Utf8.f (⟨#[]⟩ : ByteArray)).bind fun t147 => (if t147 = true then ((text_Runes.f (⟨#[]⟩ : ByteArray)).bind fun t148 => (some (t148 == 0))) else (some false))))))) else (some false))) else (some false))) else (none)) else (none)) = some r := by rw [if_neg (show ¬ (false = true) by decide)] at H; exact H
        clear H
        have H := H1
        clear H1
        obtain ⟨ji13, hji13⟩ : ∃ j_ : Int, (mx 0 (wrap64 (((Utf8.encode (wrap32 (wrap64 (Int.tmod (IntKind.u64.wrap (a0)) 1200000)))).size : Int) - (wrap64 (1 + (wrap64 (Int.tmod (IntKind.u64.wrap (a1)) 3))))))) = j_ := ⟨_, rfl⟩
        replace H : (if 0 ≤ (ji13) then (if (ji13) ≤ ((Utf8.encode (wrap32 (wrap64 (Int.tmod (IntKind.u64.wrap (a0)) 1200000)))).size : Int) then ((comptoirlaw04_awake.f).bind fun t136 => (if t136 = true then ((text_Utf8.f (Utf8.encode (wrap32 (wrap64 (Int.tmod (IntKind.u64.wrap (a0)) 1200000))))).bind fun t137 => (if (t137 == t133) = true then (if t133 = true then ((text_Runes.f (Utf8.encode (wrap32 (wrap64 (Int.tmod (IntKind.u64.wrap (a0)) 1200000))))).bind fun t138 => (if t138 = 1 then (if ((Utf8.encode (wrap32 (wrap64 (Int.tmod (IntKind.u64.wrap (a0)) 1200000)))).extract 0 ((ji13) : Int).toNat).toList = ([] : List UInt8) then ((text_Utf8.f (⟨#[]⟩ : ByteArray)).bind fun t139 => (if t139 = true then ((text_Runes.f (⟨#[]⟩ : ByteArray)).bind fun t140 => (some (t140 == 0))) else (some false))) else ((text_Utf8.f ((Utf8.encode (wrap32 (wrap64 (Int.tmod (IntKind.u64.wrap (a0)) 1200000)))).extract 0 ((ji13) : Int).toNat)).bind fun t141 => (if t141 = true then (some false) else ((text_Utf8.f (⟨#[]⟩ : ByteArray)).bind fun t142 => (if t142 = true then ((text_Runes.f (⟨#[]⟩ : ByteArray)).bind fun t143 => (some (t143 == 0))) else (some false)))))) else (some false))) else (if ((Utf8.encode (wrap32 (wrap64 (Int.tmod (IntKind.u64.wrap (a0)) 1200000)))).extract 0 ((ji13) : Int).toNat).toList = ([] : List UInt8) then ((text_Utf8.f (⟨#[]⟩ : ByteArray)).bind fun t144 => (if t144 = true then ((text_Runes.f (⟨#[]⟩ : ByteArray)).bind fun t145 => (some (t145 == 0))) else (some false))) else ((text_Utf8.f ((Utf8.encode (wrap32 (wrap64 (Int.tmod (IntKind.u64.wrap (a0)) 1200000)))).extract 0 ((ji13) : Int).toNat)).bind fun t146 => (if t146 = true then (some false) else ((text_Utf8.f (⟨#[]⟩ : ByteArray)).bind fun t147 => (if t147 = true then ((text_Runes.f (⟨#[]⟩ : ByteArray)).bind fun t148 => (some (t148 == 0))) else (some false))))))) else (some false))) else (some false))) else (none)) else (none)) = some r := by first | (rw [hji13] at H; exact H) | (simp only [hji13] at H ⊢; exact H)
        have hji13_ : (if 0 < (wrap64 (((Utf8.encode (wrap32 (wrap64 (Int.tmod (IntKind.u64.wrap (a0)) 1200000)))).size : Int) - (wrap64 (1 + (wrap64 (Int.tmod (IntKind.u64.wrap (a1)) 3)))))) then (wrap64 (((Utf8.encode (wrap32 (wrap64 (Int.tmod (IntKind.u64.wrap (a0)) 1200000)))).size : Int) - (wrap64 (1 + (wrap64 (Int.tmod (IntKind.u64.wrap (a1)) 3)))))) else 0) = ji13 := hji13
        by_cases c14 : 0 ≤ (ji13)
        · rw [if_pos c14] at H
          have c14b0 := eq_true c14
          have c14b1 : decide (0 ≤ (ji13)) = true := decide_eq_true c14
          clear c14
          by_cases c15 : (ji13) ≤ ((Utf8.encode (wrap32 (wrap64 (Int.tmod (IntKind.u64.wrap (a0)) 1200000)))).size : Int)
          · rw [if_pos c15] at H
            have c15b0 := eq_true c15
            have c15b1 : decide ((ji13) ≤ ((Utf8.encode (wrap32 (wrap64 (Int.tmod (IntKind.u64.wrap (a0)) 1200000)))).size : Int)) = true := decide_eq_true c15
            clear c15
            replace H := Option.bind_eq_some_iff.mp H
            obtain ⟨t136, A160, H⟩ := H
            replace H : (if t136 = true then ((text_Utf8.f (Utf8.encode (wrap32 (wrap64 (Int.tmod (IntKind.u64.wrap (a0)) 1200000))))).bind fun t137 => (if (t137 == t133) = true then (if t133 = true then ((text_Runes.f (Utf8.encode (wrap32 (wrap64 (Int.tmod (IntKind.u64.wrap (a0)) 1200000))))).bind fun t138 => (if t138 = 1 then (if ((Utf8.encode (wrap32 (wrap64 (Int.tmod (IntKind.u64.wrap (a0)) 1200000)))).extract 0 ((ji13) : Int).toNat).toList = ([] : List UInt8) then ((text_Utf8.f (⟨#[]⟩ : ByteArray)).bind fun t139 => (if t139 = true then ((text_Runes.f (⟨#[]⟩ : ByteArray)).bind fun t140 => (some (t140 == 0))) else (some false))) else ((text_Utf8.f ((Utf8.encode (wrap32 (wrap64 (Int.tmod (IntKind.u64.wrap (a0)) 1200000)))).extract 0 ((ji13) : Int).toNat)).bind fun t141 => (if t141 = true then (some false) else ((text_Utf8.f (⟨#[]⟩ : ByteArray)).bind fun t142 => (if t142 = true then ((text_Runes.f (⟨#[]⟩ : ByteArray)).bind fun t143 => (some (t143 == 0))) else (some false)))))) else (some false))) else (if ((Utf8.encode (wrap32 (wrap64 (Int.tmod (IntKind.u64.wrap (a0)) 1200000)))).extract 0 ((ji13) : Int).toNat).toList = ([] : List UInt8) then ((text_Utf8.f (⟨#[]⟩ : ByteArray)).bind fun t144 => (if t144 = true then ((text_Runes.f (⟨#[]⟩ : ByteArray)).bind fun t145 => (some (t145 == 0))) else (some false))) else ((text_Utf8.f ((Utf8.encode (wrap32 (wrap64 (Int.tmod (IntKind.u64.wrap (a0)) 1200000)))).extract 0 ((ji13) : Int).toNat)).bind fun t146 => (if t146 = true then (some false) else ((text_Utf8.f (⟨#[]⟩ : ByteArray)).bind fun t147 => (if t147 = true then ((text_Runes.f (⟨#[]⟩ : ByteArray)).bind fun t148 => (some (t148 == 0))) else (some false))))))) else (some false))) else (some false)) = some r := H
            have A16 := Aside0.mk A160
            clear A160
            by_cases c17 : t136 = true
            · subst c17
              have H1 : ((text_Utf8.f (Utf8.encode (wrap32 (wrap64 (Int.tmod (IntKind.u64.wrap (a0)) 1200000))))).bind fun t137 => (if (t137 == t133) = true then (if t133 = true then ((text_Runes.f (Utf8.encode (wrap32 (wrap64 (Int.tmod (IntKind.u64.wrap (a0)) 1200000))))).bind fun t138 => (if t138 = 1 then (if ((Utf8.encode (wrap32 (wrap64 (Int.tmod (IntKind.u64.wrap (a0)) 1200000)))).extract 0 ((ji13) : Int).toNat).toList = ([] : List UInt8) then ((text_Utf8.f (⟨#[]⟩ : ByteArray)).bind fun t139 => (if t139 = true then ((text_Runes.f (⟨#[]⟩ : ByteArray)).bind fun t140 => (some (t140 == 0))) else (some false))) else ((text_Utf8.f ((Utf8.encode (wrap32 (wrap64 (Int.tmod (IntKind.u64.wrap (a0)) 1200000)))).extract 0 ((ji13) : Int).toNat)).bind fun t141 => (if t141 = true then (some false) else ((text_Utf8.f (⟨#[]⟩ : ByteArray)).bind fun t142 => (if t142 = true then ((text_Runes.f (⟨#[]⟩ : ByteArray)).bind fun t143 => (some (t143 == 0))) else (some false)))))) else (some false))) else (if ((Utf8.encode (wrap32 (wrap64 (Int.tmod (IntKind.u64.wrap (a0)) 1200000)))).extract 0 ((ji13) : Int).toNat).toList = ([] : List UInt8) then ((text_Utf8.f (⟨#[]⟩ : ByteArray)).bind fun t144 => (if t144 = true then ((text_Runes.f (⟨#[]⟩ : ByteArray)).bind fun t145 => (some (t145 == 0))) else (some false))) else ((text_Utf8.f ((Utf8.encode (wrap32 (wrap64 (Int.tmod (IntKind.u64.wrap (a0)) 1200000)))).extract 0 ((ji13) : Int).toNat)).bind fun t146 => (if t146 = true then (some false) else ((text_Utf8.f (⟨#[]⟩ : ByteArray)).bind fun t147 => (if t147 = true then ((text_Runes.f (⟨#[]⟩ : ByteArray)).bind fun t148 => (some (t148 == 0))) else (some false))))))) else (some false))) = some r := by rw [if_pos rfl] at H; exact H
              clear H
              have H := H1
              clear H1
              replace H := Option.bind_eq_some_iff.mp H
              obtain ⟨t137, A180, H⟩ := H
              replace H : (if (t137 == t133) = true then (if t133 = true then ((text_Runes.f (Utf8.encode (wrap32 (wrap64 (Int.tmod (IntKind.u64.wrap (a0)) 1200000))))).bind fun t138 => (if t138 = 1 then (if ((Utf8.encode (wrap32 (wrap64 (Int.tmod (IntKind.u64.wrap (a0)) 1200000)))).extract 0 ((ji13) : Int).toNat).toList = ([] : List UInt8) then ((text_Utf8.f (⟨#[]⟩ : ByteArray)).bind fun t139 => (if t139 = true then ((text_Runes.f (⟨#[]⟩ : ByteArray)).bind fun t140 => (some (t140 == 0))) else (some false))) else ((text_Utf8.f ((Utf8.encode (wrap32 (wrap64 (Int.tmod (IntKind.u64.wrap (a0)) 1200000)))).extract 0 ((ji13) : Int).toNat)).bind fun t141 => (if t141 = true then (some false) else ((text_Utf8.f (⟨#[]⟩ : ByteArray)).bind fun t142 => (if t142 = true then ((text_Runes.f (⟨#[]⟩ : ByteArray)).bind fun t143 => (some (t143 == 0))) else (some false)))))) else (some false))) else (if ((Utf8.encode (wrap32 (wrap64 (Int.tmod (IntKind.u64.wrap (a0)) 1200000)))).extract 0 ((ji13) : Int).toNat).toList = ([] : List UInt8) then ((text_Utf8.f (⟨#[]⟩ : ByteArray)).bind fun t144 => (if t144 = true then ((text_Runes.f (⟨#[]⟩ : ByteArray)).bind fun t145 => (some (t145 == 0))) else (some false))) else ((text_Utf8.f ((Utf8.encode (wrap32 (wrap64 (Int.tmod (IntKind.u64.wrap (a0)) 1200000)))).extract 0 ((ji13) : Int).toNat)).bind fun t146 => (if t146 = true then (some false) else ((text_Utf8.f (⟨#[]⟩ : ByteArray)).bind fun t147 => (if t147 = true then ((text_Runes.f (⟨#[]⟩ : ByteArray)).bind fun t148 => (some (t148 == 0))) else (some false))))))) else (some false)) = some r := H
              have A18 := Aside0.mk A180
              clear A180
              by_cases c19 : (t137 == t133) = true
              · rw [if_pos c19] at H
                have c19b0 : (t137 == t133) = true := c19
                (try (have c19b1 : decide (t137 = t133) = true := by simpa using c19))
                (try (have c19b2 : (t137 == t133) = true := by simpa using c19))
                clear c19
                by_cases c20 : t133 = true
                · subst c20
                  have H1 : ((text_Runes.f (Utf8.encode (wrap32 (wrap64 (Int.tmod (IntKind.u64.wrap (a0)) 1200000))))).bind fun t138 => (if t138 = 1 then (if ((Utf8.encode (wrap32 (wrap64 (Int.tmod (IntKind.u64.wrap (a0)) 1200000)))).extract 0 ((ji13) : Int).toNat).toList = ([] : List UInt8) then ((text_Utf8.f (⟨#[]⟩ : ByteArray)).bind fun t139 => (if t139 = true then ((text_Runes.f (⟨#[]⟩ : ByteArray)).bind fun t140 => (some (t140 == 0))) else (some false))) else ((text_Utf8.f ((Utf8.encode (wrap32 (wrap64 (Int.tmod (IntKind.u64.wrap (a0)) 1200000)))).extract 0 ((ji13) : Int).toNat)).bind fun t141 => (if t141 = true then (some false) else ((text_Utf8.f (⟨#[]⟩ : ByteArray)).bind fun t142 => (if t142 = true then ((text_Runes.f (⟨#[]⟩ : ByteArray)).bind fun t143 => (some (t143 == 0))) else (some false)))))) else (some false))) = some r := by rw [if_pos rfl] at H; exact H
                  clear H
                  have H := H1
                  clear H1
                  replace H := Option.bind_eq_some_iff.mp H
                  obtain ⟨t138, A210, H⟩ := H
                  replace H : (if t138 = 1 then (if ((Utf8.encode (wrap32 (wrap64 (Int.tmod (IntKind.u64.wrap (a0)) 1200000)))).extract 0 ((ji13) : Int).toNat).toList = ([] : List UInt8) then ((text_Utf8.f (⟨#[]⟩ : ByteArray)).bind fun t139 => (if t139 = true then ((text_Runes.f (⟨#[]⟩ : ByteArray)).bind fun t140 => (some (t140 == 0))) else (some false))) else ((text_Utf8.f ((Utf8.encode (wrap32 (wrap64 (Int.tmod (IntKind.u64.wrap (a0)) 1200000)))).extract 0 ((ji13) : Int).toNat)).bind fun t141 => (if t141 = true then (some false) else ((text_Utf8.f (⟨#[]⟩ : ByteArray)).bind fun t142 => (if t142 = true then ((text_Runes.f (⟨#[]⟩ : ByteArray)).bind fun t143 => (some (t143 == 0))) else (some false)))))) else (some false)) = some r := H
                  have A21 := Aside0.mk A210
                  clear A210
                  by_cases c22 : t138 = 1
                  · rw [if_pos c22] at H
                    have c22b0 : (t138 == 1) = true := beq_iff_eq.mpr c22
                    have c22b1 : (t138 != 1) = false := bne_eq_false_iff_eq.mpr c22
                    clear c22
                    by_cases c23 : ((Utf8.encode (wrap32 (wrap64 (Int.tmod (IntKind.u64.wrap (a0)) 1200000)))).extract 0 ((ji13) : Int).toNat).toList = ([] : List UInt8)
                    · rw [if_pos c23] at H
                      have c23b0 : (((Utf8.encode (wrap32 (wrap64 (Int.tmod (IntKind.u64.wrap (a0)) 1200000)))).extract 0 ((ji13) : Int).toNat).toList == ([] : List UInt8)) = true := beq_iff_eq.mpr c23
                      have c23b1 : (((Utf8.encode (wrap32 (wrap64 (Int.tmod (IntKind.u64.wrap (a0)) 1200000)))).extract 0 ((ji13) : Int).toNat).toList != ([] : List UInt8)) = false := bne_eq_false_iff_eq.mpr c23
                      clear c23
                      replace H := Option.bind_eq_some_iff.mp H
                      obtain ⟨t139, A240, H⟩ := H
                      replace H : (if t139 = true then ((text_Runes.f (⟨#[]⟩ : ByteArray)).bind fun t140 => (some (t140 == 0))) else (some false)) = some r := H
                      have A24 := Aside0.mk A240
                      clear A240
                      by_cases c25 : t139 = true
                      · subst c25
                        have H1 : ((text_Runes.f (⟨#[]⟩ : ByteArray)).bind fun t140 => (some (t140 == 0))) = some r := by rw [if_pos rfl] at H; exact H
                        clear H
                        have H := H1
                        clear H1
                        replace H := Option.bind_eq_some_iff.mp H
                        obtain ⟨t140, A260, H⟩ := H
                        replace H : (some (t140 == 0)) = some r := H
                        have A26 := Aside0.mk A260
                        clear A260
                        obtain rfl := Option.some.inj H
                        simp only [Option.some.injEq, Prod.mk.injEq] at H
                        obtain ⟨rfl⟩ := H
                        go_wp2_with (first | ((with_reducible refine gate_callee (f := 8) rfl ?_); refine goesL_ (some 44) rfl rfl Tryd.func8 (by kernel_rfl) rfl #[] rfl (by (try simp only [List.map_toArray, List.map_cons, List.map_nil]); first | done | rfl | (simp only [List.length_drop, List.length_take]; rfl)) ?_; (with_reducible refine (comptoirlaw04_awake.calls  true _ ?side1 A16.out).mono ?_); (case side1 => exact HTB_.out.below (by repeat (first | (with_reducible first | exact HB.out | apply below_alloc | apply pw_below_drewN | apply below_drew1) | exact HB.out))); rintro e w27 ⟨rfl, hb⟩; refine ⟨_, rfl, ?_⟩; have n0_ := Aside0.mk (below_step (by repeat (first | (with_reducible first | exact HB.out | apply below_alloc | apply pw_below_drewN | apply below_drew1) | exact HB.out)) hb); clear HB; have HB := n0_; clear n0_; (try clear hb); (try clear hb2); (try clear hk); (try clear hi)) | (go_at_call 9; (with_reducible refine (text_Utf8.calls (Utf8.encode (wrap32 (wrap64 (Int.tmod (IntKind.u64.wrap (a0)) 1200000)))) t137 _ ?side1 A18.out).mono ?_); (case side1 => exact HTB_.out.below (by repeat (first | (with_reducible first | exact HB.out | apply below_alloc | apply pw_below_drewN | apply below_drew1) | exact HB.out))); rintro e w28 ⟨rfl, hb⟩; have n0_ := Aside0.mk (below_step (by repeat (first | (with_reducible first | exact HB.out | apply below_alloc | apply pw_below_drewN | apply below_drew1) | exact HB.out)) hb); clear HB; have HB := n0_; clear n0_; (try clear hb); (try clear hb2); (try clear hk); (try clear hi)) | (go_at_call 11; (with_reducible refine (text_Runes.calls (Utf8.encode (wrap32 (wrap64 (Int.tmod (IntKind.u64.wrap (a0)) 1200000)))) t138 _ ?side1 A21.out).mono ?_); (case side1 => exact HTB_.out.below (by repeat (first | (with_reducible first | exact HB.out | apply below_alloc | apply pw_below_drewN | apply below_drew1) | exact HB.out))); rintro e w29 ⟨rfl, hb⟩; have n0_ := Aside0.mk (below_step (by repeat (first | (with_reducible first | exact HB.out | apply below_alloc | apply pw_below_drewN | apply below_drew1) | exact HB.out)) hb); clear HB; have HB := n0_; clear n0_; (try clear hb); (try clear hb2); (try clear hk); (try clear hi)) | (go_at_call 9; (with_reducible refine (text_Utf8.calls (⟨#[]⟩ : ByteArray) true _ ?side1 A24.out).mono ?_); (case side1 => exact HTB_.out.below (by repeat (first | (with_reducible first | exact HB.out | apply below_alloc | apply pw_below_drewN | apply below_drew1) | exact HB.out))); rintro e w30 ⟨rfl, hb⟩; have n0_ := Aside0.mk (below_step (by repeat (first | (with_reducible first | exact HB.out | apply below_alloc | apply pw_below_drewN | apply below_drew1) | exact HB.out)) hb); clear HB; have HB := n0_; clear n0_; (try clear hb); (try clear hb2); (try clear hk); (try clear hi)) | (go_at_call 11; (with_reducible refine (text_Runes.calls (⟨#[]⟩ : ByteArray) t140 _ ?side1 A26.out).mono ?_); (case side1 => exact HTB_.out.below (by repeat (first | (with_reducible first | exact HB.out | apply below_alloc | apply pw_below_drewN | apply below_drew1) | exact HB.out))); rintro e w31 ⟨rfl, hb⟩; have n0_ := Aside0.mk (below_step (by repeat (first | (with_reducible first | exact HB.out | apply below_alloc | apply pw_below_drewN | apply below_drew1) | exact HB.out)) hb); clear HB; have HB := n0_; clear n0_; (try clear hb); (try clear hb2); (try clear hk); (try clear hi)))
                        go_ret
                        exact ⟨by first | rfl | (simp [errW_none, errW_some] <;> rfl) | (simp only [← hji13]; first | rfl | (simp [errW_none, errW_some] <;> rfl)) | (simp [*, errW_none, errW_some] <;> rfl), by repeat (first | (with_reducible first | exact HB.out | apply below_alloc | apply pw_below_drewN | apply below_drew1) | exact HB.out)⟩
                      · replace c25 := Bool.eq_false_iff.mpr c25
                        subst c25
                        have H1 : (some false) = some r := by rw [if_neg (show ¬ (false = true) by decide)] at H; exact H
                        clear H
                        have H := H1
                        clear H1
                        obtain rfl := Option.some.inj H
                        exact absurd HT_.out (by decide)
                    · rw [if_neg c23] at H
                      have c23b0 : (((Utf8.encode (wrap32 (wrap64 (Int.tmod (IntKind.u64.wrap (a0)) 1200000)))).extract 0 ((ji13) : Int).toNat).toList == ([] : List UInt8)) = false := beq_eq_false_iff_ne.mpr c23
                      have c23b1 : (((Utf8.encode (wrap32 (wrap64 (Int.tmod (IntKind.u64.wrap (a0)) 1200000)))).extract 0 ((ji13) : Int).toNat).toList != ([] : List UInt8)) = true := bne_iff_ne.mpr c23
                      replace H := Option.bind_eq_some_iff.mp H
                      obtain ⟨t141, A320, H⟩ := H
                      replace H : (if t141 = true then (some false) else ((text_Utf8.f (⟨#[]⟩ : ByteArray)).bind fun t142 => (if t142 = true then ((text_Runes.f (⟨#[]⟩ : ByteArray)).bind fun t143 => (some (t143 == 0))) else (some false)))) = some r := H
                      have A32 := Aside0.mk A320
                      clear A320
                      by_cases c33 : t141 = true
                      · subst c33
                        have H1 : (some false) = some r := by rw [if_pos rfl] at H; exact H
                        clear H
                        have H := H1
                        clear H1
                        obtain rfl := Option.some.inj H
                        exact absurd HT_.out (by decide)
                      · replace c33 := Bool.eq_false_iff.mpr c33
                        subst c33
                        have H1 : ((text_Utf8.f (⟨#[]⟩ : ByteArray)).bind fun t142 => (if t142 = true then ((text_Runes.f (⟨#[]⟩ : ByteArray)).bind fun t143 => (some (t143 == 0))) else (some false))) = some r := by rw [if_neg (show ¬ (false = true) by decide)] at H; exact H
                        clear H
                        have H := H1
                        clear H1
                        replace H := Option.bind_eq_some_iff.mp H
                        obtain ⟨t142, A340, H⟩ := H
                        replace H : (if t142 = true then ((text_Runes.f (⟨#[]⟩ : ByteArray)).bind fun t143 => (some (t143 == 0))) else (some false)) = some r := H
                        have A34 := Aside0.mk A340
                        clear A340
                        by_cases c35 : t142 = true
                        · subst c35
                          have H1 : ((text_Runes.f (⟨#[]⟩ : ByteArray)).bind fun t143 => (some (t143 == 0))) = some r := by rw [if_pos rfl] at H; exact H
                          clear H
                          have H := H1
                          clear H1
                          replace H := Option.bind_eq_some_iff.mp H
                          obtain ⟨t143, A360, H⟩ := H
                          replace H : (some (t143 == 0)) = some r := H
                          have A36 := Aside0.mk A360
                          clear A360
                          obtain rfl := Option.some.inj H
                          simp only [Option.some.injEq, Prod.mk.injEq] at H
                          obtain ⟨rfl⟩ := H
                          go_wp2_with (first | ((with_reducible refine gate_callee (f := 8) rfl ?_); refine goesL_ (some 44) rfl rfl Tryd.func8 (by kernel_rfl) rfl #[] rfl (by (try simp only [List.map_toArray, List.map_cons, List.map_nil]); first | done | rfl | (simp only [List.length_drop, List.length_take]; rfl)) ?_; (with_reducible refine (comptoirlaw04_awake.calls  true _ ?side1 A16.out).mono ?_); (case side1 => exact HTB_.out.below (by repeat (first | (with_reducible first | exact HB.out | apply below_alloc | apply pw_below_drewN | apply below_drew1) | exact HB.out))); rintro e w37 ⟨rfl, hb⟩; refine ⟨_, rfl, ?_⟩; have n0_ := Aside0.mk (below_step (by repeat (first | (with_reducible first | exact HB.out | apply below_alloc | apply pw_below_drewN | apply below_drew1) | exact HB.out)) hb); clear HB; have HB := n0_; clear n0_; (try clear hb); (try clear hb2); (try clear hk); (try clear hi)) | (go_at_call 9; (with_reducible refine (text_Utf8.calls (Utf8.encode (wrap32 (wrap64 (Int.tmod (IntKind.u64.wrap (a0)) 1200000)))) t137 _ ?side1 A18.out).mono ?_); (case side1 => exact HTB_.out.below (by repeat (first | (with_reducible first | exact HB.out | apply below_alloc | apply pw_below_drewN | apply below_drew1) | exact HB.out))); rintro e w38 ⟨rfl, hb⟩; have n0_ := Aside0.mk (below_step (by repeat (first | (with_reducible first | exact HB.out | apply below_alloc | apply pw_below_drewN | apply below_drew1) | exact HB.out)) hb); clear HB; have HB := n0_; clear n0_; (try clear hb); (try clear hb2); (try clear hk); (try clear hi)) | (go_at_call 11; (with_reducible refine (text_Runes.calls (Utf8.encode (wrap32 (wrap64 (Int.tmod (IntKind.u64.wrap (a0)) 1200000)))) t138 _ ?side1 A21.out).mono ?_); (case side1 => exact HTB_.out.below (by repeat (first | (with_reducible first | exact HB.out | apply below_alloc | apply pw_below_drewN | apply below_drew1) | exact HB.out))); rintro e w39 ⟨rfl, hb⟩; have n0_ := Aside0.mk (below_step (by repeat (first | (with_reducible first | exact HB.out | apply below_alloc | apply pw_below_drewN | apply below_drew1) | exact HB.out)) hb); clear HB; have HB := n0_; clear n0_; (try clear hb); (try clear hb2); (try clear hk); (try clear hi)) | (go_at_call 9; (with_reducible refine (text_Utf8.calls ((Utf8.encode (wrap32 (wrap64 (Int.tmod (IntKind.u64.wrap (a0)) 1200000)))).extract 0 ((ji13) : Int).toNat) false _ ?side1 A32.out).mono ?_); (case side1 => exact HTB_.out.below (by repeat (first | (with_reducible first | exact HB.out | apply below_alloc | apply pw_below_drewN | apply below_drew1) | exact HB.out))); rintro e w40 ⟨rfl, hb⟩; have n0_ := Aside0.mk (below_step (by repeat (first | (with_reducible first | exact HB.out | apply below_alloc | apply pw_below_drewN | apply below_drew1) | exact HB.out)) hb); clear HB; have HB := n0_; clear n0_; (try clear hb); (try clear hb2); (try clear hk); (try clear hi)) | (go_at_call 9; (with_reducible refine (text_Utf8.calls (⟨#[]⟩ : ByteArray) true _ ?side1 A34.out).mono ?_); (case side1 => exact HTB_.out.below (by repeat (first | (with_reducible first | exact HB.out | apply below_alloc | apply pw_below_drewN | apply below_drew1) | exact HB.out))); rintro e w41 ⟨rfl, hb⟩; have n0_ := Aside0.mk (below_step (by repeat (first | (with_reducible first | exact HB.out | apply below_alloc | apply pw_below_drewN | apply below_drew1) | exact HB.out)) hb); clear HB; have HB := n0_; clear n0_; (try clear hb); (try clear hb2); (try clear hk); (try clear hi)) | (go_at_call 11; (with_reducible refine (text_Runes.calls (⟨#[]⟩ : ByteArray) t143 _ ?side1 A36.out).mono ?_); (case side1 => exact HTB_.out.below (by repeat (first | (with_reducible first | exact HB.out | apply below_alloc | apply pw_below_drewN | apply below_drew1) | exact HB.out))); rintro e w42 ⟨rfl, hb⟩; have n0_ := Aside0.mk (below_step (by repeat (first | (with_reducible first | exact HB.out | apply below_alloc | apply pw_below_drewN | apply below_drew1) | exact HB.out)) hb); clear HB; have HB := n0_; clear n0_; (try clear hb); (try clear hb2); (try clear hk); (try clear hi)))
                          go_ret
                          exact ⟨by first | rfl | (simp [errW_none, errW_some] <;> rfl) | (simp only [← hji13]; first | rfl | (simp [errW_none, errW_some] <;> rfl)) | (simp [*, errW_none, errW_some] <;> rfl), by repeat (first | (with_reducible first | exact HB.out | apply below_alloc | apply pw_below_drewN | apply below_drew1) | exact HB.out)⟩
                        · replace c35 := Bool.eq_false_iff.mpr c35
                          subst c35
                          have H1 : (some false) = some r := by rw [if_neg (show ¬ (false = true) by decide)] at H; exact H
                          clear H
                          have H := H1
                          clear H1
                          obtain rfl := Option.some.inj H
                          exact absurd HT_.out (by decide)
                  · rw [if_neg c22] at H
                    have c22b0 : (t138 == 1) = false := beq_eq_false_iff_ne.mpr c22
                    have c22b1 : (t138 != 1) = true := bne_iff_ne.mpr c22
                    obtain rfl := Option.some.inj H
                    exact absurd HT_.out (by decide)
                · replace c20 := Bool.eq_false_iff.mpr c20
                  subst c20
                  have H1 : (if ((Utf8.encode (wrap32 (wrap64 (Int.tmod (IntKind.u64.wrap (a0)) 1200000)))).extract 0 ((ji13) : Int).toNat).toList = ([] : List UInt8) then ((text_Utf8.f (⟨#[]⟩ : ByteArray)).bind fun t144 => (if t144 = true then ((text_Runes.f (⟨#[]⟩ : ByteArray)).bind fun t145 => (some (t145 == 0))) else (some false))) else ((text_Utf8.f ((Utf8.encode (wrap32 (wrap64 (Int.tmod (IntKind.u64.wrap (a0)) 1200000)))).extract 0 ((ji13) : Int).toNat)).bind fun t146 => (if t146 = true then (some false) else ((text_Utf8.f (⟨#[]⟩ : ByteArray)).bind fun t147 => (if t147 = true then ((text_Runes.f (⟨#[]⟩ : ByteArray)).bind fun t148 => (some (t148 == 0))) else (some false)))))) = some r := by rw [if_neg (show ¬ (false = true) by decide)] at H; exact H
                  clear H
                  have H := H1
                  clear H1
                  by_cases c43 : ((Utf8.encode (wrap32 (wrap64 (Int.tmod (IntKind.u64.wrap (a0)) 1200000)))).extract 0 ((ji13) : Int).toNat).toList = ([] : List UInt8)
                  · rw [if_pos c43] at H
                    have c43b0 : (((Utf8.encode (wrap32 (wrap64 (Int.tmod (IntKind.u64.wrap (a0)) 1200000)))).extract 0 ((ji13) : Int).toNat).toList == ([] : List UInt8)) = true := beq_iff_eq.mpr c43
                    have c43b1 : (((Utf8.encode (wrap32 (wrap64 (Int.tmod (IntKind.u64.wrap (a0)) 1200000)))).extract 0 ((ji13) : Int).toNat).toList != ([] : List UInt8)) = false := bne_eq_false_iff_eq.mpr c43
                    clear c43
                    replace H := Option.bind_eq_some_iff.mp H
                    obtain ⟨t144, A440, H⟩ := H
                    replace H : (if t144 = true then ((text_Runes.f (⟨#[]⟩ : ByteArray)).bind fun t145 => (some (t145 == 0))) else (some false)) = some r := H
                    have A44 := Aside0.mk A440
                    clear A440
                    by_cases c45 : t144 = true
                    · subst c45
                      have H1 : ((text_Runes.f (⟨#[]⟩ : ByteArray)).bind fun t145 => (some (t145 == 0))) = some r := by rw [if_pos rfl] at H; exact H
                      clear H
                      have H := H1
                      clear H1
                      replace H := Option.bind_eq_some_iff.mp H
                      obtain ⟨t145, A460, H⟩ := H
                      replace H : (some (t145 == 0)) = some r := H
                      have A46 := Aside0.mk A460
                      clear A460
                      obtain rfl := Option.some.inj H
                      simp only [Option.some.injEq, Prod.mk.injEq] at H
                      obtain ⟨rfl⟩ := H
                      go_wp2_with (first | ((with_reducible refine gate_callee (f := 8) rfl ?_); refine goesL_ (some 44) rfl rfl Tryd.func8 (by kernel_rfl) rfl #[] rfl (by (try simp only [List.map_toArray, List.map_cons, List.map_nil]); first | done | rfl | (simp only [List.length_drop, List.length_take]; rfl)) ?_; (with_reducible refine (comptoirlaw04_awake.calls  true _ ?side1 A16.out).mono ?_); (case side1 => exact HTB_.out.below (by repeat (first | (with_reducible first | exact HB.out | apply below_alloc | apply pw_below_drewN | apply below_drew1) | exact HB.out))); rintro e w47 ⟨rfl, hb⟩; refine ⟨_, rfl, ?_⟩; have n0_ := Aside0.mk (below_step (by repeat (first | (with_reducible first | exact HB.out | apply below_alloc | apply pw_below_drewN | apply below_drew1) | exact HB.out)) hb); clear HB; have HB := n0_; clear n0_; (try clear hb); (try clear hb2); (try clear hk); (try clear hi)) | (go_at_call 9; (with_reducible refine (text_Utf8.calls (Utf8.encode (wrap32 (wrap64 (Int.tmod (IntKind.u64.wrap (a0)) 1200000)))) t137 _ ?side1 A18.out).mono ?_); (case side1 => exact HTB_.out.below (by repeat (first | (with_reducible first | exact HB.out | apply below_alloc | apply pw_below_drewN | apply below_drew1) | exact HB.out))); rintro e w48 ⟨rfl, hb⟩; have n0_ := Aside0.mk (below_step (by repeat (first | (with_reducible first | exact HB.out | apply below_alloc | apply pw_below_drewN | apply below_drew1) | exact HB.out)) hb); clear HB; have HB := n0_; clear n0_; (try clear hb); (try clear hb2); (try clear hk); (try clear hi)) | (go_at_call 9; (with_reducible refine (text_Utf8.calls (⟨#[]⟩ : ByteArray) true _ ?side1 A44.out).mono ?_); (case side1 => exact HTB_.out.below (by repeat (first | (with_reducible first | exact HB.out | apply below_alloc | apply pw_below_drewN | apply below_drew1) | exact HB.out))); rintro e w49 ⟨rfl, hb⟩; have n0_ := Aside0.mk (below_step (by repeat (first | (with_reducible first | exact HB.out | apply below_alloc | apply pw_below_drewN | apply below_drew1) | exact HB.out)) hb); clear HB; have HB := n0_; clear n0_; (try clear hb); (try clear hb2); (try clear hk); (try clear hi)) | (go_at_call 11; (with_reducible refine (text_Runes.calls (⟨#[]⟩ : ByteArray) t145 _ ?side1 A46.out).mono ?_); (case side1 => exact HTB_.out.below (by repeat (first | (with_reducible first | exact HB.out | apply below_alloc | apply pw_below_drewN | apply below_drew1) | exact HB.out))); rintro e w50 ⟨rfl, hb⟩; have n0_ := Aside0.mk (below_step (by repeat (first | (with_reducible first | exact HB.out | apply below_alloc | apply pw_below_drewN | apply below_drew1) | exact HB.out)) hb); clear HB; have HB := n0_; clear n0_; (try clear hb); (try clear hb2); (try clear hk); (try clear hi)))
                      go_ret
                      exact ⟨by first | rfl | (simp [errW_none, errW_some] <;> rfl) | (simp only [← hji13]; first | rfl | (simp [errW_none, errW_some] <;> rfl)) | (simp [*, errW_none, errW_some] <;> rfl), by repeat (first | (with_reducible first | exact HB.out | apply below_alloc | apply pw_below_drewN | apply below_drew1) | exact HB.out)⟩
                    · replace c45 := Bool.eq_false_iff.mpr c45
                      subst c45
                      have H1 : (some false) = some r := by rw [if_neg (show ¬ (false = true) by decide)] at H; exact H
                      clear H
                      have H := H1
                      clear H1
                      obtain rfl := Option.some.inj H
                      exact absurd HT_.out (by decide)
                  · rw [if_neg c43] at H
                    have c43b0 : (((Utf8.encode (wrap32 (wrap64 (Int.tmod (IntKind.u64.wrap (a0)) 1200000)))).extract 0 ((ji13) : Int).toNat).toList == ([] : List UInt8)) = false := beq_eq_false_iff_ne.mpr c43
                    have c43b1 : (((Utf8.encode (wrap32 (wrap64 (Int.tmod (IntKind.u64.wrap (a0)) 1200000)))).extract 0 ((ji13) : Int).toNat).toList != ([] : List UInt8)) = true := bne_iff_ne.mpr c43
                    replace H := Option.bind_eq_some_iff.mp H
                    obtain ⟨t146, A510, H⟩ := H
                    replace H : (if t146 = true then (some false) else ((text_Utf8.f (⟨#[]⟩ : ByteArray)).bind fun t147 => (if t147 = true then ((text_Runes.f (⟨#[]⟩ : ByteArray)).bind fun t148 => (some (t148 == 0))) else (some false)))) = some r := H
                    have A51 := Aside0.mk A510
                    clear A510
                    by_cases c52 : t146 = true
                    · subst c52
                      have H1 : (some false) = some r := by rw [if_pos rfl] at H; exact H
                      clear H
                      have H := H1
                      clear H1
                      obtain rfl := Option.some.inj H
                      exact absurd HT_.out (by decide)
                    · replace c52 := Bool.eq_false_iff.mpr c52
                      subst c52
                      have H1 : ((text_Utf8.f (⟨#[]⟩ : ByteArray)).bind fun t147 => (if t147 = true then ((text_Runes.f (⟨#[]⟩ : ByteArray)).bind fun t148 => (some (t148 == 0))) else (some false))) = some r := by rw [if_neg (show ¬ (false = true) by decide)] at H; exact H
                      clear H
                      have H := H1
                      clear H1
                      replace H := Option.bind_eq_some_iff.mp H
                      obtain ⟨t147, A530, H⟩ := H
                      replace H : (if t147 = true then ((text_Runes.f (⟨#[]⟩ : ByteArray)).bind fun t148 => (some (t148 == 0))) else (some false)) = some r := H
                      have A53 := Aside0.mk A530
                      clear A530
                      by_cases c54 : t147 = true
                      · subst c54
                        have H1 : ((text_Runes.f (⟨#[]⟩ : ByteArray)).bind fun t148 => (some (t148 == 0))) = some r := by rw [if_pos rfl] at H; exact H
                        clear H
                        have H := H1
                        clear H1
                        replace H := Option.bind_eq_some_iff.mp H
                        obtain ⟨t148, A550, H⟩ := H
                        replace H : (some (t148 == 0)) = some r := H
                        have A55 := Aside0.mk A550
                        clear A550
                        obtain rfl := Option.some.inj H
                        simp only [Option.some.injEq, Prod.mk.injEq] at H
                        obtain ⟨rfl⟩ := H
                        go_wp2_with (first | ((with_reducible refine gate_callee (f := 8) rfl ?_); refine goesL_ (some 44) rfl rfl Tryd.func8 (by kernel_rfl) rfl #[] rfl (by (try simp only [List.map_toArray, List.map_cons, List.map_nil]); first | done | rfl | (simp only [List.length_drop, List.length_take]; rfl)) ?_; (with_reducible refine (comptoirlaw04_awake.calls  true _ ?side1 A16.out).mono ?_); (case side1 => exact HTB_.out.below (by repeat (first | (with_reducible first | exact HB.out | apply below_alloc | apply pw_below_drewN | apply below_drew1) | exact HB.out))); rintro e w56 ⟨rfl, hb⟩; refine ⟨_, rfl, ?_⟩; have n0_ := Aside0.mk (below_step (by repeat (first | (with_reducible first | exact HB.out | apply below_alloc | apply pw_below_drewN | apply below_drew1) | exact HB.out)) hb); clear HB; have HB := n0_; clear n0_; (try clear hb); (try clear hb2); (try clear hk); (try clear hi)) | (go_at_call 9; (with_reducible refine (text_Utf8.calls (Utf8.encode (wrap32 (wrap64 (Int.tmod (IntKind.u64.wrap (a0)) 1200000)))) t137 _ ?side1 A18.out).mono ?_); (case side1 => exact HTB_.out.below (by repeat (first | (with_reducible first | exact HB.out | apply below_alloc | apply pw_below_drewN | apply below_drew1) | exact HB.out))); rintro e w57 ⟨rfl, hb⟩; have n0_ := Aside0.mk (below_step (by repeat (first | (with_reducible first | exact HB.out | apply below_alloc | apply pw_below_drewN | apply below_drew1) | exact HB.out)) hb); clear HB; have HB := n0_; clear n0_; (try clear hb); (try clear hb2); (try clear hk); (try clear hi)) | (go_at_call 9; (with_reducible refine (text_Utf8.calls ((Utf8.encode (wrap32 (wrap64 (Int.tmod (IntKind.u64.wrap (a0)) 1200000)))).extract 0 ((ji13) : Int).toNat) false _ ?side1 A51.out).mono ?_); (case side1 => exact HTB_.out.below (by repeat (first | (with_reducible first | exact HB.out | apply below_alloc | apply pw_below_drewN | apply below_drew1) | exact HB.out))); rintro e w58 ⟨rfl, hb⟩; have n0_ := Aside0.mk (below_step (by repeat (first | (with_reducible first | exact HB.out | apply below_alloc | apply pw_below_drewN | apply below_drew1) | exact HB.out)) hb); clear HB; have HB := n0_; clear n0_; (try clear hb); (try clear hb2); (try clear hk); (try clear hi)) | (go_at_call 9; (with_reducible refine (text_Utf8.calls (⟨#[]⟩ : ByteArray) true _ ?side1 A53.out).mono ?_); (case side1 => exact HTB_.out.below (by repeat (first | (with_reducible first | exact HB.out | apply below_alloc | apply pw_below_drewN | apply below_drew1) | exact HB.out))); rintro e w59 ⟨rfl, hb⟩; have n0_ := Aside0.mk (below_step (by repeat (first | (with_reducible first | exact HB.out | apply below_alloc | apply pw_below_drewN | apply below_drew1) | exact HB.out)) hb); clear HB; have HB := n0_; clear n0_; (try clear hb); (try clear hb2); (try clear hk); (try clear hi)) | (go_at_call 11; (with_reducible refine (text_Runes.calls (⟨#[]⟩ : ByteArray) t148 _ ?side1 A55.out).mono ?_); (case side1 => exact HTB_.out.below (by repeat (first | (with_reducible first | exact HB.out | apply below_alloc | apply pw_below_drewN | apply below_drew1) | exact HB.out))); rintro e w60 ⟨rfl, hb⟩; have n0_ := Aside0.mk (below_step (by repeat (first | (with_reducible first | exact HB.out | apply below_alloc | apply pw_below_drewN | apply below_drew1) | exact HB.out)) hb); clear HB; have HB := n0_; clear n0_; (try clear hb); (try clear hb2); (try clear hk); (try clear hi)))
                        go_ret
                        exact ⟨by first | rfl | (simp [errW_none, errW_some] <;> rfl) | (simp only [← hji13]; first | rfl | (simp [errW_none, errW_some] <;> rfl)) | (simp [*, errW_none, errW_some] <;> rfl), by repeat (first | (with_reducible first | exact HB.out | apply below_alloc | apply pw_below_drewN | apply below_drew1) | exact HB.out)⟩
                      · replace c54 := Bool.eq_false_iff.mpr c54
                        subst c54
                        have H1 : (some false) = some r := by rw [if_neg (show ¬ (false = true) by decide)] at H; exact H
                        clear H
                        have H := H1
                        clear H1
                        obtain rfl := Option.some.inj H
                        exact absurd HT_.out (by decide)
              · rw [if_neg c19] at H
                have c19b0 : (t137 == t133) = false := by simpa using c19
                (try (have c19b1 : decide (t137 = t133) = false := by simpa using c19))
                (try (have c19b2 : (t137 == t133) = false := by simpa using c19))
                (try (have c19b3 : ¬ (t137 = t133) := by simpa using c19))
                clear c19
                obtain rfl := Option.some.inj H
                exact absurd HT_.out (by decide)
            · replace c17 := Bool.eq_false_iff.mpr c17
              subst c17
              have H1 : (some false) = some r := by rw [if_neg (show ¬ (false = true) by decide)] at H; exact H
              clear H
              have H := H1
              clear H1
              obtain rfl := Option.some.inj H
              exact absurd HT_.out (by decide)
          · rw [if_neg c15] at H
            exact absurd H (by simp)
        · rw [if_neg c14] at H
          exact absurd H (by simp)

/-- THE ONE PURE STATEMENT of comptoirlaw04_TextRunes: yours. -/
def comptoirlaw04_TextRunes.Pure : Prop := ∀ (a0 : Int) (a1 : Int), (Lit.int .i64 a0).wf = true → (Lit.int .i64 a1).wf = true → ∃ k, comptoirlaw04_TextRunes.f k a0 a1 = some true
theorem comptoirlaw04_TextRunes.walk (P : comptoirlaw04_TextRunes.Pure) (a0 : Int) (a1 : Int) (w : World) (hT_ : Tabs w) (w0 : (Lit.int .i64 a0).wf = true) (w1 : (Lit.int .i64 a1).wf = true) :
    Calls Tryd.prog 4 #[.int .i64 a0, .int .i64 a1] w fun e w' => e = .returned (.bool true) ∧ Below w.heap.size w w' := by
  obtain ⟨k, h⟩ := P a0 a1 w0 w1
  refine (comptoirlaw04_TextRunes.calls k a0 a1 true rfl w hT_ h).mono ?_
  rintro e w' ⟨rfl, hd⟩
  exact ⟨rfl, hd⟩

end Go.Proofs.YtjhamgodpgkkjaaDoor.MT
