-- laid by wip/tools/mixprint.py over the kit's print (functions of function values by hand)
import Derived.Test.YtjhamgodpgkkjaaDoorMTx0
import Derived.Test.YtjhamgodpgkkjaaDoorMTx4
import Derived.Test.YtjhamgodpgkkjaaDoorHPlain
import Derived.Test.YtjhamgodpgkkjaaDoorHText
namespace Go.Proofs.YtjhamgodpgkkjaaDoor.MT
open Go.RowKit Go.Proofs.YtjhamgodpgkkjaaDoorW.PrintWords Go.Proofs.YtjhamgodpgkkjaaDoorW.PrintLast Go.Proofs.YtjhamgodpgkkjaaDoorW.PrintMore
attribute [local go_sem] max2_int min2_int max_two min_two max_three min_three max_four min_four   -- for this text's walks alone
set_option linter.unusedVariables false
set_option linter.unusedSimpArgs false

/-! ### comptoirlaw04_TextParts: function 5 -/
mutual
def comptoirlaw04_TextParts.j0 : Nat → ByteArray → ByteArray → Int → Bool → Option (Bool)
  | 0, _, _, _, _ => none
  | k + 1, x0, x1, x2, x17 => if x17 = true then ((comptoirlaw04_awake.f).bind fun t149 => (some t149)) else ((text_Utf8.f x0).bind fun t150 => (if t150 = true then ((text_Utf8.f x1).bind fun t151 => (comptoirlaw04_TextParts.j1 k x0 x1 x2 t151)) else (comptoirlaw04_TextParts.j1 k x0 x1 x2 false)))
def comptoirlaw04_TextParts.j1 : Nat → ByteArray → ByteArray → Int → Bool → Option (Bool)
  | 0, _, _, _, _ => none
  | k + 1, x0, x1, x2, x7 => (some (([(128 + (Int.tmod x2 128)) % 256] : List Int) : List Int)).bind fun y152 => ((text_Runes.f x0).bind fun t155 => ((text_Runes.f x1).bind fun t156 => ((comptoirlaw04_awake.f).bind fun t157 => (if t157 = true then (if x7 = true then (if x0.size + x1.size ≤ 9223372036854775807 then ((text_Utf8.f (x0 ++ x1)).bind fun t158 => (if t158 = true then ((text_Runes.f (x0 ++ x1)).bind fun t159 => (if t159 = (wrap64 (t155 + t156)) then (if x0.size + (strOfNums y152).size ≤ 9223372036854775807 then (if (x0 ++ (strOfNums y152)).size + 1 ≤ 9223372036854775807 then (if ((x0 ++ (strOfNums y152)) ++ (⟨#[120]⟩ : ByteArray)).size + x1.size ≤ 9223372036854775807 then ((text_Utf8.f (((x0 ++ (strOfNums y152)) ++ (⟨#[120]⟩ : ByteArray)) ++ x1)).bind fun t160 => (some (!t160))) else (none)) else (none)) else (none)) else (some false))) else (some false))) else (none)) else (some true)) else (some false)))))
end
def comptoirlaw04_TextParts.f (k : Nat) (a0 : ByteArray) (a1 : ByteArray) (a2 : Int) : Option (Bool) := if (a0.size : Int) > 300 then (comptoirlaw04_TextParts.j0 k a0 a1 a2 true) else (comptoirlaw04_TextParts.j0 k a0 a1 a2 (decide ((a1.size : Int) > 300)))
theorem comptoirlaw04_TextParts.mono_l : ∀ k, (∀ y0 y1 y2 y3, LeO (comptoirlaw04_TextParts.j0 k y0 y1 y2 y3) (comptoirlaw04_TextParts.j0 (k + 1) y0 y1 y2 y3)) ∧ (∀ y0 y1 y2 y3, LeO (comptoirlaw04_TextParts.j1 k y0 y1 y2 y3) (comptoirlaw04_TextParts.j1 (k + 1) y0 y1 y2 y3))
  | 0 => ⟨fun _ _ _ _ r h => by simp [comptoirlaw04_TextParts.j0] at h, fun _ _ _ _ r h => by simp [comptoirlaw04_TextParts.j1] at h⟩
  | k + 1 => by
    obtain ⟨ih0, ih1⟩ := comptoirlaw04_TextParts.mono_l k
    refine ⟨?_, ?_⟩
    · intro y0 y1 y2 y3
      unfold comptoirlaw04_TextParts.j0
      repeat' first
      | (with_reducible exact ih0 _ _ _ _)
      | (with_reducible exact ih1 _ _ _ _)
      | (with_reducible exact LeO.refl _)
      | (with_reducible exact LeO.none _)
      | (with_reducible refine LeO.ite ?_ ?_)
      | (with_reducible refine LeO.bind ?_ (fun _ => ?_))
      | exact ih0 _ _ _ _
      | exact ih1 _ _ _ _
      | exact LeO.none _
      | refine LeO.ite ?_ ?_
      | refine LeO.bind ?_ (fun _ => ?_)
    · intro y0 y1 y2 y3
      unfold comptoirlaw04_TextParts.j1
      repeat' first
      | (with_reducible exact ih0 _ _ _ _)
      | (with_reducible exact ih1 _ _ _ _)
      | (with_reducible exact LeO.refl _)
      | (with_reducible exact LeO.none _)
      | (with_reducible refine LeO.ite ?_ ?_)
      | (with_reducible refine LeO.bind ?_ (fun _ => ?_))
      | exact ih0 _ _ _ _
      | exact ih1 _ _ _ _
      | exact LeO.none _
      | refine LeO.ite ?_ ?_
      | refine LeO.bind ?_ (fun _ => ?_)
theorem comptoirlaw04_TextParts.mono : ∀ a0 a1 a2 k, LeO (comptoirlaw04_TextParts.f k a0 a1 a2) (comptoirlaw04_TextParts.f (k + 1) a0 a1 a2) := by
  intro a0 a1 a2 k
  obtain ⟨ih0, ih1⟩ := comptoirlaw04_TextParts.mono_l k
  unfold comptoirlaw04_TextParts.f
  repeat' first
      | (with_reducible exact ih0 _ _ _ _)
      | (with_reducible exact ih1 _ _ _ _)
      | (with_reducible exact LeO.refl _)
      | (with_reducible exact LeO.none _)
      | (with_reducible refine LeO.ite ?_ ?_)
      | (with_reducible refine LeO.bind ?_ (fun _ => ?_))
      | exact ih0 _ _ _ _
      | exact ih1 _ _ _ _
      | exact LeO.none _
      | refine LeO.ite ?_ ?_
      | refine LeO.bind ?_ (fun _ => ?_)
set_option maxHeartbeats 8000000 in
set_option maxRecDepth 100000 in
theorem comptoirlaw04_TextParts.calls (k : Nat) (a0 : ByteArray) (a1 : ByteArray) (a2 : Int) (r : Bool) (ht_ : r = true) (w : World) (hT_ : Tabs w) (h : comptoirlaw04_TextParts.f k a0 a1 a2 = some r) :
    Calls Tryd.prog 5 #[.string a0, .string a1, .int .u8 a2] w fun e w' => e = .returned (.bool r) ∧ Below w.heap.size w w' := by
  have HT_ := Aside0.mk ht_
  clear ht_
  have HTB_ := Aside0.mk hT_
  clear hT_
  have HB := Aside0.mk (Below.refl w.heap.size w)
  have H : (if (a0.size : Int) > 300 then (comptoirlaw04_TextParts.j0 k a0 a1 a2 true) else (comptoirlaw04_TextParts.j0 k a0 a1 a2 (decide ((a1.size : Int) > 300)))) = some r := h
  clear h
  have HC4 := Aside0.mk H
  clear H
  go_enter Tryd.func5, Tryd.ntmps5
  go_upto_region 1 with (fail)
  go_cut [17] (fun v17 wc => ∃ (kq : Nat) (x17_3 : Bool), v17 = .bool x17_3 ∧ Aside0 (comptoirlaw04_TextParts.j0 kq a0 a1 a2 x17_3 = some r) ∧ Aside0 (kq ≤ k) ∧ Aside0 (Below w.heap.size w wc))
  case first =>
    have H := HC4.out
    clear HC4
    by_cases c5 : (a0.size : Int) > 300
    · rw [if_pos c5] at H
      have c5b0 : decide (300 < (a0.size : Int)) = true := decide_eq_true c5
      have c5b1 : decide (300 < a0.size) = true := decide_eq_true (by omega)
      clear c5
      (first | rw [c5b0] | (simp only [i64_w, i32_w]; rw [c5b0]) | skip)
      have H' := Aside0.mk H
      clear H
      go_wp2
      go_meet
      case rel => exact ⟨_, (true), (by first | rfl | (simp; done) | (simp [*]; done)), H', ⟨by first | omega | exact Nat.le_refl _⟩, ⟨by repeat (first | (with_reducible first | exact HB.out | apply below_alloc | apply pw_below_drewN | apply below_drew1) | exact HB.out)⟩⟩
    · rw [if_neg c5] at H
      have c5b0 : decide (300 < (a0.size : Int)) = false := decide_eq_false c5
      have c5b1 : decide (300 < a0.size) = false := decide_eq_false (by omega)
      clear c5
      (first | rw [c5b0] | (simp only [i64_w, i32_w]; rw [c5b0]) | skip)
      have H' := Aside0.mk H
      clear H
      go_wp2
      go_meet
      case rel => exact ⟨_, (decide ((a1.size : Int) > 300)), (by first | rfl | (simp; done) | (simp [*]; done)), H', ⟨by first | omega | exact Nat.le_refl _⟩, ⟨by repeat (first | (with_reducible first | exact HB.out | apply below_alloc | apply pw_below_drewN | apply below_drew1) | exact HB.out)⟩⟩
  case rest =>
    clear HC4
    try clear p2
    try clear c5
    try clear c5b0
    try clear c5b1
    obtain ⟨kq, x17_3, rfl, HA, HJ3, HB⟩ := hcut
    cases kq with
    | zero => exact absurd HA.out (by simp [comptoirlaw04_TextParts.j0])
    | succ kj3 =>
      have H := HA.out
      clear HA
      simp only [comptoirlaw04_TextParts.j0] at H
      by_cases c6 : x17_3 = true
      · subst c6
        have H1 : ((comptoirlaw04_awake.f).bind fun t149 => (some t149)) = some r := by rw [if_pos rfl] at H; exact H
        clear H
        have H := H1
        clear H1
        replace H := Option.bind_eq_some_iff.mp H
        obtain ⟨t149, A70, H⟩ := H
        replace H : (some t149) = some r := H
        have A7 := Aside0.mk A70
        clear A70
        obtain rfl := Option.some.inj H
        simp only [Option.some.injEq, Prod.mk.injEq] at H
        obtain ⟨rfl⟩ := H
        go_wp2_with (first | ((with_reducible refine gate_callee (f := 8) rfl ?_); refine goesL_ (some 18) rfl rfl Tryd.func8 (by kernel_rfl) rfl #[] rfl (by (try simp only [List.map_toArray, List.map_cons, List.map_nil]); first | done | rfl | (simp only [List.length_drop, List.length_take]; rfl)) ?_; (with_reducible refine (comptoirlaw04_awake.calls  t149 _ ?side1 A7.out).mono ?_); (case side1 => exact HTB_.out.below (by repeat (first | (with_reducible first | exact HB.out | apply below_alloc | apply pw_below_drewN | apply below_drew1) | exact HB.out))); rintro e w8 ⟨rfl, hb⟩; refine ⟨_, rfl, ?_⟩; have n0_ := Aside0.mk (below_step (by repeat (first | (with_reducible first | exact HB.out | apply below_alloc | apply pw_below_drewN | apply below_drew1) | exact HB.out)) hb); clear HB; have HB := n0_; clear n0_; (try clear hb); (try clear hb2); (try clear hk); (try clear hi)))
        go_ret
        exact ⟨by first | rfl | (simp [errW_none, errW_some] <;> rfl) | (simp [*, errW_none, errW_some] <;> rfl), by repeat (first | (with_reducible first | exact HB.out | apply below_alloc | apply pw_below_drewN | apply below_drew1) | exact HB.out)⟩
      · replace c6 := Bool.eq_false_iff.mpr c6
        subst c6
        have H1 : ((text_Utf8.f a0).bind fun t150 => (if t150 = true then ((text_Utf8.f a1).bind fun t151 => (comptoirlaw04_TextParts.j1 kj3 a0 a1 a2 t151)) else (comptoirlaw04_TextParts.j1 kj3 a0 a1 a2 false))) = some r := by rw [if_neg (show ¬ (false = true) by decide)] at H; exact H
        clear H
        have H := H1
        clear H1
        have HC9 := Aside0.mk H
        clear H
        go_upto_region 3 with (fail)
        go_cut [7] (fun v7 wc => ∃ (kq : Nat) (x7_8 : Bool), v7 = .bool x7_8 ∧ Aside0 (comptoirlaw04_TextParts.j1 kq a0 a1 a2 x7_8 = some r) ∧ Aside0 (kq ≤ kj3) ∧ Aside0 (Below w.heap.size w wc))
        case first =>
          have H := HC9.out
          clear HC9
          replace H := Option.bind_eq_some_iff.mp H
          obtain ⟨t150, A100, H⟩ := H
          replace H : (if t150 = true then ((text_Utf8.f a1).bind fun t151 => (comptoirlaw04_TextParts.j1 kj3 a0 a1 a2 t151)) else (comptoirlaw04_TextParts.j1 kj3 a0 a1 a2 false)) = some r := H
          have A10 := Aside0.mk A100
          clear A100
          by_cases c11 : t150 = true
          · subst c11
            have H1 : ((text_Utf8.f a1).bind fun t151 => (comptoirlaw04_TextParts.j1 kj3 a0 a1 a2 t151)) = some r := by rw [if_pos rfl] at H; exact H
            clear H
            have H := H1
            clear H1
            replace H := Option.bind_eq_some_iff.mp H
            obtain ⟨t151, A120, H⟩ := H
            replace H : (comptoirlaw04_TextParts.j1 kj3 a0 a1 a2 t151) = some r := H
            have A12 := Aside0.mk A120
            clear A120
            have H' := Aside0.mk H
            clear H
            go_wp2_with (first | ((with_reducible refine gate_callee (f := 9) rfl ?_); refine goesL_ (some 20) rfl rfl Tryd.func9 (by kernel_rfl) rfl #[.string a0] rfl (by (try simp only [List.map_toArray, List.map_cons, List.map_nil]); first | done | rfl | (simp only [List.length_drop, List.length_take]; rfl)) ?_; (with_reducible refine (text_Utf8.calls a0 true _ ?side1 A10.out).mono ?_); (case side1 => exact HTB_.out.below (by repeat (first | (with_reducible first | exact HB.out | apply below_alloc | apply pw_below_drewN | apply below_drew1) | exact HB.out))); rintro e w13 ⟨rfl, hb⟩; refine ⟨_, rfl, ?_⟩; have n0_ := Aside0.mk (below_step (by repeat (first | (with_reducible first | exact HB.out | apply below_alloc | apply pw_below_drewN | apply below_drew1) | exact HB.out)) hb); clear HB; have HB := n0_; clear n0_; (try clear hb); (try clear hb2); (try clear hk); (try clear hi)) | (go_at_call 9; (with_reducible refine (text_Utf8.calls a1 t151 _ ?side1 A12.out).mono ?_); (case side1 => exact HTB_.out.below (by repeat (first | (with_reducible first | exact HB.out | apply below_alloc | apply pw_below_drewN | apply below_drew1) | exact HB.out))); rintro e w14 ⟨rfl, hb⟩; have n0_ := Aside0.mk (below_step (by repeat (first | (with_reducible first | exact HB.out | apply below_alloc | apply pw_below_drewN | apply below_drew1) | exact HB.out)) hb); clear HB; have HB := n0_; clear n0_; (try clear hb); (try clear hb2); (try clear hk); (try clear hi)))
            go_meet
            case rel => exact ⟨_, (t151), (by first | rfl | (simp; done) | (simp [*]; done)), H', ⟨by have := HJ3.out; first | omega | exact Nat.le_refl _⟩, ⟨by repeat (first | (with_reducible first | exact HB.out | apply below_alloc | apply pw_below_drewN | apply below_drew1) | exact HB.out)⟩⟩
          · replace c11 := Bool.eq_false_iff.mpr c11
            subst c11
            have H1 : (comptoirlaw04_TextParts.j1 kj3 a0 a1 a2 false) = some r := by rw [if_neg (show ¬ (false = true) by decide)] at H; exact H
            clear H
            have H := H1
            clear H1
            have H' := Aside0.mk H
            clear H
            go_wp2_with (first | ((with_reducible refine gate_callee (f := 9) rfl ?_); refine goesL_ (some 20) rfl rfl Tryd.func9 (by kernel_rfl) rfl #[.string a0] rfl (by (try simp only [List.map_toArray, List.map_cons, List.map_nil]); first | done | rfl | (simp only [List.length_drop, List.length_take]; rfl)) ?_; (with_reducible refine (text_Utf8.calls a0 false _ ?side1 A10.out).mono ?_); (case side1 => exact HTB_.out.below (by repeat (first | (with_reducible first | exact HB.out | apply below_alloc | apply pw_below_drewN | apply below_drew1) | exact HB.out))); rintro e w15 ⟨rfl, hb⟩; refine ⟨_, rfl, ?_⟩; have n0_ := Aside0.mk (below_step (by repeat (first | (with_reducible first | exact HB.out | apply below_alloc | apply pw_below_drewN | apply below_drew1) | exact HB.out)) hb); clear HB; have HB := n0_; clear n0_; (try clear hb); (try clear hb2); (try clear hk); (try clear hi)))
            go_meet
            case rel => exact ⟨_, (false), (by first | rfl | (simp; done) | (simp [*]; done)), H', ⟨by have := HJ3.out; first | omega | exact Nat.le_refl _⟩, ⟨by repeat (first | (with_reducible first | exact HB.out | apply below_alloc | apply pw_below_drewN | apply below_drew1) | exact HB.out)⟩⟩
        case rest =>
          clear HC9
          try clear c1
          try clear p2
          try clear c5
          try clear c5b0
          try clear c5b1
          try clear c6
          try clear c8
          try clear c9
          try clear c11
          try clear p2
          obtain ⟨kq, x7_8, rfl, HA, HJ8, HB⟩ := hcut
          cases kq with
          | zero => exact absurd HA.out (by simp [comptoirlaw04_TextParts.j1])
          | succ kj8 =>
            have H := HA.out
            clear HA
            simp only [comptoirlaw04_TextParts.j1] at H
            obtain ⟨y152, hy152⟩ : ∃ y_ : List Int, y_ = (([(128 + (Int.tmod a2 128)) % 256] : List Int)) := ⟨_, rfl⟩
            replace H : ((text_Runes.f a0).bind fun t155 => ((text_Runes.f a1).bind fun t156 => ((comptoirlaw04_awake.f).bind fun t157 => (if t157 = true then (if x7_8 = true then (if a0.size + a1.size ≤ 9223372036854775807 then ((text_Utf8.f (a0 ++ a1)).bind fun t158 => (if t158 = true then ((text_Runes.f (a0 ++ a1)).bind fun t159 => (if t159 = (wrap64 (t155 + t156)) then (if a0.size + (strOfNums y152).size ≤ 9223372036854775807 then (if (a0 ++ (strOfNums y152)).size + 1 ≤ 9223372036854775807 then (if ((a0 ++ (strOfNums y152)) ++ (⟨#[120]⟩ : ByteArray)).size + a1.size ≤ 9223372036854775807 then ((text_Utf8.f (((a0 ++ (strOfNums y152)) ++ (⟨#[120]⟩ : ByteArray)) ++ a1)).bind fun t160 => (some (!t160))) else (none)) else (none)) else (none)) else (some false))) else (some false))) else (none)) else (some true)) else (some false))))) = some r := by first | (rw [hy152]; with_reducible exact H) | (have H2_ := (Option.bind_some _ _).symm.trans H; rw [hy152]; with_reducible exact H2_) | (have H2_ := (Option.bind_some _ _).symm.trans H; with_reducible exact H2_) | with_reducible exact H | (rw [hy152]; exact H) | exact H
            have Ny152 := Aside0.mk hy152
            clear hy152
            replace H := Option.bind_eq_some_iff.mp H
            obtain ⟨t155, A160, H⟩ := H
            replace H : ((text_Runes.f a1).bind fun t156 => ((comptoirlaw04_awake.f).bind fun t157 => (if t157 = true then (if x7_8 = true then (if a0.size + a1.size ≤ 9223372036854775807 then ((text_Utf8.f (a0 ++ a1)).bind fun t158 => (if t158 = true then ((text_Runes.f (a0 ++ a1)).bind fun t159 => (if t159 = (wrap64 (t155 + t156)) then (if a0.size + (strOfNums y152).size ≤ 9223372036854775807 then (if (a0 ++ (strOfNums y152)).size + 1 ≤ 9223372036854775807 then (if ((a0 ++ (strOfNums y152)) ++ (⟨#[120]⟩ : ByteArray)).size + a1.size ≤ 9223372036854775807 then ((text_Utf8.f (((a0 ++ (strOfNums y152)) ++ (⟨#[120]⟩ : ByteArray)) ++ a1)).bind fun t160 => (some (!t160))) else (none)) else (none)) else (none)) else (some false))) else (some false))) else (none)) else (some true)) else (some false)))) = some r := H
            have A16 := Aside0.mk A160
            clear A160
            replace H := Option.bind_eq_some_iff.mp H
            obtain ⟨t156, A170, H⟩ := H
            replace H : ((comptoirlaw04_awake.f).bind fun t157 => (if t157 = true then (if x7_8 = true then (if a0.size + a1.size ≤ 9223372036854775807 then ((text_Utf8.f (a0 ++ a1)).bind fun t158 => (if t158 = true then ((text_Runes.f (a0 ++ a1)).bind fun t159 => (if t159 = (wrap64 (t155 + t156)) then (if a0.size + (strOfNums y152).size ≤ 9223372036854775807 then (if (a0 ++ (strOfNums y152)).size + 1 ≤ 9223372036854775807 then (if ((a0 ++ (strOfNums y152)) ++ (⟨#[120]⟩ : ByteArray)).size + a1.size ≤ 9223372036854775807 then ((text_Utf8.f (((a0 ++ (strOfNums y152)) ++ (⟨#[120]⟩ : ByteArray)) ++ a1)).bind fun t160 => (some (!t160))) else (none)) else (none)) else (none)) else (some false))) else (some false))) else (none)) else (some true)) else (some false))) = some r := H
            have A17 := Aside0.mk A170
            clear A170
            replace H := Option.bind_eq_some_iff.mp H
            obtain ⟨t157, A180, H⟩ := H
            replace H : (if t157 = true then (if x7_8 = true then (if a0.size + a1.size ≤ 9223372036854775807 then ((text_Utf8.f (a0 ++ a1)).bind fun t158 => (if t158 = true then ((text_Runes.f (a0 ++ a1)).bind fun t159 => (if t159 = (wrap64 (t155 + t156)) then (if a0.size + (strOfNums y152).size ≤ 9223372036854775807 then (if (a0 ++ (strOfNums y152)).size + 1 ≤ 9223372036854775807 then (if ((a0 ++ (strOfNums y152)) ++ (⟨#[120]⟩ : ByteArray)).size + a1.size ≤ 9223372036854775807 then ((text_Utf8.f (((a0 ++ (strOfNums y152)) ++ (⟨#[120]⟩ : ByteArray)) ++ a1)).bind fun t160 => (some (!t160))) else (none)) else (none)) else (none)) else (some false))) else (some false))) else (none)) else (some true)) else (some false)) = some r := H
            have A18 := Aside0.mk A180
            clear A180
            by_cases c19 : t157 = true
            · subst c19
              have H1 : (if x7_8 = true then (if a0.size + a1.size ≤ 9223372036854775807 then ((text_Utf8.f (a0 ++ a1)).bind fun t158 => (if t158 = true then ((text_Runes.f (a0 ++ a1)).bind fun t159 => (if t159 = (wrap64 (t155 + t156)) then (if a0.size + (strOfNums y152).size ≤ 9223372036854775807 then (if (a0 ++ (strOfNums y152)).size + 1 ≤ 9223372036854775807 then (if ((a0 ++ (strOfNums y152)) ++ (⟨#[120]⟩ : ByteArray)).size + a1.size ≤ 9223372036854775807 then ((text_Utf8.f (((a0 ++ (strOfNums y152)) ++ (⟨#[120]⟩ : ByteArray)) ++ a1)).bind fun t160 => (some (!t160))) else (none)) else (none)) else (none)) else (some false))) else (some false))) else (none)) else (some true)) = some r := by rw [if_pos rfl] at H; exact H
              clear H
              have H := H1
              clear H1
              by_cases c20 : x7_8 = true
              · subst c20
                have H1 : (if a0.size + a1.size ≤ 9223372036854775807 then ((text_Utf8.f (a0 ++ a1)).bind fun t158 => (if t158 = true then ((text_Runes.f (a0 ++ a1)).bind fun t159 => (if t159 = (wrap64 (t155 + t156)) then (if a0.size + (strOfNums y152).size ≤ 9223372036854775807 then (if (a0 ++ (strOfNums y152)).size + 1 ≤ 9223372036854775807 then (if ((a0 ++ (strOfNums y152)) ++ (⟨#[120]⟩ : ByteArray)).size + a1.size ≤ 9223372036854775807 then ((text_Utf8.f (((a0 ++ (strOfNums y152)) ++ (⟨#[120]⟩ : ByteArray)) ++ a1)).bind fun t160 => (some (!t160))) else (none)) else (none)) else (none)) else (some false))) else (some false))) else (none)) = some r := by rw [if_pos rfl] at H; exact H
                clear H
                have H := H1
                clear H1
                by_cases c21 : a0.size + a1.size ≤ 9223372036854775807
                · rw [if_pos c21] at H
                  have c21b0 := eq_true c21
                  have c21b1 : decide (a0.size + a1.size ≤ 9223372036854775807) = true := decide_eq_true c21
                  try have c21b2 : (9223372036854775807 < a0.size + a1.size) = False := eq_false (Nat.not_lt.2 c21)
                  replace H := Option.bind_eq_some_iff.mp H
                  obtain ⟨t158, A220, H⟩ := H
                  replace H : (if t158 = true then ((text_Runes.f (a0 ++ a1)).bind fun t159 => (if t159 = (wrap64 (t155 + t156)) then (if a0.size + (strOfNums y152).size ≤ 9223372036854775807 then (if (a0 ++ (strOfNums y152)).size + 1 ≤ 9223372036854775807 then (if ((a0 ++ (strOfNums y152)) ++ (⟨#[120]⟩ : ByteArray)).size + a1.size ≤ 9223372036854775807 then ((text_Utf8.f (((a0 ++ (strOfNums y152)) ++ (⟨#[120]⟩ : ByteArray)) ++ a1)).bind fun t160 => (some (!t160))) else (none)) else (none)) else (none)) else (some false))) else (some false)) = some r := H
                  have A22 := Aside0.mk A220
                  clear A220
                  by_cases c23 : t158 = true
                  · subst c23
                    have H1 : ((text_Runes.f (a0 ++ a1)).bind fun t159 => (if t159 = (wrap64 (t155 + t156)) then (if a0.size + (strOfNums y152).size ≤ 9223372036854775807 then (if (a0 ++ (strOfNums y152)).size + 1 ≤ 9223372036854775807 then (if ((a0 ++ (strOfNums y152)) ++ (⟨#[120]⟩ : ByteArray)).size + a1.size ≤ 9223372036854775807 then ((text_Utf8.f (((a0 ++ (strOfNums y152)) ++ (⟨#[120]⟩ : ByteArray)) ++ a1)).bind fun t160 => (some (!t160))) else (none)) else (none)) else (none)) else (some false))) = some r := by rw [if_pos rfl] at H; exact H
                    clear H
                    have H := H1
                    clear H1
                    replace H := Option.bind_eq_some_iff.mp H
                    obtain ⟨t159, A240, H⟩ := H
                    replace H : (if t159 = (wrap64 (t155 + t156)) then (if a0.size + (strOfNums y152).size ≤ 9223372036854775807 then (if (a0 ++ (strOfNums y152)).size + 1 ≤ 9223372036854775807 then (if ((a0 ++ (strOfNums y152)) ++ (⟨#[120]⟩ : ByteArray)).size + a1.size ≤ 9223372036854775807 then ((text_Utf8.f (((a0 ++ (strOfNums y152)) ++ (⟨#[120]⟩ : ByteArray)) ++ a1)).bind fun t160 => (some (!t160))) else (none)) else (none)) else (none)) else (some false)) = some r := H
                    have A24 := Aside0.mk A240
                    clear A240
                    by_cases c25 : t159 = (wrap64 (t155 + t156))
                    · rw [if_pos c25] at H
                      have c25b0 : (t159 == (wrap64 (t155 + t156))) = true := beq_iff_eq.mpr c25
                      have c25b1 : (t159 != (wrap64 (t155 + t156))) = false := bne_eq_false_iff_eq.mpr c25
                      clear c25
                      by_cases c26 : a0.size + (strOfNums y152).size ≤ 9223372036854775807
                      · rw [if_pos c26] at H
                        have c26b0 := eq_true c26
                        have c26b1 : decide (a0.size + (strOfNums y152).size ≤ 9223372036854775807) = true := decide_eq_true c26
                        try have c26b2 : (9223372036854775807 < a0.size + (strOfNums y152).size) = False := eq_false (Nat.not_lt.2 c26)
                        by_cases c27 : (a0 ++ (strOfNums y152)).size + 1 ≤ 9223372036854775807
                        · rw [if_pos c27] at H
                          have c27b0 := eq_true c27
                          have c27b1 : decide ((a0 ++ (strOfNums y152)).size + 1 ≤ 9223372036854775807) = true := decide_eq_true c27
                          try have c27b2 : (9223372036854775807 < (a0 ++ (strOfNums y152)).size + 1) = False := eq_false (Nat.not_lt.2 c27)
                          try (have c27b3 := Nat.not_lt.2 c27; simp only [ByteArray.size_append] at c27b3; have c27b4 := eq_false c27b3; clear c27b3)
                          by_cases c28 : ((a0 ++ (strOfNums y152)) ++ (⟨#[120]⟩ : ByteArray)).size + a1.size ≤ 9223372036854775807
                          · rw [if_pos c28] at H
                            have c28b0 := eq_true c28
                            have c28b1 : decide (((a0 ++ (strOfNums y152)) ++ (⟨#[120]⟩ : ByteArray)).size + a1.size ≤ 9223372036854775807) = true := decide_eq_true c28
                            try have c28b2 : (9223372036854775807 < ((a0 ++ (strOfNums y152)) ++ (⟨#[120]⟩ : ByteArray)).size + a1.size) = False := eq_false (Nat.not_lt.2 c28)
                            try (have c28b3 := Nat.not_lt.2 c28; simp only [ByteArray.size_append] at c28b3; have c28b4 := eq_false c28b3; clear c28b3)
                            replace H := Option.bind_eq_some_iff.mp H
                            obtain ⟨t160, A290, H⟩ := H
                            replace H : (some (!t160)) = some r := H
                            have A29 := Aside0.mk A290
                            clear A290
                            obtain rfl := Option.some.inj H
                            simp only [Option.some.injEq, Prod.mk.injEq] at H
                            obtain ⟨rfl⟩ := H
                            go_wp2_with (first | ((with_reducible refine gate_dst (N := 28) rfl ?_); (try (refine gate_guard (by rfl) ?_; dsimp only)); refine Kd.R_lit (Kd.int .u8) _ 5 ?hg (N := 28) ?hd (xs := ([(128 + (Int.tmod a2 128)) % 256] : List Int)) (inner := [.int .u8 ((128 + (Int.tmod a2 128)) % 256)]) (ok := fun _ => True) (okp := fun _ => True) ?hr ?hp (fun _ hk => hk) trivial (Below.refl _ _) (Nat.le_refl _) (by simp) ?_; (case hd => rfl); (case hg => rfl); (case hr => first | (go_simp; done) | (go_simp; rfl) | (go_simp; simp only [show ∀ l_ : List UInt8, (l_ != []) = !l_.isEmpty from fun l_ => by cases l_ <;> rfl]; done)); (case hp => exact (Reps.one (show Kd.M (Kd.int .u8) _ _ _ ((128 + (Int.tmod a2 128)) % 256) [.int .u8 ((128 + (Int.tmod a2 128)) % 256)] from rfl) (Reps.none _ _))); intro v153 w30 ho31 hb hg_ hnew_; clear hg_ hnew_; (first | rw [← Ny152.out] at ho31 | (simp only [Int.reduceToNat] at ho31; rw [← Ny152.out] at ho31)); have n0_ := Aside0.mk (Kd.R_lower ho31 (below_size (by repeat (first | (with_reducible first | exact HB.out | apply below_alloc | apply pw_below_drewN | apply below_drew1) | exact HB.out)))); have n1_ := Aside0.mk (below_step (by repeat (first | (with_reducible first | exact HB.out | apply below_alloc | apply pw_below_drewN | apply below_drew1) | exact HB.out)) hb); clear HB; have HO154 := n0_; have HB := n1_; clear n0_ n1_; clear hb ho31; have hcv32 := own_string (P := Tryd.prog) Tryd.underlying30 Tryd.underlying5 Tryd.underlying9 (Kd.own_of_R HO154.out)) | ((with_reducible refine gate_callee (f := 11) rfl ?_); refine goesL_ (some 31) rfl rfl Tryd.func11 (by kernel_rfl) rfl #[.string a0] rfl (by (try simp only [List.map_toArray, List.map_cons, List.map_nil]); first | done | rfl | (simp only [List.length_drop, List.length_take]; rfl)) ?_; (with_reducible refine (text_Runes.calls a0 t155 _ ?side1 A16.out).mono ?_); (case side1 => exact HTB_.out.below (by repeat (first | (with_reducible first | exact HB.out | apply below_alloc | apply pw_below_drewN | apply below_drew1) | exact HB.out))); rintro e w33 ⟨rfl, hb⟩; refine ⟨_, rfl, ?_⟩; have n0_ := Aside0.mk (Kd.R_below (by (with_reducible repeat (first | apply Kd.R_alloc | apply Kd.R_drewN | apply Kd.R_drew)); exact HO154.out) hb); have n1_ := Aside0.mk (below_step (by repeat (first | (with_reducible first | exact HB.out | apply below_alloc | apply pw_below_drewN | apply below_drew1) | exact HB.out)) hb); clear HO154; clear HB; have HO154 := n0_; have HB := n1_; clear n0_ n1_; (try clear hb); (try clear hb2); (try clear hk); (try clear hi)) | ((with_reducible refine gate_callee (f := 11) rfl ?_); refine goesL_ (some 33) rfl rfl Tryd.func11 (by kernel_rfl) rfl #[.string a1] rfl (by (try simp only [List.map_toArray, List.map_cons, List.map_nil]); first | done | rfl | (simp only [List.length_drop, List.length_take]; rfl)) ?_; (with_reducible refine (text_Runes.calls a1 t156 _ ?side1 A17.out).mono ?_); (case side1 => exact HTB_.out.below (by repeat (first | (with_reducible first | exact HB.out | apply below_alloc | apply pw_below_drewN | apply below_drew1) | exact HB.out))); rintro e w34 ⟨rfl, hb⟩; refine ⟨_, rfl, ?_⟩; have n0_ := Aside0.mk (Kd.R_below (by (with_reducible repeat (first | apply Kd.R_alloc | apply Kd.R_drewN | apply Kd.R_drew)); exact HO154.out) hb); have n1_ := Aside0.mk (below_step (by repeat (first | (with_reducible first | exact HB.out | apply below_alloc | apply pw_below_drewN | apply below_drew1) | exact HB.out)) hb); clear HO154; clear HB; have HO154 := n0_; have HB := n1_; clear n0_ n1_; (try clear hb); (try clear hb2); (try clear hk); (try clear hi)) | ((with_reducible refine gate_callee (f := 8) rfl ?_); refine goesL_ (some 35) rfl rfl Tryd.func8 (by kernel_rfl) rfl #[] rfl (by (try simp only [List.map_toArray, List.map_cons, List.map_nil]); first | done | rfl | (simp only [List.length_drop, List.length_take]; rfl)) ?_; (with_reducible refine (comptoirlaw04_awake.calls  true _ ?side1 A18.out).mono ?_); (case side1 => exact HTB_.out.below (by repeat (first | (with_reducible first | exact HB.out | apply below_alloc | apply pw_below_drewN | apply below_drew1) | exact HB.out))); rintro e w35 ⟨rfl, hb⟩; refine ⟨_, rfl, ?_⟩; have n0_ := Aside0.mk (Kd.R_below (by (with_reducible repeat (first | apply Kd.R_alloc | apply Kd.R_drewN | apply Kd.R_drew)); exact HO154.out) hb); have n1_ := Aside0.mk (below_step (by repeat (first | (with_reducible first | exact HB.out | apply below_alloc | apply pw_below_drewN | apply below_drew1) | exact HB.out)) hb); clear HO154; clear HB; have HO154 := n0_; have HB := n1_; clear n0_ n1_; (try clear hb); (try clear hb2); (try clear hk); (try clear hi)) | (go_at_call 9; (with_reducible refine (text_Utf8.calls (a0 ++ a1) true _ ?side1 A22.out).mono ?_); (case side1 => exact HTB_.out.below (by repeat (first | (with_reducible first | exact HB.out | apply below_alloc | apply pw_below_drewN | apply below_drew1) | exact HB.out))); rintro e w36 ⟨rfl, hb⟩; have n0_ := Aside0.mk (Kd.R_below (by (with_reducible repeat (first | apply Kd.R_alloc | apply Kd.R_drewN | apply Kd.R_drew)); exact HO154.out) hb); have n1_ := Aside0.mk (below_step (by repeat (first | (with_reducible first | exact HB.out | apply below_alloc | apply pw_below_drewN | apply below_drew1) | exact HB.out)) hb); clear HO154; clear HB; have HO154 := n0_; have HB := n1_; clear n0_ n1_; (try clear hb); (try clear hb2); (try clear hk); (try clear hi)) | (go_at_call 11; (with_reducible refine (text_Runes.calls (a0 ++ a1) t159 _ ?side1 A24.out).mono ?_); (case side1 => exact HTB_.out.below (by repeat (first | (with_reducible first | exact HB.out | apply below_alloc | apply pw_below_drewN | apply below_drew1) | exact HB.out))); rintro e w37 ⟨rfl, hb⟩; have n0_ := Aside0.mk (Kd.R_below (by (with_reducible repeat (first | apply Kd.R_alloc | apply Kd.R_drewN | apply Kd.R_drew)); exact HO154.out) hb); have n1_ := Aside0.mk (below_step (by repeat (first | (with_reducible first | exact HB.out | apply below_alloc | apply pw_below_drewN | apply below_drew1) | exact HB.out)) hb); clear HO154; clear HB; have HO154 := n0_; have HB := n1_; clear n0_ n1_; (try clear hb); (try clear hb2); (try clear hk); (try clear hi)) | (go_at_call 9; (with_reducible refine (text_Utf8.calls (((a0 ++ (strOfNums y152)) ++ (⟨#[120]⟩ : ByteArray)) ++ a1) t160 _ ?side1 A29.out).mono ?_); (case side1 => exact HTB_.out.below (by repeat (first | (with_reducible first | exact HB.out | apply below_alloc | apply pw_below_drewN | apply below_drew1) | exact HB.out))); rintro e w38 ⟨rfl, hb⟩; have n0_ := Aside0.mk (Kd.R_below (by (with_reducible repeat (first | apply Kd.R_alloc | apply Kd.R_drewN | apply Kd.R_drew)); exact HO154.out) hb); have n1_ := Aside0.mk (below_step (by repeat (first | (with_reducible first | exact HB.out | apply below_alloc | apply pw_below_drewN | apply below_drew1) | exact HB.out)) hb); clear HO154; clear HB; have HO154 := n0_; have HB := n1_; clear n0_ n1_; (try clear hb); (try clear hb2); (try clear hk); (try clear hi)))
                            go_ret
                            exact ⟨by first | rfl | (simp [errW_none, errW_some] <;> rfl) | (simp [*, errW_none, errW_some] <;> rfl), by repeat (first | (with_reducible first | exact HB.out | apply below_alloc | apply pw_below_drewN | apply below_drew1) | exact HB.out)⟩
                          · rw [if_neg c28] at H
                            exact absurd H (by simp)
                        · rw [if_neg c27] at H
                          exact absurd H (by simp)
                      · rw [if_neg c26] at H
                        exact absurd H (by simp)
                    · rw [if_neg c25] at H
                      have c25b0 : (t159 == (wrap64 (t155 + t156))) = false := beq_eq_false_iff_ne.mpr c25
                      have c25b1 : (t159 != (wrap64 (t155 + t156))) = true := bne_iff_ne.mpr c25
                      obtain rfl := Option.some.inj H
                      exact absurd HT_.out (by decide)
                  · replace c23 := Bool.eq_false_iff.mpr c23
                    subst c23
                    have H1 : (some false) = some r := by rw [if_neg (show ¬ (false = true) by decide)] at H; exact H
                    clear H
                    have H := H1
                    clear H1
                    obtain rfl := Option.some.inj H
                    exact absurd HT_.out (by decide)
                · rw [if_neg c21] at H
                  exact absurd H (by simp)
              · replace c20 := Bool.eq_false_iff.mpr c20
                subst c20
                have H1 : (some true) = some r := by rw [if_neg (show ¬ (false = true) by decide)] at H; exact H
                clear H
                have H := H1
                clear H1
                obtain rfl := Option.some.inj H
                simp only [Option.some.injEq, Prod.mk.injEq] at H
                obtain ⟨rfl⟩ := H
                go_wp2_with (first | ((with_reducible refine gate_dst (N := 28) rfl ?_); (try (refine gate_guard (by rfl) ?_; dsimp only)); refine Kd.R_lit (Kd.int .u8) _ 5 ?hg (N := 28) ?hd (xs := ([(128 + (Int.tmod a2 128)) % 256] : List Int)) (inner := [.int .u8 ((128 + (Int.tmod a2 128)) % 256)]) (ok := fun _ => True) (okp := fun _ => True) ?hr ?hp (fun _ hk => hk) trivial (Below.refl _ _) (Nat.le_refl _) (by simp) ?_; (case hd => rfl); (case hg => rfl); (case hr => first | (go_simp; done) | (go_simp; rfl) | (go_simp; simp only [show ∀ l_ : List UInt8, (l_ != []) = !l_.isEmpty from fun l_ => by cases l_ <;> rfl]; done)); (case hp => exact (Reps.one (show Kd.M (Kd.int .u8) _ _ _ ((128 + (Int.tmod a2 128)) % 256) [.int .u8 ((128 + (Int.tmod a2 128)) % 256)] from rfl) (Reps.none _ _))); intro v153 w39 ho40 hb hg_ hnew_; clear hg_ hnew_; (first | rw [← Ny152.out] at ho40 | (simp only [Int.reduceToNat] at ho40; rw [← Ny152.out] at ho40)); have n0_ := Aside0.mk (Kd.R_lower ho40 (below_size (by repeat (first | (with_reducible first | exact HB.out | apply below_alloc | apply pw_below_drewN | apply below_drew1) | exact HB.out)))); have n1_ := Aside0.mk (below_step (by repeat (first | (with_reducible first | exact HB.out | apply below_alloc | apply pw_below_drewN | apply below_drew1) | exact HB.out)) hb); clear HB; have HO154 := n0_; have HB := n1_; clear n0_ n1_; clear hb ho40; have hcv41 := own_string (P := Tryd.prog) Tryd.underlying30 Tryd.underlying5 Tryd.underlying9 (Kd.own_of_R HO154.out)) | ((with_reducible refine gate_callee (f := 11) rfl ?_); refine goesL_ (some 31) rfl rfl Tryd.func11 (by kernel_rfl) rfl #[.string a0] rfl (by (try simp only [List.map_toArray, List.map_cons, List.map_nil]); first | done | rfl | (simp only [List.length_drop, List.length_take]; rfl)) ?_; (with_reducible refine (text_Runes.calls a0 t155 _ ?side1 A16.out).mono ?_); (case side1 => exact HTB_.out.below (by repeat (first | (with_reducible first | exact HB.out | apply below_alloc | apply pw_below_drewN | apply below_drew1) | exact HB.out))); rintro e w42 ⟨rfl, hb⟩; refine ⟨_, rfl, ?_⟩; have n0_ := Aside0.mk (Kd.R_below (by (with_reducible repeat (first | apply Kd.R_alloc | apply Kd.R_drewN | apply Kd.R_drew)); exact HO154.out) hb); have n1_ := Aside0.mk (below_step (by repeat (first | (with_reducible first | exact HB.out | apply below_alloc | apply pw_below_drewN | apply below_drew1) | exact HB.out)) hb); clear HO154; clear HB; have HO154 := n0_; have HB := n1_; clear n0_ n1_; (try clear hb); (try clear hb2); (try clear hk); (try clear hi)) | ((with_reducible refine gate_callee (f := 11) rfl ?_); refine goesL_ (some 33) rfl rfl Tryd.func11 (by kernel_rfl) rfl #[.string a1] rfl (by (try simp only [List.map_toArray, List.map_cons, List.map_nil]); first | done | rfl | (simp only [List.length_drop, List.length_take]; rfl)) ?_; (with_reducible refine (text_Runes.calls a1 t156 _ ?side1 A17.out).mono ?_); (case side1 => exact HTB_.out.below (by repeat (first | (with_reducible first | exact HB.out | apply below_alloc | apply pw_below_drewN | apply below_drew1) | exact HB.out))); rintro e w43 ⟨rfl, hb⟩; refine ⟨_, rfl, ?_⟩; have n0_ := Aside0.mk (Kd.R_below (by (with_reducible repeat (first | apply Kd.R_alloc | apply Kd.R_drewN | apply Kd.R_drew)); exact HO154.out) hb); have n1_ := Aside0.mk (below_step (by repeat (first | (with_reducible first | exact HB.out | apply below_alloc | apply pw_below_drewN | apply below_drew1) | exact HB.out)) hb); clear HO154; clear HB; have HO154 := n0_; have HB := n1_; clear n0_ n1_; (try clear hb); (try clear hb2); (try clear hk); (try clear hi)) | ((with_reducible refine gate_callee (f := 8) rfl ?_); refine goesL_ (some 35) rfl rfl Tryd.func8 (by kernel_rfl) rfl #[] rfl (by (try simp only [List.map_toArray, List.map_cons, List.map_nil]); first | done | rfl | (simp only [List.length_drop, List.length_take]; rfl)) ?_; (with_reducible refine (comptoirlaw04_awake.calls  true _ ?side1 A18.out).mono ?_); (case side1 => exact HTB_.out.below (by repeat (first | (with_reducible first | exact HB.out | apply below_alloc | apply pw_below_drewN | apply below_drew1) | exact HB.out))); rintro e w44 ⟨rfl, hb⟩; refine ⟨_, rfl, ?_⟩; have n0_ := Aside0.mk (Kd.R_below (by (with_reducible repeat (first | apply Kd.R_alloc | apply Kd.R_drewN | apply Kd.R_drew)); exact HO154.out) hb); have n1_ := Aside0.mk (below_step (by repeat (first | (with_reducible first | exact HB.out | apply below_alloc | apply pw_below_drewN | apply below_drew1) | exact HB.out)) hb); clear HO154; clear HB; have HO154 := n0_; have HB := n1_; clear n0_ n1_; (try clear hb); (try clear hb2); (try clear hk); (try clear hi)))
                go_ret
                exact ⟨by first | rfl | (simp [errW_none, errW_some] <;> rfl) | (simp [*, errW_none, errW_some] <;> rfl), by repeat (first | (with_reducible first | exact HB.out | apply below_alloc | apply pw_below_drewN | apply below_drew1) | exact HB.out)⟩
            · replace c19 := Bool.eq_false_iff.mpr c19
              subst c19
              have H1 : (some false) = some r := by rw [if_neg (show ¬ (false = true) by decide)] at H; exact H
              clear H
              have H := H1
              clear H1
              obtain rfl := Option.some.inj H
              exact absurd HT_.out (by decide)

/-- THE ONE PURE STATEMENT of comptoirlaw04_TextParts: yours. -/
def comptoirlaw04_TextParts.Pure : Prop := ∀ (a0 : ByteArray) (a1 : ByteArray) (a2 : Int), a0.size ≤ 140737488351232 → a1.size ≤ 140737488351232 → (Lit.int .u8 a2).wf = true → ∃ k, comptoirlaw04_TextParts.f k a0 a1 a2 = some true
theorem comptoirlaw04_TextParts.walk (P : comptoirlaw04_TextParts.Pure) (a0 : ByteArray) (a1 : ByteArray) (a2 : Int) (w : World) (hT_ : Tabs w) (w0 : a0.size ≤ 140737488351232) (w1 : a1.size ≤ 140737488351232) (w2 : (Lit.int .u8 a2).wf = true) :
    Calls Tryd.prog 5 #[.string a0, .string a1, .int .u8 a2] w fun e w' => e = .returned (.bool true) ∧ Below w.heap.size w w' := by
  obtain ⟨k, h⟩ := P a0 a1 a2 w0 w1 w2
  refine (comptoirlaw04_TextParts.calls k a0 a1 a2 true rfl w hT_ h).mono ?_
  rintro e w' ⟨rfl, hd⟩
  exact ⟨rfl, hd⟩

/-! ### comptoirlaw04_TextPlain: function 6 -/
def comptoirlaw04_TextPlain.f (a0 : ByteArray) (a1 : Int) : Option (Bool) := if (a0.size : Int) > 300 then ((comptoirlaw04_awake.f).bind fun t161 => (some t161)) else ((text_Runes.f a0).bind fun t162 => ((text_Plain.f a0 0 300).bind fun t163 => ((comptoirlaw04_awake.f).bind fun t164 => (if t164 = true then (if 1 + a0.size ≤ 9223372036854775807 then ((text_Plain.f ((⟨#[32]⟩ : ByteArray) ++ a0) 0 400).bind fun t165 => (if t165 = true then (some false) else (if a0.size + 1 ≤ 9223372036854775807 then ((text_Plain.f (a0 ++ (⟨#[32]⟩ : ByteArray)) 0 400).bind fun t166 => (if t166 = true then (some false) else (if (a0 ++ (⟨#[10]⟩ : ByteArray)).size + a0.size ≤ 9223372036854775807 then ((text_Plain.f ((a0 ++ (⟨#[10]⟩ : ByteArray)) ++ a0) 0 700).bind fun t167 => (if t167 = true then (some false) else (if t163 = true then ((text_Plain.f a0 0 (wrap64 (Int.tmod (IntKind.u64.wrap (a1)) 310))).bind fun t168 => (if (t168 == (decide (t162 ≤ (wrap64 (Int.tmod (IntKind.u64.wrap (a1)) 310))))) = true then ((text_Plain.f a0 (wrap64 (Int.tmod (IntKind.u64.wrap (a1)) 310)) 300).bind fun t169 => (if (t169 == (decide (t162 ≥ (wrap64 (Int.tmod (IntKind.u64.wrap (a1)) 310))))) = true then (if a0.toList = ([] : List UInt8) then (some true) else (if (a0 ++ (⟨#[32]⟩ : ByteArray)).size + a0.size ≤ 9223372036854775807 then ((text_Plain.f ((a0 ++ (⟨#[32]⟩ : ByteArray)) ++ a0) 0 700).bind fun t170 => (some t170)) else (none))) else (some false))) else (some false))) else (some true)))) else (none)))) else (none)))) else (none)) else (some false)))))
set_option maxHeartbeats 8000000 in
set_option maxRecDepth 100000 in
theorem comptoirlaw04_TextPlain.calls (a0 : ByteArray) (a1 : Int) (r : Bool) (ht_ : r = true) (w : World) (hT_ : Tabs w) (h : comptoirlaw04_TextPlain.f a0 a1 = some r) :
    Calls Tryd.prog 6 #[.string a0, .int .i64 a1] w fun e w' => e = .returned (.bool r) ∧ Below w.heap.size w w' := by
  have HT_ := Aside0.mk ht_
  clear ht_
  have HTB_ := Aside0.mk hT_
  clear hT_
  have HB := Aside0.mk (Below.refl w.heap.size w)
  have H : (if (a0.size : Int) > 300 then ((comptoirlaw04_awake.f).bind fun t161 => (some t161)) else ((text_Runes.f a0).bind fun t162 => ((text_Plain.f a0 0 300).bind fun t163 => ((comptoirlaw04_awake.f).bind fun t164 => (if t164 = true then (if 1 + a0.size ≤ 9223372036854775807 then ((text_Plain.f ((⟨#[32]⟩ : ByteArray) ++ a0) 0 400).bind fun t165 => (if t165 = true then (some false) else (if a0.size + 1 ≤ 9223372036854775807 then ((text_Plain.f (a0 ++ (⟨#[32]⟩ : ByteArray)) 0 400).bind fun t166 => (if t166 = true then (some false) else (if (a0 ++ (⟨#[10]⟩ : ByteArray)).size + a0.size ≤ 9223372036854775807 then ((text_Plain.f ((a0 ++ (⟨#[10]⟩ : ByteArray)) ++ a0) 0 700).bind fun t167 => (if t167 = true then (some false) else (if t163 = true then ((text_Plain.f a0 0 (wrap64 (Int.tmod (IntKind.u64.wrap (a1)) 310))).bind fun t168 => (if (t168 == (decide (t162 ≤ (wrap64 (Int.tmod (IntKind.u64.wrap (a1)) 310))))) = true then ((text_Plain.f a0 (wrap64 (Int.tmod (IntKind.u64.wrap (a1)) 310)) 300).bind fun t169 => (if (t169 == (decide (t162 ≥ (wrap64 (Int.tmod (IntKind.u64.wrap (a1)) 310))))) = true then (if a0.toList = ([] : List UInt8) then (some true) else (if (a0 ++ (⟨#[32]⟩ : ByteArray)).size + a0.size ≤ 9223372036854775807 then ((text_Plain.f ((a0 ++ (⟨#[32]⟩ : ByteArray)) ++ a0) 0 700).bind fun t170 => (some t170)) else (none))) else (some false))) else (some false))) else (some true)))) else (none)))) else (none)))) else (none)) else (some false)))))) = some r := h
  clear h
  by_cases c3 : (a0.size : Int) > 300
  · rw [if_pos c3] at H
    have c3b0 : decide (300 < (a0.size : Int)) = true := decide_eq_true c3
    have c3b1 : decide (300 < a0.size) = true := decide_eq_true (by omega)
    clear c3
    replace H := Option.bind_eq_some_iff.mp H
    obtain ⟨t161, A40, H⟩ := H
    replace H : (some t161) = some r := H
    have A4 := Aside0.mk A40
    clear A40
    obtain rfl := Option.some.inj H
    simp only [Option.some.injEq, Prod.mk.injEq] at H
    obtain ⟨rfl⟩ := H
    go_enter Tryd.func6, Tryd.ntmps6
    go_wp2_with (first | ((first | ((with_reducible refine gate_callee (f := 8) rfl ?_); refine goesL_ (some 10) rfl rfl Tryd.func8 (by kernel_rfl) rfl #[] rfl (by (try simp only [List.map_toArray, List.map_cons, List.map_nil]); first | done | rfl | (simp only [List.length_drop, List.length_take]; rfl)) ?_; (with_reducible refine (comptoirlaw04_awake.calls  t161 _ ?side1 A4.out).mono ?_); (case side1 => exact HTB_.out.below (by repeat (first | (with_reducible first | exact HB.out | apply below_alloc | apply pw_below_drewN | apply below_drew1) | exact HB.out))); rintro e w5 ⟨rfl, hb⟩; refine ⟨_, rfl, ?_⟩) | (go_at_call 8; (with_reducible refine (comptoirlaw04_awake.calls  t161 _ ?side1 A4.out).mono ?_); (case side1 => exact HTB_.out.below (by repeat (first | (with_reducible first | exact HB.out | apply below_alloc | apply pw_below_drewN | apply below_drew1) | exact HB.out))); rintro e w5 ⟨rfl, hb⟩)); have n0_ := Aside0.mk (below_step (by repeat (first | (with_reducible first | exact HB.out | apply below_alloc | apply pw_below_drewN | apply below_drew1) | exact HB.out)) hb); clear HB; have HB := n0_; clear n0_; (try clear hb); (try clear hb2); (try clear hk); (try clear hi)))
    go_ret
    exact ⟨by first | rfl | (simp [errW_none, errW_some] <;> rfl) | (simp [*, errW_none, errW_some] <;> rfl), by repeat (first | (with_reducible first | exact HB.out | apply below_alloc | apply pw_below_drewN | apply below_drew1) | exact HB.out)⟩
  · rw [if_neg c3] at H
    have c3b0 : decide (300 < (a0.size : Int)) = false := decide_eq_false c3
    have c3b1 : decide (300 < a0.size) = false := decide_eq_false (by omega)
    clear c3
    replace H := Option.bind_eq_some_iff.mp H
    obtain ⟨t162, A60, H⟩ := H
    replace H : ((text_Plain.f a0 0 300).bind fun t163 => ((comptoirlaw04_awake.f).bind fun t164 => (if t164 = true then (if 1 + a0.size ≤ 9223372036854775807 then ((text_Plain.f ((⟨#[32]⟩ : ByteArray) ++ a0) 0 400).bind fun t165 => (if t165 = true then (some false) else (if a0.size + 1 ≤ 9223372036854775807 then ((text_Plain.f (a0 ++ (⟨#[32]⟩ : ByteArray)) 0 400).bind fun t166 => (if t166 = true then (some false) else (if (a0 ++ (⟨#[10]⟩ : ByteArray)).size + a0.size ≤ 9223372036854775807 then ((text_Plain.f ((a0 ++ (⟨#[10]⟩ : ByteArray)) ++ a0) 0 700).bind fun t167 => (if t167 = true then (some false) else (if t163 = true then ((text_Plain.f a0 0 (wrap64 (Int.tmod (IntKind.u64.wrap (a1)) 310))).bind fun t168 => (if (t168 == (decide (t162 ≤ (wrap64 (Int.tmod (IntKind.u64.wrap (a1)) 310))))) = true then ((text_Plain.f a0 (wrap64 (Int.tmod (IntKind.u64.wrap (a1)) 310)) 300).bind fun t169 => (if (t169 == (decide (t162 ≥ (wrap64 (Int.tmod (IntKind.u64.wrap (a1)) 310))))) = true then (if a0.toList = ([] : List UInt8) then (some true) else (if (a0 ++ (⟨#[32]⟩ : ByteArray)).size + a0.size ≤ 9223372036854775807 then ((text_Plain.f ((a0 ++ (⟨#[32]⟩ : ByteArray)) ++ a0) 0 700).bind fun t170 => (some t170)) else (none))) else (some false))) else (some false))) else (some true)))) else (none)))) else (none)))) else (none)) else (some false)))) = some r := H
    have A6 := Aside0.mk A60
    clear A60
    replace H := Option.bind_eq_some_iff.mp H
    obtain ⟨t163, A70, H⟩ := H
    replace H : ((comptoirlaw04_awake.f).bind fun t164 => (if t164 = true then (if 1 + a0.size ≤ 9223372036854775807 then ((text_Plain.f ((⟨#[32]⟩ : ByteArray) ++ a0) 0 400).bind fun t165 => (if t165 = true then (some false) else (if a0.size + 1 ≤ 9223372036854775807 then ((text_Plain.f (a0 ++ (⟨#[32]⟩ : ByteArray)) 0 400).bind fun t166 => (if t166 = true then (some false) else (if (a0 ++ (⟨#[10]⟩ : ByteArray)).size + a0.size ≤ 9223372036854775807 then ((text_Plain.f ((a0 ++ (⟨#[10]⟩ : ByteArray)) ++ a0) 0 700).bind fun t167 => (if t167 = true then (some false) else (if t163 = true then ((text_Plain.f a0 0 (wrap64 (Int.tmod (IntKind.u64.wrap (a1)) 310))).bind fun t168 => (if (t168 == (decide (t162 ≤ (wrap64 (Int.tmod (IntKind.u64.wrap (a1)) 310))))) = true then ((text_Plain.f a0 (wrap64 (Int.tmod (IntKind.u64.wrap (a1)) 310)) 300).bind fun t169 => (if (t169 == (decide (t162 ≥ (wrap64 (Int.tmod (IntKind.u64.wrap (a1)) 310))))) = true then (if a0.toList = ([] : List UInt8) then (some true) else (if (a0 ++ (⟨#[32]⟩ : ByteArray)).size + a0.size ≤ 9223372036854775807 then ((text_Plain.f ((a0 ++ (⟨#[32]⟩ : ByteArray)) ++ a0) 0 700).bind fun t170 => (some t170)) else (none))) else (some false))) else (some false))) else (some true)))) else (none)))) else (none)))) else (none)) else (some false))) = some r := H
    have A7 := Aside0.mk A70
    clear A70
    replace H := Option.bind_eq_some_iff.mp H
    obtain ⟨t164, A80, H⟩ := H
    replace H : (if t164 = true then (if 1 + a0.size ≤ 9223372036854775807 then ((text_Plain.f ((⟨#[32]⟩ : ByteArray) ++ a0) 0 400).bind fun t165 => (if t165 = true then (some false) else (if a0.size + 1 ≤ 9223372036854775807 then ((text_Plain.f (a0 ++ (⟨#[32]⟩ : ByteArray)) 0 400).bind fun t166 => (if t166 = true then (some false) else (if (a0 ++ (⟨#[10]⟩ : ByteArray)).size + a0.size ≤ 9223372036854775807 then ((text_Plain.f ((a0 ++ (⟨#[10]⟩ : ByteArray)) ++ a0) 0 700).bind fun t167 => (if t167 = true then (some false) else (if t163 = true then ((text_Plain.f a0 0 (wrap64 (Int.tmod (IntKind.u64.wrap (a1)) 310))).bind fun t168 => (if (t168 == (decide (t162 ≤ (wrap64 (Int.tmod (IntKind.u64.wrap (a1)) 310))))) = true then ((text_Plain.f a0 (wrap64 (Int.tmod (IntKind.u64.wrap (a1)) 310)) 300).bind fun t169 => (if (t169 == (decide (t162 ≥ (wrap64 (Int.tmod (IntKind.u64.wrap (a1)) 310))))) = true then (if a0.toList = ([] : List UInt8) then (some true) else (if (a0 ++ (⟨#[32]⟩ : ByteArray)).size + a0.size ≤ 9223372036854775807 then ((text_Plain.f ((a0 ++ (⟨#[32]⟩ : ByteArray)) ++ a0) 0 700).bind fun t170 => (some t170)) else (none))) else (some false))) else (some false))) else (some true)))) else (none)))) else (none)))) else (none)) else (some false)) = some r := H
    have A8 := Aside0.mk A80
    clear A80
    by_cases c9 : t164 = true
    · subst c9
      have H1 : (if 1 + a0.size ≤ 9223372036854775807 then ((text_Plain.f ((⟨#[32]⟩ : ByteArray) ++ a0) 0 400).bind fun t165 => (if t165 = true then (some false) else (if a0.size + 1 ≤ 9223372036854775807 then ((text_Plain.f (a0 ++ (⟨#[32]⟩ : ByteArray)) 0 400).bind fun t166 => (if t166 = true then (some false) else (if (a0 ++ (⟨#[10]⟩ : ByteArray)).size + a0.size ≤ 9223372036854775807 then ((text_Plain.f ((a0 ++ (⟨#[10]⟩ : ByteArray)) ++ a0) 0 700).bind fun t167 => (if t167 = true then (some false) else (if t163 = true then ((text_Plain.f a0 0 (wrap64 (Int.tmod (IntKind.u64.wrap (a1)) 310))).bind fun t168 => (if (t168 == (decide (t162 ≤ (wrap64 (Int.tmod (IntKind.u64.wrap (a1)) 310))))) = true then ((text_Plain.f a0 (wrap64 (Int.tmod (IntKind.u64.wrap (a1)) 310)) 300).bind fun t169 => (if (t169 == (decide (t162 ≥ (wrap64 (Int.tmod (IntKind.u64.wrap (a1)) 310))))) = true then (if a0.toList = ([] : List UInt8) then (some true) else (if (a0 ++ (⟨#[32]⟩ : ByteArray)).size + a0.size ≤ 9223372036854775807 then ((text_Plain.f ((a0 ++ (⟨#[32]⟩ : ByteArray)) ++ a0) 0 700).bind fun t170 => (some t170)) else (none))) else (some false))) else (some false))) else (some true)))) else (none)))) else (none)))) else (none)) = some r := by rw [if_pos rfl] at H; exact H
      clear H
      have H := H1
      clear H1
      by_cases c10 : 1 + a0.size ≤ 9223372036854775807
      · rw [if_pos c10] at H
        have c10b0 := eq_true c10
        have c10b1 : decide (1 + a0.size ≤ 9223372036854775807) = true := decide_eq_true c10
        try have c10b2 : (9223372036854775807 < 1 + a0.size) = False := eq_false (Nat.not_lt.2 c10)
        replace H := Option.bind_eq_some_iff.mp H
        obtain ⟨t165, A110, H⟩ := H
        replace H : (if t165 = true then (some false) else (if a0.size + 1 ≤ 9223372036854775807 then ((text_Plain.f (a0 ++ (⟨#[32]⟩ : ByteArray)) 0 400).bind fun t166 => (if t166 = true then (some false) else (if (a0 ++ (⟨#[10]⟩ : ByteArray)).size + a0.size ≤ 9223372036854775807 then ((text_Plain.f ((a0 ++ (⟨#[10]⟩ : ByteArray)) ++ a0) 0 700).bind fun t167 => (if t167 = true then (some false) else (if t163 = true then ((text_Plain.f a0 0 (wrap64 (Int.tmod (IntKind.u64.wrap (a1)) 310))).bind fun t168 => (if (t168 == (decide (t162 ≤ (wrap64 (Int.tmod (IntKind.u64.wrap (a1)) 310))))) = true then ((text_Plain.f a0 (wrap64 (Int.tmod (IntKind.u64.wrap (a1)) 310)) 300).bind fun t169 => (if (t169 == (decide (t162 ≥ (wrap64 (Int.tmod (IntKind.u64.wrap (a1)) 310))))) = true then (if a0.toList = ([] : List UInt8) then (some true) else (if (a0 ++ (⟨#[32]⟩ : ByteArray)).size + a0.size ≤ 9223372036854775807 then ((text_Plain.f ((a0 ++ (⟨#[32]⟩ : ByteArray)) ++ a0) 0 700).bind fun t170 => (some t170)) else (none))) else (some false))) else (some false))) else (some true)))) else (none)))) else (none))) = some r := H
        have A11 := Aside0.mk A110
        clear A110
        by_cases c12 : t165 = true
        · subst c12
          have H1 : (some false) = some r := by rw [if_pos rfl] at H; exact H
          clear H
          have H := H1
          clear H1
          obtain rfl := Option.some.inj H
          exact absurd HT_.out (by decide)
        · replace c12 := Bool.eq_false_iff.mpr c12
          subst c12
          have H1 : (if a0.size + 1 ≤ 9223372036854775807 then ((text_Plain.f (a0 ++ (⟨#[32]⟩ : ByteArray)) 0 400).bind fun t166 => (if t166 = true then (some false) else (if (a0 ++ (⟨#[10]⟩ : ByteArray)).size + a0.size ≤ 9223372036854775807 then ((text_Plain.f ((a0 ++ (⟨#[10]⟩ : ByteArray)) ++ a0) 0 700).bind fun t167 => (if t167 = true then (some false) else (if t163 = true then ((text_Plain.f a0 0 (wrap64 (Int.tmod (IntKind.u64.wrap (a1)) 310))).bind fun t168 => (if (t168 == (decide (t162 ≤ (wrap64 (Int.tmod (IntKind.u64.wrap (a1)) 310))))) = true then ((text_Plain.f a0 (wrap64 (Int.tmod (IntKind.u64.wrap (a1)) 310)) 300).bind fun t169 => (if (t169 == (decide (t162 ≥ (wrap64 (Int.tmod (IntKind.u64.wrap (a1)) 310))))) = true then (if a0.toList = ([] : List UInt8) then (some true) else (if (a0 ++ (⟨#[32]⟩ : ByteArray)).size + a0.size ≤ 9223372036854775807 then ((text_Plain.f ((a0 ++ (⟨#[32]⟩ : ByteArray)) ++ a0) 0 700).bind fun t170 => (some t170)) else (none))) else (some false))) else (some false))) else (some true)))) else (none)))) else (none)) = some r := by rw [if_neg (show ¬ (false = true) by decide)] at H; exact H
          clear H
          have H := H1
          clear H1
          by_cases c13 : a0.size + 1 ≤ 9223372036854775807
          · rw [if_pos c13] at H
            have c13b0 := eq_true c13
            have c13b1 : decide (a0.size + 1 ≤ 9223372036854775807) = true := decide_eq_true c13
            try have c13b2 : (9223372036854775807 < a0.size + 1) = False := eq_false (Nat.not_lt.2 c13)
            replace H := Option.bind_eq_some_iff.mp H
            obtain ⟨t166, A140, H⟩ := H
            replace H : (if t166 = true then (some false) else (if (a0 ++ (⟨#[10]⟩ : ByteArray)).size + a0.size ≤ 9223372036854775807 then ((text_Plain.f ((a0 ++ (⟨#[10]⟩ : ByteArray)) ++ a0) 0 700).bind fun t167 => (if t167 = true then (some false) else (if t163 = true then ((text_Plain.f a0 0 (wrap64 (Int.tmod (IntKind.u64.wrap (a1)) 310))).bind fun t168 => (if (t168 == (decide (t162 ≤ (wrap64 (Int.tmod (IntKind.u64.wrap (a1)) 310))))) = true then ((text_Plain.f a0 (wrap64 (Int.tmod (IntKind.u64.wrap (a1)) 310)) 300).bind fun t169 => (if (t169 == (decide (t162 ≥ (wrap64 (Int.tmod (IntKind.u64.wrap (a1)) 310))))) = true then (if a0.toList = ([] : List UInt8) then (some true) else (if (a0 ++ (⟨#[32]⟩ : ByteArray)).size + a0.size ≤ 9223372036854775807 then ((text_Plain.f ((a0 ++ (⟨#[32]⟩ : ByteArray)) ++ a0) 0 700).bind fun t170 => (some t170)) else (none))) else (some false))) else (some false))) else (some true)))) else (none))) = some r := H
            have A14 := Aside0.mk A140
            clear A140
            by_cases c15 : t166 = true
            · subst c15
              have H1 : (some false) = some r := by rw [if_pos rfl] at H; exact H
              clear H
              have H := H1
              clear H1
              obtain rfl := Option.some.inj H
              exact absurd HT_.out (by decide)
            · replace c15 := Bool.eq_false_iff.mpr c15
              subst c15
              have H1 : (if (a0 ++ (⟨#[10]⟩ : ByteArray)).size + a0.size ≤ 9223372036854775807 then ((text_Plain.f ((a0 ++ (⟨#[10]⟩ : ByteArray)) ++ a0) 0 700).bind fun t167 => (if t167 = true then (some false) else (if t163 = true then ((text_Plain.f a0 0 (wrap64 (Int.tmod (IntKind.u64.wrap (a1)) 310))).bind fun t168 => (if (t168 == (decide (t162 ≤ (wrap64 (Int.tmod (IntKind.u64.wrap (a1)) 310))))) = true then ((text_Plain.f a0 (wrap64 (Int.tmod (IntKind.u64.wrap (a1)) 310)) 300).bind fun t169 => (if (t169 == (decide (t162 ≥ (wrap64 (Int.tmod (IntKind.u64.wrap (a1)) 310))))) = true then (if a0.toList = ([] : List UInt8) then (some true) else (if (a0 ++ (⟨#[32]⟩ : ByteArray)).size + a0.size ≤ 9223372036854775807 then ((text_Plain.f ((a0 ++ (⟨#[32]⟩ : ByteArray)) ++ a0) 0 700).bind fun t170 => (some t170)) else (none))) else (some false))) else (some false))) else (some true)))) else (none)) = some r := by rw [if_neg (show ¬ (false = true) by decide)] at H; exact H
              clear H
              have H := H1
              clear H1
              by_cases c16 : (a0 ++ (⟨#[10]⟩ : ByteArray)).size + a0.size ≤ 9223372036854775807
              · rw [if_pos c16] at H
                have c16b0 := eq_true c16
                have c16b1 : decide ((a0 ++ (⟨#[10]⟩ : ByteArray)).size + a0.size ≤ 9223372036854775807) = true := decide_eq_true c16
                try have c16b2 : (9223372036854775807 < (a0 ++ (⟨#[10]⟩ : ByteArray)).size + a0.size) = False := eq_false (Nat.not_lt.2 c16)
                try (have c16b3 := Nat.not_lt.2 c16; simp only [ByteArray.size_append] at c16b3; have c16b4 := eq_false c16b3; clear c16b3)
                replace H := Option.bind_eq_some_iff.mp H
                obtain ⟨t167, A170, H⟩ := H
                replace H : (if t167 = true then (some false) else (if t163 = true then ((text_Plain.f a0 0 (wrap64 (Int.tmod (IntKind.u64.wrap (a1)) 310))).bind fun t168 => (if (t168 == (decide (t162 ≤ (wrap64 (Int.tmod (IntKind.u64.wrap (a1)) 310))))) = true then ((text_Plain.f a0 (wrap64 (Int.tmod (IntKind.u64.wrap (a1)) 310)) 300).bind fun t169 => (if (t169 == (decide (t162 ≥ (wrap64 (Int.tmod (IntKind.u64.wrap (a1)) 310))))) = true then (if a0.toList = ([] : List UInt8) then (some true) else (if (a0 ++ (⟨#[32]⟩ : ByteArray)).size + a0.size ≤ 9223372036854775807 then ((text_Plain.f ((a0 ++ (⟨#[32]⟩ : ByteArray)) ++ a0) 0 700).bind fun t170 => (some t170)) else (none))) else (some false))) else (some false))) else (some true))) = some r := H
                have A17 := Aside0.mk A170
                clear A170
                by_cases c18 : t167 = true
                · subst c18
                  have H1 : (some false) = some r := by rw [if_pos rfl] at H; exact H
                  clear H
                  have H := H1
                  clear H1
                  obtain rfl := Option.some.inj H
                  exact absurd HT_.out (by decide)
                · replace c18 := Bool.eq_false_iff.mpr c18
                  subst c18
                  have H1 : (if t163 = true then ((text_Plain.f a0 0 (wrap64 (Int.tmod (IntKind.u64.wrap (a1)) 310))).bind fun t168 => (if (t168 == (decide (t162 ≤ (wrap64 (Int.tmod (IntKind.u64.wrap (a1)) 310))))) = true then ((text_Plain.f a0 (wrap64 (Int.tmod (IntKind.u64.wrap (a1)) 310)) 300).bind fun t169 => (if (t169 == (decide (t162 ≥ (wrap64 (Int.tmod (IntKind.u64.wrap (a1)) 310))))) = true then (if a0.toList = ([] : List UInt8) then (some true) else (if (a0 ++ (⟨#[32]⟩ : ByteArray)).size + a0.size ≤ 9223372036854775807 then ((text_Plain.f ((a0 ++ (⟨#[32]⟩ : ByteArray)) ++ a0) 0 700).bind fun t170 => (some t170)) else (none))) else (some false))) else (some false))) else (some true)) = some r := by rw [if_neg (show ¬ (false = true) by decide)] at H; exact H
                  clear H
                  have H := H1
                  clear H1
                  by_cases c19 : t163 = true
                  · subst c19
                    have H1 : ((text_Plain.f a0 0 (wrap64 (Int.tmod (IntKind.u64.wrap (a1)) 310))).bind fun t168 => (if (t168 == (decide (t162 ≤ (wrap64 (Int.tmod (IntKind.u64.wrap (a1)) 310))))) = true then ((text_Plain.f a0 (wrap64 (Int.tmod (IntKind.u64.wrap (a1)) 310)) 300).bind fun t169 => (if (t169 == (decide (t162 ≥ (wrap64 (Int.tmod (IntKind.u64.wrap (a1)) 310))))) = true then (if a0.toList = ([] : List UInt8) then (some true) else (if (a0 ++ (⟨#[32]⟩ : ByteArray)).size + a0.size ≤ 9223372036854775807 then ((text_Plain.f ((a0 ++ (⟨#[32]⟩ : ByteArray)) ++ a0) 0 700).bind fun t170 => (some t170)) else (none))) else (some false))) else (some false))) = some r := by rw [if_pos rfl] at H; exact H
                    clear H
                    have H := H1
                    clear H1
                    replace H := Option.bind_eq_some_iff.mp H
                    obtain ⟨t168, A200, H⟩ := H
                    replace H : (if (t168 == (decide (t162 ≤ (wrap64 (Int.tmod (IntKind.u64.wrap (a1)) 310))))) = true then ((text_Plain.f a0 (wrap64 (Int.tmod (IntKind.u64.wrap (a1)) 310)) 300).bind fun t169 => (if (t169 == (decide (t162 ≥ (wrap64 (Int.tmod (IntKind.u64.wrap (a1)) 310))))) = true then (if a0.toList = ([] : List UInt8) then (some true) else (if (a0 ++ (⟨#[32]⟩ : ByteArray)).size + a0.size ≤ 9223372036854775807 then ((text_Plain.f ((a0 ++ (⟨#[32]⟩ : ByteArray)) ++ a0) 0 700).bind fun t170 => (some t170)) else (none))) else (some false))) else (some false)) = some r := H
                    have A20 := Aside0.mk A200
                    clear A200
                    by_cases c21 : (t168 == (decide (t162 ≤ (wrap64 (Int.tmod (IntKind.u64.wrap (a1)) 310))))) = true
                    · rw [if_pos c21] at H
                      have c21b0 : (t168 == (decide (t162 ≤ (wrap64 (Int.tmod (IntKind.u64.wrap (a1)) 310))))) = true := c21
                      (try (have c21b1 : decide (t168 = (decide (t162 ≤ (wrap64 (Int.tmod (IntKind.u64.wrap (a1)) 310))))) = true := by simpa using c21))
                      (try (have c21b2 : (t168 == (decide (t162 ≤ (wrap64 (Int.tmod (IntKind.u64.wrap (a1)) 310))))) = true := by simpa using c21))
                      clear c21
                      replace H := Option.bind_eq_some_iff.mp H
                      obtain ⟨t169, A220, H⟩ := H
                      replace H : (if (t169 == (decide (t162 ≥ (wrap64 (Int.tmod (IntKind.u64.wrap (a1)) 310))))) = true then (if a0.toList = ([] : List UInt8) then (some true) else (if (a0 ++ (⟨#[32]⟩ : ByteArray)).size + a0.size ≤ 9223372036854775807 then ((text_Plain.f ((a0 ++ (⟨#[32]⟩ : ByteArray)) ++ a0) 0 700).bind fun t170 => (some t170)) else (none))) else (some false)) = some r := H
                      have A22 := Aside0.mk A220
                      clear A220
                      by_cases c23 : (t169 == (decide (t162 ≥ (wrap64 (Int.tmod (IntKind.u64.wrap (a1)) 310))))) = true
                      · rw [if_pos c23] at H
                        have c23b0 : (t169 == (decide (t162 ≥ (wrap64 (Int.tmod (IntKind.u64.wrap (a1)) 310))))) = true := c23
                        (try (have c23b1 : decide (t169 = (decide (t162 ≥ (wrap64 (Int.tmod (IntKind.u64.wrap (a1)) 310))))) = true := by simpa using c23))
                        (try (have c23b2 : (t169 == (decide (t162 ≥ (wrap64 (Int.tmod (IntKind.u64.wrap (a1)) 310))))) = true := by simpa using c23))
                        clear c23
                        by_cases c24 : a0.toList = ([] : List UInt8)
                        · rw [if_pos c24] at H
                          have c24b0 : (a0.toList == ([] : List UInt8)) = true := beq_iff_eq.mpr c24
                          have c24b1 : (a0.toList != ([] : List UInt8)) = false := bne_eq_false_iff_eq.mpr c24
                          clear c24
                          obtain rfl := Option.some.inj H
                          simp only [Option.some.injEq, Prod.mk.injEq] at H
                          obtain ⟨rfl⟩ := H
                          go_enter Tryd.func6, Tryd.ntmps6
                          go_wp2_with (first | ((first | ((with_reducible refine gate_callee (f := 11) rfl ?_); refine goesL_ (some 12) rfl rfl Tryd.func11 (by kernel_rfl) rfl #[.string a0] rfl (by (try simp only [List.map_toArray, List.map_cons, List.map_nil]); first | done | rfl | (simp only [List.length_drop, List.length_take]; rfl)) ?_; (with_reducible refine (text_Runes.calls a0 t162 _ ?side1 A6.out).mono ?_); (case side1 => exact HTB_.out.below (by repeat (first | (with_reducible first | exact HB.out | apply below_alloc | apply pw_below_drewN | apply below_drew1) | exact HB.out))); rintro e w25 ⟨rfl, hb⟩; refine ⟨_, rfl, ?_⟩) | (go_at_call 11; (with_reducible refine (text_Runes.calls a0 t162 _ ?side1 A6.out).mono ?_); (case side1 => exact HTB_.out.below (by repeat (first | (with_reducible first | exact HB.out | apply below_alloc | apply pw_below_drewN | apply below_drew1) | exact HB.out))); rintro e w25 ⟨rfl, hb⟩)); have n0_ := Aside0.mk (below_step (by repeat (first | (with_reducible first | exact HB.out | apply below_alloc | apply pw_below_drewN | apply below_drew1) | exact HB.out)) hb); clear HB; have HB := n0_; clear n0_; (try clear hb); (try clear hb2); (try clear hk); (try clear hi)) | ((first | ((with_reducible refine gate_callee (f := 13) rfl ?_); refine goesL_ (some 14) rfl rfl Tryd.func13 (by kernel_rfl) rfl #[.string a0, .int .i64 0, .int .i64 300] rfl (by (try simp only [List.map_toArray, List.map_cons, List.map_nil]); first | done | rfl | (simp only [List.length_drop, List.length_take]; rfl)) ?_; (with_reducible refine (text_Plain.calls a0 0 300 true _ ?side1 A7.out).mono ?_); (case side1 => exact HTB_.out.below (by repeat (first | (with_reducible first | exact HB.out | apply below_alloc | apply pw_below_drewN | apply below_drew1) | exact HB.out))); rintro e w26 ⟨rfl, hb⟩; refine ⟨_, rfl, ?_⟩) | (go_at_call 13; (with_reducible refine (text_Plain.calls a0 0 300 true _ ?side1 A7.out).mono ?_); (case side1 => exact HTB_.out.below (by repeat (first | (with_reducible first | exact HB.out | apply below_alloc | apply pw_below_drewN | apply below_drew1) | exact HB.out))); rintro e w26 ⟨rfl, hb⟩)); have n0_ := Aside0.mk (below_step (by repeat (first | (with_reducible first | exact HB.out | apply below_alloc | apply pw_below_drewN | apply below_drew1) | exact HB.out)) hb); clear HB; have HB := n0_; clear n0_; (try clear hb); (try clear hb2); (try clear hk); (try clear hi)) | ((first | ((with_reducible refine gate_callee (f := 8) rfl ?_); refine goesL_ (some 19) rfl rfl Tryd.func8 (by kernel_rfl) rfl #[] rfl (by (try simp only [List.map_toArray, List.map_cons, List.map_nil]); first | done | rfl | (simp only [List.length_drop, List.length_take]; rfl)) ?_; (with_reducible refine (comptoirlaw04_awake.calls  true _ ?side1 A8.out).mono ?_); (case side1 => exact HTB_.out.below (by repeat (first | (with_reducible first | exact HB.out | apply below_alloc | apply pw_below_drewN | apply below_drew1) | exact HB.out))); rintro e w27 ⟨rfl, hb⟩; refine ⟨_, rfl, ?_⟩) | (go_at_call 8; (with_reducible refine (comptoirlaw04_awake.calls  true _ ?side1 A8.out).mono ?_); (case side1 => exact HTB_.out.below (by repeat (first | (with_reducible first | exact HB.out | apply below_alloc | apply pw_below_drewN | apply below_drew1) | exact HB.out))); rintro e w27 ⟨rfl, hb⟩)); have n0_ := Aside0.mk (below_step (by repeat (first | (with_reducible first | exact HB.out | apply below_alloc | apply pw_below_drewN | apply below_drew1) | exact HB.out)) hb); clear HB; have HB := n0_; clear n0_; (try clear hb); (try clear hb2); (try clear hk); (try clear hi)) | (go_at_call 13; (with_reducible refine (text_Plain.calls ((⟨#[32]⟩ : ByteArray) ++ a0) 0 400 false _ ?side1 A11.out).mono ?_); (case side1 => exact HTB_.out.below (by repeat (first | (with_reducible first | exact HB.out | apply below_alloc | apply pw_below_drewN | apply below_drew1) | exact HB.out))); rintro e w28 ⟨rfl, hb⟩; have n0_ := Aside0.mk (below_step (by repeat (first | (with_reducible first | exact HB.out | apply below_alloc | apply pw_below_drewN | apply below_drew1) | exact HB.out)) hb); clear HB; have HB := n0_; clear n0_; (try clear hb); (try clear hb2); (try clear hk); (try clear hi)) | (go_at_call 13; (with_reducible refine (text_Plain.calls (a0 ++ (⟨#[32]⟩ : ByteArray)) 0 400 false _ ?side1 A14.out).mono ?_); (case side1 => exact HTB_.out.below (by repeat (first | (with_reducible first | exact HB.out | apply below_alloc | apply pw_below_drewN | apply below_drew1) | exact HB.out))); rintro e w29 ⟨rfl, hb⟩; have n0_ := Aside0.mk (below_step (by repeat (first | (with_reducible first | exact HB.out | apply below_alloc | apply pw_below_drewN | apply below_drew1) | exact HB.out)) hb); clear HB; have HB := n0_; clear n0_; (try clear hb); (try clear hb2); (try clear hk); (try clear hi)) | (go_at_call 13; (with_reducible refine (text_Plain.calls ((a0 ++ (⟨#[10]⟩ : ByteArray)) ++ a0) 0 700 false _ ?side1 A17.out).mono ?_); (case side1 => exact HTB_.out.below (by repeat (first | (with_reducible first | exact HB.out | apply below_alloc | apply pw_below_drewN | apply below_drew1) | exact HB.out))); rintro e w30 ⟨rfl, hb⟩; have n0_ := Aside0.mk (below_step (by repeat (first | (with_reducible first | exact HB.out | apply below_alloc | apply pw_below_drewN | apply below_drew1) | exact HB.out)) hb); clear HB; have HB := n0_; clear n0_; (try clear hb); (try clear hb2); (try clear hk); (try clear hi)) | (go_at_call 13; (with_reducible refine (text_Plain.calls a0 0 (wrap64 (Int.tmod (IntKind.u64.wrap (a1)) 310)) t168 _ ?side1 A20.out).mono ?_); (case side1 => exact HTB_.out.below (by repeat (first | (with_reducible first | exact HB.out | apply below_alloc | apply pw_below_drewN | apply below_drew1) | exact HB.out))); rintro e w31 ⟨rfl, hb⟩; have n0_ := Aside0.mk (below_step (by repeat (first | (with_reducible first | exact HB.out | apply below_alloc | apply pw_below_drewN | apply below_drew1) | exact HB.out)) hb); clear HB; have HB := n0_; clear n0_; (try clear hb); (try clear hb2); (try clear hk); (try clear hi)) | (go_at_call 13; (with_reducible refine (text_Plain.calls a0 (wrap64 (Int.tmod (IntKind.u64.wrap (a1)) 310)) 300 t169 _ ?side1 A22.out).mono ?_); (case side1 => exact HTB_.out.below (by repeat (first | (with_reducible first | exact HB.out | apply below_alloc | apply pw_below_drewN | apply below_drew1) | exact HB.out))); rintro e w32 ⟨rfl, hb⟩; have n0_ := Aside0.mk (below_step (by repeat (first | (with_reducible first | exact HB.out | apply below_alloc | apply pw_below_drewN | apply below_drew1) | exact HB.out)) hb); clear HB; have HB := n0_; clear n0_; (try clear hb); (try clear hb2); (try clear hk); (try clear hi)))
                          go_ret
                          exact ⟨by first | rfl | (simp [errW_none, errW_some] <;> rfl) | (simp [*, errW_none, errW_some] <;> rfl), by repeat (first | (with_reducible first | exact HB.out | apply below_alloc | apply pw_below_drewN | apply below_drew1) | exact HB.out)⟩
                        · rw [if_neg c24] at H
                          have c24b0 : (a0.toList == ([] : List UInt8)) = false := beq_eq_false_iff_ne.mpr c24
                          have c24b1 : (a0.toList != ([] : List UInt8)) = true := bne_iff_ne.mpr c24
                          by_cases c33 : (a0 ++ (⟨#[32]⟩ : ByteArray)).size + a0.size ≤ 9223372036854775807
                          · rw [if_pos c33] at H
                            have c33b0 := eq_true c33
                            have c33b1 : decide ((a0 ++ (⟨#[32]⟩ : ByteArray)).size + a0.size ≤ 9223372036854775807) = true := decide_eq_true c33
                            try have c33b2 : (9223372036854775807 < (a0 ++ (⟨#[32]⟩ : ByteArray)).size + a0.size) = False := eq_false (Nat.not_lt.2 c33)
                            try (have c33b3 := Nat.not_lt.2 c33; simp only [ByteArray.size_append] at c33b3; have c33b4 := eq_false c33b3; clear c33b3)
                            replace H := Option.bind_eq_some_iff.mp H
                            obtain ⟨t170, A340, H⟩ := H
                            replace H : (some t170) = some r := H
                            have A34 := Aside0.mk A340
                            clear A340
                            obtain rfl := Option.some.inj H
                            simp only [Option.some.injEq, Prod.mk.injEq] at H
                            obtain ⟨rfl⟩ := H
                            go_enter Tryd.func6, Tryd.ntmps6
                            go_wp2_with (first | ((first | ((with_reducible refine gate_callee (f := 11) rfl ?_); refine goesL_ (some 12) rfl rfl Tryd.func11 (by kernel_rfl) rfl #[.string a0] rfl (by (try simp only [List.map_toArray, List.map_cons, List.map_nil]); first | done | rfl | (simp only [List.length_drop, List.length_take]; rfl)) ?_; (with_reducible refine (text_Runes.calls a0 t162 _ ?side1 A6.out).mono ?_); (case side1 => exact HTB_.out.below (by repeat (first | (with_reducible first | exact HB.out | apply below_alloc | apply pw_below_drewN | apply below_drew1) | exact HB.out))); rintro e w35 ⟨rfl, hb⟩; refine ⟨_, rfl, ?_⟩) | (go_at_call 11; (with_reducible refine (text_Runes.calls a0 t162 _ ?side1 A6.out).mono ?_); (case side1 => exact HTB_.out.below (by repeat (first | (with_reducible first | exact HB.out | apply below_alloc | apply pw_below_drewN | apply below_drew1) | exact HB.out))); rintro e w35 ⟨rfl, hb⟩)); have n0_ := Aside0.mk (below_step (by repeat (first | (with_reducible first | exact HB.out | apply below_alloc | apply pw_below_drewN | apply below_drew1) | exact HB.out)) hb); clear HB; have HB := n0_; clear n0_; (try clear hb); (try clear hb2); (try clear hk); (try clear hi)) | ((first | ((with_reducible refine gate_callee (f := 13) rfl ?_); refine goesL_ (some 14) rfl rfl Tryd.func13 (by kernel_rfl) rfl #[.string a0, .int .i64 0, .int .i64 300] rfl (by (try simp only [List.map_toArray, List.map_cons, List.map_nil]); first | done | rfl | (simp only [List.length_drop, List.length_take]; rfl)) ?_; (with_reducible refine (text_Plain.calls a0 0 300 true _ ?side1 A7.out).mono ?_); (case side1 => exact HTB_.out.below (by repeat (first | (with_reducible first | exact HB.out | apply below_alloc | apply pw_below_drewN | apply below_drew1) | exact HB.out))); rintro e w36 ⟨rfl, hb⟩; refine ⟨_, rfl, ?_⟩) | (go_at_call 13; (with_reducible refine (text_Plain.calls a0 0 300 true _ ?side1 A7.out).mono ?_); (case side1 => exact HTB_.out.below (by repeat (first | (with_reducible first | exact HB.out | apply below_alloc | apply pw_below_drewN | apply below_drew1) | exact HB.out))); rintro e w36 ⟨rfl, hb⟩)); have n0_ := Aside0.mk (below_step (by repeat (first | (with_reducible first | exact HB.out | apply below_alloc | apply pw_below_drewN | apply below_drew1) | exact HB.out)) hb); clear HB; have HB := n0_; clear n0_; (try clear hb); (try clear hb2); (try clear hk); (try clear hi)) | ((first | ((with_reducible refine gate_callee (f := 8) rfl ?_); refine goesL_ (some 19) rfl rfl Tryd.func8 (by kernel_rfl) rfl #[] rfl (by (try simp only [List.map_toArray, List.map_cons, List.map_nil]); first | done | rfl | (simp only [List.length_drop, List.length_take]; rfl)) ?_; (with_reducible refine (comptoirlaw04_awake.calls  true _ ?side1 A8.out).mono ?_); (case side1 => exact HTB_.out.below (by repeat (first | (with_reducible first | exact HB.out | apply below_alloc | apply pw_below_drewN | apply below_drew1) | exact HB.out))); rintro e w37 ⟨rfl, hb⟩; refine ⟨_, rfl, ?_⟩) | (go_at_call 8; (with_reducible refine (comptoirlaw04_awake.calls  true _ ?side1 A8.out).mono ?_); (case side1 => exact HTB_.out.below (by repeat (first | (with_reducible first | exact HB.out | apply below_alloc | apply pw_below_drewN | apply below_drew1) | exact HB.out))); rintro e w37 ⟨rfl, hb⟩)); have n0_ := Aside0.mk (below_step (by repeat (first | (with_reducible first | exact HB.out | apply below_alloc | apply pw_below_drewN | apply below_drew1) | exact HB.out)) hb); clear HB; have HB := n0_; clear n0_; (try clear hb); (try clear hb2); (try clear hk); (try clear hi)) | (go_at_call 13; (with_reducible refine (text_Plain.calls ((⟨#[32]⟩ : ByteArray) ++ a0) 0 400 false _ ?side1 A11.out).mono ?_); (case side1 => exact HTB_.out.below (by repeat (first | (with_reducible first | exact HB.out | apply below_alloc | apply pw_below_drewN | apply below_drew1) | exact HB.out))); rintro e w38 ⟨rfl, hb⟩; have n0_ := Aside0.mk (below_step (by repeat (first | (with_reducible first | exact HB.out | apply below_alloc | apply pw_below_drewN | apply below_drew1) | exact HB.out)) hb); clear HB; have HB := n0_; clear n0_; (try clear hb); (try clear hb2); (try clear hk); (try clear hi)) | (go_at_call 13; (with_reducible refine (text_Plain.calls (a0 ++ (⟨#[32]⟩ : ByteArray)) 0 400 false _ ?side1 A14.out).mono ?_); (case side1 => exact HTB_.out.below (by repeat (first | (with_reducible first | exact HB.out | apply below_alloc | apply pw_below_drewN | apply below_drew1) | exact HB.out))); rintro e w39 ⟨rfl, hb⟩; have n0_ := Aside0.mk (below_step (by repeat (first | (with_reducible first | exact HB.out | apply below_alloc | apply pw_below_drewN | apply below_drew1) | exact HB.out)) hb); clear HB; have HB := n0_; clear n0_; (try clear hb); (try clear hb2); (try clear hk); (try clear hi)) | (go_at_call 13; (with_reducible refine (text_Plain.calls ((a0 ++ (⟨#[10]⟩ : ByteArray)) ++ a0) 0 700 false _ ?side1 A17.out).mono ?_); (case side1 => exact HTB_.out.below (by repeat (first | (with_reducible first | exact HB.out | apply below_alloc | apply pw_below_drewN | apply below_drew1) | exact HB.out))); rintro e w40 ⟨rfl, hb⟩; have n0_ := Aside0.mk (below_step (by repeat (first | (with_reducible first | exact HB.out | apply below_alloc | apply pw_below_drewN | apply below_drew1) | exact HB.out)) hb); clear HB; have HB := n0_; clear n0_; (try clear hb); (try clear hb2); (try clear hk); (try clear hi)))
                            as_aux_lemma =>
                              (go_at_call 13; (with_reducible refine (text_Plain.calls a0 0 (wrap64 (Int.tmod (IntKind.u64.wrap (a1)) 310)) t168 _ ?side1 A20.out).mono ?_); (case side1 => exact HTB_.out.below (by repeat (first | (with_reducible first | exact HB.out | apply below_alloc | apply pw_below_drewN | apply below_drew1) | exact HB.out))); rintro e w41 ⟨rfl, hb⟩; have n0_ := Aside0.mk (below_step (by repeat (first | (with_reducible first | exact HB.out | apply below_alloc | apply pw_below_drewN | apply below_drew1) | exact HB.out)) hb); clear HB; have HB := n0_; clear n0_; (try clear hb); (try clear hb2); (try clear hk); (try clear hi))
                              go_wp2_with (first | (go_at_call 13; (with_reducible refine (text_Plain.calls a0 (wrap64 (Int.tmod (IntKind.u64.wrap (a1)) 310)) 300 t169 _ ?side1 A22.out).mono ?_); (case side1 => exact HTB_.out.below (by repeat (first | (with_reducible first | exact HB.out | apply below_alloc | apply pw_below_drewN | apply below_drew1) | exact HB.out))); rintro e w42 ⟨rfl, hb⟩; have n0_ := Aside0.mk (below_step (by repeat (first | (with_reducible first | exact HB.out | apply below_alloc | apply pw_below_drewN | apply below_drew1) | exact HB.out)) hb); clear HB; have HB := n0_; clear n0_; (try clear hb); (try clear hb2); (try clear hk); (try clear hi)) | (go_at_call 13; (with_reducible refine (text_Plain.calls ((a0 ++ (⟨#[32]⟩ : ByteArray)) ++ a0) 0 700 t170 _ ?side1 A34.out).mono ?_); (case side1 => exact HTB_.out.below (by repeat (first | (with_reducible first | exact HB.out | apply below_alloc | apply pw_below_drewN | apply below_drew1) | exact HB.out))); rintro e w43 ⟨rfl, hb⟩; have n0_ := Aside0.mk (below_step (by repeat (first | (with_reducible first | exact HB.out | apply below_alloc | apply pw_below_drewN | apply below_drew1) | exact HB.out)) hb); clear HB; have HB := n0_; clear n0_; (try clear hb); (try clear hb2); (try clear hk); (try clear hi)))
                              go_ret
                              exact ⟨by first | rfl | (simp [errW_none, errW_some] <;> rfl) | (simp [*, errW_none, errW_some] <;> rfl), by repeat (first | (with_reducible first | exact HB.out | apply below_alloc | apply pw_below_drewN | apply below_drew1) | exact HB.out)⟩
                          · rw [if_neg c33] at H
                            exact absurd H (by simp)
                      · rw [if_neg c23] at H
                        have c23b0 : (t169 == (decide (t162 ≥ (wrap64 (Int.tmod (IntKind.u64.wrap (a1)) 310))))) = false := by simpa using c23
                        (try (have c23b1 : decide (t169 = (decide (t162 ≥ (wrap64 (Int.tmod (IntKind.u64.wrap (a1)) 310))))) = false := by simpa using c23))
                        (try (have c23b2 : (t169 == (decide (t162 ≥ (wrap64 (Int.tmod (IntKind.u64.wrap (a1)) 310))))) = false := by simpa using c23))
                        (try (have c23b3 : ¬ (t169 = (decide (t162 ≥ (wrap64 (Int.tmod (IntKind.u64.wrap (a1)) 310))))) := by simpa using c23))
                        clear c23
                        obtain rfl := Option.some.inj H
                        exact absurd HT_.out (by decide)
                    · rw [if_neg c21] at H
                      have c21b0 : (t168 == (decide (t162 ≤ (wrap64 (Int.tmod (IntKind.u64.wrap (a1)) 310))))) = false := by simpa using c21
                      (try (have c21b1 : decide (t168 = (decide (t162 ≤ (wrap64 (Int.tmod (IntKind.u64.wrap (a1)) 310))))) = false := by simpa using c21))
                      (try (have c21b2 : (t168 == (decide (t162 ≤ (wrap64 (Int.tmod (IntKind.u64.wrap (a1)) 310))))) = false := by simpa using c21))
                      (try (have c21b3 : ¬ (t168 = (decide (t162 ≤ (wrap64 (Int.tmod (IntKind.u64.wrap (a1)) 310))))) := by simpa using c21))
                      clear c21
                      obtain rfl := Option.some.inj H
                      exact absurd HT_.out (by decide)
                  · replace c19 := Bool.eq_false_iff.mpr c19
                    subst c19
                    have H1 : (some true) = some r := by rw [if_neg (show ¬ (false = true) by decide)] at H; exact H
                    clear H
                    have H := H1
                    clear H1
                    obtain rfl := Option.some.inj H
                    simp only [Option.some.injEq, Prod.mk.injEq] at H
                    obtain ⟨rfl⟩ := H
                    go_enter Tryd.func6, Tryd.ntmps6
                    go_wp2_with (first | ((first | ((with_reducible refine gate_callee (f := 11) rfl ?_); refine goesL_ (some 12) rfl rfl Tryd.func11 (by kernel_rfl) rfl #[.string a0] rfl (by (try simp only [List.map_toArray, List.map_cons, List.map_nil]); first | done | rfl | (simp only [List.length_drop, List.length_take]; rfl)) ?_; (with_reducible refine (text_Runes.calls a0 t162 _ ?side1 A6.out).mono ?_); (case side1 => exact HTB_.out.below (by repeat (first | (with_reducible first | exact HB.out | apply below_alloc | apply pw_below_drewN | apply below_drew1) | exact HB.out))); rintro e w44 ⟨rfl, hb⟩; refine ⟨_, rfl, ?_⟩) | (go_at_call 11; (with_reducible refine (text_Runes.calls a0 t162 _ ?side1 A6.out).mono ?_); (case side1 => exact HTB_.out.below (by repeat (first | (with_reducible first | exact HB.out | apply below_alloc | apply pw_below_drewN | apply below_drew1) | exact HB.out))); rintro e w44 ⟨rfl, hb⟩)); have n0_ := Aside0.mk (below_step (by repeat (first | (with_reducible first | exact HB.out | apply below_alloc | apply pw_below_drewN | apply below_drew1) | exact HB.out)) hb); clear HB; have HB := n0_; clear n0_; (try clear hb); (try clear hb2); (try clear hk); (try clear hi)) | ((first | ((with_reducible refine gate_callee (f := 13) rfl ?_); refine goesL_ (some 14) rfl rfl Tryd.func13 (by kernel_rfl) rfl #[.string a0, .int .i64 0, .int .i64 300] rfl (by (try simp only [List.map_toArray, List.map_cons, List.map_nil]); first | done | rfl | (simp only [List.length_drop, List.length_take]; rfl)) ?_; (with_reducible refine (text_Plain.calls a0 0 300 false _ ?side1 A7.out).mono ?_); (case side1 => exact HTB_.out.below (by repeat (first | (with_reducible first | exact HB.out | apply below_alloc | apply pw_below_drewN | apply below_drew1) | exact HB.out))); rintro e w45 ⟨rfl, hb⟩; refine ⟨_, rfl, ?_⟩) | (go_at_call 13; (with_reducible refine (text_Plain.calls a0 0 300 false _ ?side1 A7.out).mono ?_); (case side1 => exact HTB_.out.below (by repeat (first | (with_reducible first | exact HB.out | apply below_alloc | apply pw_below_drewN | apply below_drew1) | exact HB.out))); rintro e w45 ⟨rfl, hb⟩)); have n0_ := Aside0.mk (below_step (by repeat (first | (with_reducible first | exact HB.out | apply below_alloc | apply pw_below_drewN | apply below_drew1) | exact HB.out)) hb); clear HB; have HB := n0_; clear n0_; (try clear hb); (try clear hb2); (try clear hk); (try clear hi)) | ((first | ((with_reducible refine gate_callee (f := 8) rfl ?_); refine goesL_ (some 19) rfl rfl Tryd.func8 (by kernel_rfl) rfl #[] rfl (by (try simp only [List.map_toArray, List.map_cons, List.map_nil]); first | done | rfl | (simp only [List.length_drop, List.length_take]; rfl)) ?_; (with_reducible refine (comptoirlaw04_awake.calls  true _ ?side1 A8.out).mono ?_); (case side1 => exact HTB_.out.below (by repeat (first | (with_reducible first | exact HB.out | apply below_alloc | apply pw_below_drewN | apply below_drew1) | exact HB.out))); rintro e w46 ⟨rfl, hb⟩; refine ⟨_, rfl, ?_⟩) | (go_at_call 8; (with_reducible refine (comptoirlaw04_awake.calls  true _ ?side1 A8.out).mono ?_); (case side1 => exact HTB_.out.below (by repeat (first | (with_reducible first | exact HB.out | apply below_alloc | apply pw_below_drewN | apply below_drew1) | exact HB.out))); rintro e w46 ⟨rfl, hb⟩)); have n0_ := Aside0.mk (below_step (by repeat (first | (with_reducible first | exact HB.out | apply below_alloc | apply pw_below_drewN | apply below_drew1) | exact HB.out)) hb); clear HB; have HB := n0_; clear n0_; (try clear hb); (try clear hb2); (try clear hk); (try clear hi)) | (go_at_call 13; (with_reducible refine (text_Plain.calls ((⟨#[32]⟩ : ByteArray) ++ a0) 0 400 false _ ?side1 A11.out).mono ?_); (case side1 => exact HTB_.out.below (by repeat (first | (with_reducible first | exact HB.out | apply below_alloc | apply pw_below_drewN | apply below_drew1) | exact HB.out))); rintro e w47 ⟨rfl, hb⟩; have n0_ := Aside0.mk (below_step (by repeat (first | (with_reducible first | exact HB.out | apply below_alloc | apply pw_below_drewN | apply below_drew1) | exact HB.out)) hb); clear HB; have HB := n0_; clear n0_; (try clear hb); (try clear hb2); (try clear hk); (try clear hi)) | (go_at_call 13; (with_reducible refine (text_Plain.calls (a0 ++ (⟨#[32]⟩ : ByteArray)) 0 400 false _ ?side1 A14.out).mono ?_); (case side1 => exact HTB_.out.below (by repeat (first | (with_reducible first | exact HB.out | apply below_alloc | apply pw_below_drewN | apply below_drew1) | exact HB.out))); rintro e w48 ⟨rfl, hb⟩; have n0_ := Aside0.mk (below_step (by repeat (first | (with_reducible first | exact HB.out | apply below_alloc | apply pw_below_drewN | apply below_drew1) | exact HB.out)) hb); clear HB; have HB := n0_; clear n0_; (try clear hb); (try clear hb2); (try clear hk); (try clear hi)) | (go_at_call 13; (with_reducible refine (text_Plain.calls ((a0 ++ (⟨#[10]⟩ : ByteArray)) ++ a0) 0 700 false _ ?side1 A17.out).mono ?_); (case side1 => exact HTB_.out.below (by repeat (first | (with_reducible first | exact HB.out | apply below_alloc | apply pw_below_drewN | apply below_drew1) | exact HB.out))); rintro e w49 ⟨rfl, hb⟩; have n0_ := Aside0.mk (below_step (by repeat (first | (with_reducible first | exact HB.out | apply below_alloc | apply pw_below_drewN | apply below_drew1) | exact HB.out)) hb); clear HB; have HB := n0_; clear n0_; (try clear hb); (try clear hb2); (try clear hk); (try clear hi)))
                    go_ret
                    exact ⟨by first | rfl | (simp [errW_none, errW_some] <;> rfl) | (simp [*, errW_none, errW_some] <;> rfl), by repeat (first | (with_reducible first | exact HB.out | apply below_alloc | apply pw_below_drewN | apply below_drew1) | exact HB.out)⟩
              · rw [if_neg c16] at H
                exact absurd H (by simp)
          · rw [if_neg c13] at H
            exact absurd H (by simp)
      · rw [if_neg c10] at H
        exact absurd H (by simp)
    · replace c9 := Bool.eq_false_iff.mpr c9
      subst c9
      have H1 : (some false) = some r := by rw [if_neg (show ¬ (false = true) by decide)] at H; exact H
      clear H
      have H := H1
      clear H1
      obtain rfl := Option.some.inj H
      exact absurd HT_.out (by decide)

/-- THE ONE PURE STATEMENT of comptoirlaw04_TextPlain: yours. -/
def comptoirlaw04_TextPlain.Pure : Prop := ∀ (a0 : ByteArray) (a1 : Int), a0.size ≤ 140737488351232 → (Lit.int .i64 a1).wf = true → comptoirlaw04_TextPlain.f a0 a1 = some true
theorem comptoirlaw04_TextPlain.walk (P : comptoirlaw04_TextPlain.Pure) (a0 : ByteArray) (a1 : Int) (w : World) (hT_ : Tabs w) (w0 : a0.size ≤ 140737488351232) (w1 : (Lit.int .i64 a1).wf = true) :
    Calls Tryd.prog 6 #[.string a0, .int .i64 a1] w fun e w' => e = .returned (.bool true) ∧ Below w.heap.size w w' := by
  have h := P a0 a1 w0 w1
  refine (comptoirlaw04_TextPlain.calls a0 a1 true rfl w hT_ h).mono ?_
  rintro e w' ⟨rfl, hd⟩
  exact ⟨rfl, hd⟩

end Go.Proofs.YtjhamgodpgkkjaaDoor.MT
