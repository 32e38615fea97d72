-- laid by wip/tools/mixprint.py over the kit's print (functions of function values by hand)
import Derived.Test.YtfjfmlajnamlpaaMBx0
import Derived.Test.YtfjfmlajnamlpaaMBx1
import Derived.Test.YtfjfmlajnamlpaaHBits
namespace Go.Proofs.Ytfjfmlajnamlpaa.MB
open Go.RowKit Go.Proofs.YtfjfmlajnamlpaaW.PrintWords Go.Proofs.YtfjfmlajnamlpaaW.PrintLast Go.Proofs.YtfjfmlajnamlpaaW.PrintMore
attribute [local go_sem] max2_int min2_int max_two min_two max_three min_three max_four min_four   -- for this text's walks alone
set_option linter.unusedVariables false
set_option linter.unusedSimpArgs false

/-! ### comptoirlaw03_awake: function 9 -/
def comptoirlaw03_awake.f  : Option (Bool) := (bitmap_Write.f (([2] : List Int))).bind fun bt104 => (if bt104.2 = 0 then ((comptoirhelp_Bytes.f bt104.1 (([64, 0, 0, 0, 0, 0, 0, 0] : List Int))).bind fun t111 => (some t111)) else (some false))
set_option maxHeartbeats 8000000 in
set_option maxRecDepth 100000 in
theorem comptoirlaw03_awake.calls  (r : Bool) (w : World) (h : comptoirlaw03_awake.f  = some r) :
    Calls Try.prog 9 #[] w fun e w' => e = .returned (.bool r) ∧ Below w.heap.size w w' := by
  have HB := Aside0.mk (Below.refl w.heap.size w)
  have H : ((bitmap_Write.f (([2] : List Int))).bind fun bt104 => (if bt104.2 = 0 then ((comptoirhelp_Bytes.f bt104.1 (([64, 0, 0, 0, 0, 0, 0, 0] : List Int))).bind fun t111 => (some t111)) else (some false))) = some r := h
  clear h
  obtain ⟨y101, hy101⟩ : ∃ y_ : List Int, y_ = (([2] : List Int)) := ⟨_, rfl⟩
  replace H : ((bitmap_Write.f y101).bind fun bt104 => (if bt104.2 = 0 then ((comptoirhelp_Bytes.f bt104.1 (([64, 0, 0, 0, 0, 0, 0, 0] : List Int))).bind fun t111 => (some t111)) else (some false))) = some r := by first | (rw [hy101]; with_reducible exact H) | (have H2_ := (Option.bind_some _ _).symm.trans H; rw [hy101]; with_reducible exact H2_) | (have H2_ := (Option.bind_some _ _).symm.trans H; with_reducible exact H2_) | with_reducible exact H | (rw [hy101]; exact H) | exact H
  have Ny101 := Aside0.mk hy101
  clear hy101
  replace H := Option.bind_eq_some_iff.mp H
  obtain ⟨⟨t104, t105⟩, A10, H⟩ := H
  replace H : (if t105 = 0 then ((comptoirhelp_Bytes.f t104 (([64, 0, 0, 0, 0, 0, 0, 0] : List Int))).bind fun t111 => (some t111)) else (some false)) = some r := H
  have A1 := Aside0.mk A10
  clear A10
  by_cases c2 : t105 = 0
  · rw [if_pos c2] at H
    have c2b0 : (t105 == 0) = true := beq_iff_eq.mpr c2
    have c2b1 : (t105 != 0) = false := bne_eq_false_iff_eq.mpr c2
    clear c2
    obtain ⟨y108, hy108⟩ : ∃ y_ : List Int, y_ = (([64, 0, 0, 0, 0, 0, 0, 0] : List Int)) := ⟨_, rfl⟩
    replace H : ((comptoirhelp_Bytes.f t104 y108).bind fun t111 => (some t111)) = some r := by first | (rw [hy108]; with_reducible exact H) | (have H2_ := (Option.bind_some _ _).symm.trans H; rw [hy108]; with_reducible exact H2_) | (have H2_ := (Option.bind_some _ _).symm.trans H; with_reducible exact H2_) | with_reducible exact H | (rw [hy108]; exact H) | exact H
    have Ny108 := Aside0.mk hy108
    clear hy108
    replace H := Option.bind_eq_some_iff.mp H
    obtain ⟨t111, A30, H⟩ := H
    replace H : (some t111) = some r := H
    have A3 := Aside0.mk A30
    clear A30
    obtain rfl := Option.some.inj H
    simp only [Option.some.injEq, Prod.mk.injEq] at H
    obtain ⟨rfl⟩ := H
    go_enter Try.func9, Try.ntmps9
    go_wp2_with (first | ((with_reducible refine gate_dst (N := 4) rfl ?_); (try (refine gate_guard (by rfl) ?_; dsimp only)); refine Kd.R_lit (Kd.int .i64) _ 3 ?hg (N := 4) ?hd (xs := ([2] : List Int)) (inner := [.int .i64 2]) (ok := fun _ => True) (okp := fun _ => True) ?hr ?hp (fun _ hk => hk) trivial (Below.refl _ _) (Nat.le_refl _) (by simp) ?_; (case hd => rfl); (case hg => rfl); (case hr => first | (go_simp; done) | (go_simp; rfl) | (go_simp; simp only [show ∀ l_ : List UInt8, (l_ != []) = !l_.isEmpty from fun l_ => by cases l_ <;> rfl]; done)); (case hp => exact (Reps.one (show Kd.M (Kd.int .i64) _ _ _ 2 [.int .i64 2] from rfl) (Reps.none _ _))); intro v102 w4 ho5 hb hg_ hnew_; clear hg_ hnew_; (first | rw [← Ny101.out] at ho5 | (simp only [Int.reduceToNat] at ho5; rw [← Ny101.out] at ho5)); have n0_ := Aside0.mk (Kd.R_lower ho5 (below_size (by repeat (first | (with_reducible first | exact HB.out | apply below_alloc | apply pw_below_drewN | apply below_drew1) | exact HB.out)))); have n1_ := Aside0.mk (below_step (by repeat (first | (with_reducible first | exact HB.out | apply below_alloc | apply pw_below_drewN | apply below_drew1) | exact HB.out)) hb); clear HB; have HO103 := n0_; have HB := n1_; clear n0_ n1_; clear hb ho5; obtain ⟨Ao6, co6, eo6⟩ := Kd.R_slice HO103.out; subst eo6) | ((with_reducible refine gate_callee (f := 8) rfl ?_); refine goesL_ (some 5) rfl rfl Try.func8 (by kernel_rfl) rfl #[.slice Ao6 y101.length co6] rfl (by (try simp only [List.map_toArray, List.map_cons, List.map_nil]); first | done | rfl | (simp only [List.length_drop, List.length_take]; rfl)) ?_; (with_reducible refine (bitmap_Write.calls _ _ y101 t104 t105 _ ?side1 ?side2 A1.out).mono ?_); (case side1 => repeat (first | exact (Kd.R_reads' HO103.out).2.2 | (with_reducible refine Kd.C_alloc ?_ _) | (with_reducible refine Kd.C_drewN ?_ _) | (with_reducible refine Kd.C_drew ?_))); (case side2 => exact (Kd.R_reads' HO103.out).2.1); rintro e w7 ⟨v106, rfl, ho0, hb⟩; refine ⟨_, rfl, ?_⟩; have n0_ := Aside0.mk (Kd.R_below (by (with_reducible repeat (first | apply Kd.R_alloc | apply Kd.R_drewN | apply Kd.R_drew)); exact HO103.out) hb); have n1_ := Aside0.mk (Kd.R_lower ho0 (below_size (by repeat (first | (with_reducible first | exact HB.out | apply below_alloc | apply pw_below_drewN | apply below_drew1) | exact HB.out)))); have n2_ := Aside0.mk (below_step (by repeat (first | (with_reducible first | exact HB.out | apply below_alloc | apply pw_below_drewN | apply below_drew1) | exact HB.out)) hb); clear HO103; clear HB; have HO103 := n0_; have HO107 := n1_; have HB := n2_; clear n0_ n1_ n2_; (try clear hb); (try clear hb2); (try clear hk); (try clear hi); (try clear ho0)) | ((with_reducible refine gate_dst (N := 12) rfl ?_); (try (refine gate_guard (by rfl) ?_; dsimp only)); refine Kd.R_lit (Kd.int .u8) _ 5 ?hg (N := 12) ?hd (xs := ([64, 0, 0, 0, 0, 0, 0, 0] : List Int)) (inner := [.int .u8 64, .int .u8 0, .int .u8 0, .int .u8 0, .int .u8 0, .int .u8 0, .int .u8 0, .int .u8 0]) (ok := fun _ => True) (okp := fun _ => True) ?hr ?hp (fun _ hk => hk) trivial (Below.refl _ _) (Nat.le_refl _) (by simp) ?_; (case hd => rfl); (case hg => rfl); (case hr => first | (go_simp; done) | (go_simp; rfl) | (go_simp; simp only [show ∀ l_ : List UInt8, (l_ != []) = !l_.isEmpty from fun l_ => by cases l_ <;> rfl]; done)); (case hp => exact (Reps.one (show Kd.M (Kd.int .u8) _ _ _ 64 [.int .u8 64] from rfl) (Reps.one (show Kd.M (Kd.int .u8) _ _ _ 0 [.int .u8 0] from rfl) (Reps.one (show Kd.M (Kd.int .u8) _ _ _ 0 [.int .u8 0] from rfl) (Reps.one (show Kd.M (Kd.int .u8) _ _ _ 0 [.int .u8 0] from rfl) (Reps.one (show Kd.M (Kd.int .u8) _ _ _ 0 [.int .u8 0] from rfl) (Reps.one (show Kd.M (Kd.int .u8) _ _ _ 0 [.int .u8 0] from rfl) (Reps.one (show Kd.M (Kd.int .u8) _ _ _ 0 [.int .u8 0] from rfl) (Reps.one (show Kd.M (Kd.int .u8) _ _ _ 0 [.int .u8 0] from rfl) (Reps.none _ _)))))))))); intro v109 w8 ho9 hb hg_ hnew_; clear hg_ hnew_; (first | rw [← Ny108.out] at ho9 | (simp only [Int.reduceToNat] at ho9; rw [← Ny108.out] at ho9)); have n0_ := Aside0.mk (Kd.R_below (by (with_reducible repeat (first | apply Kd.R_alloc | apply Kd.R_drewN | apply Kd.R_drew)); exact HO103.out) hb); have n1_ := Aside0.mk (Kd.R_elder' (by (with_reducible repeat (first | apply Kd.R_alloc | apply Kd.R_drewN | apply Kd.R_drew)); exact HO107.out) (Kd.R_base ho9) hb); have n2_ := Aside0.mk (Kd.R_lower (Kd.R_new' ho9 (Kd.R_lt (by (with_reducible repeat (first | apply Kd.R_alloc | apply Kd.R_drewN | apply Kd.R_drew)); exact HO107.out))) (below_size (by repeat (first | (with_reducible first | exact HB.out | apply below_alloc | apply pw_below_drewN | apply below_drew1) | exact HB.out)))); have n3_ := Aside0.mk (below_step (by repeat (first | (with_reducible first | exact HB.out | apply below_alloc | apply pw_below_drewN | apply below_drew1) | exact HB.out)) hb); clear HO103; clear HO107; clear HB; have HO103 := n0_; have HO107 := n1_; have HO110 := n2_; have HB := n3_; clear n0_ n1_ n2_ n3_; clear hb ho9; obtain ⟨Ao10, co10, eo10⟩ := Kd.R_slice HO107.out; subst eo10; obtain ⟨Ao11, co11, eo11⟩ := Kd.R_slice HO110.out; subst eo11) | (go_at_call 15; (with_reducible refine (comptoirhelp_Bytes.calls _ _ t104 _ _ y108 t111 _ ?side1 ?side2 ?side3 ?side4 A3.out).mono ?_); (case side1 => repeat (first | exact (Kd.R_reads' HO107.out).2.2 | (with_reducible refine Kd.C_alloc ?_ _) | (with_reducible refine Kd.C_drewN ?_ _) | (with_reducible refine Kd.C_drew ?_))); (case side2 => exact (Kd.R_reads' HO107.out).2.1); (case side3 => repeat (first | exact (Kd.R_reads' HO110.out).2.2 | (with_reducible refine Kd.C_alloc ?_ _) | (with_reducible refine Kd.C_drewN ?_ _) | (with_reducible refine Kd.C_drew ?_))); (case side4 => exact (Kd.R_reads' HO110.out).2.1); rintro e w' ⟨rfl, ⟨nd, rfl⟩⟩))
    go_ret
    exact ⟨by first | rfl | (simp [errW_none, errW_some] <;> rfl) | (simp [*, errW_none, errW_some] <;> rfl), by repeat (first | (with_reducible first | exact HB.out | apply below_alloc | apply pw_below_drewN | apply below_drew1) | exact HB.out)⟩
  · rw [if_neg c2] at H
    have c2b0 : (t105 == 0) = false := beq_eq_false_iff_ne.mpr c2
    have c2b1 : (t105 != 0) = true := bne_iff_ne.mpr c2
    obtain rfl := Option.some.inj H
    simp only [Option.some.injEq, Prod.mk.injEq] at H
    obtain ⟨rfl⟩ := H
    go_enter Try.func9, Try.ntmps9
    go_wp2_with (first | ((with_reducible refine gate_dst (N := 4) rfl ?_); (try (refine gate_guard (by rfl) ?_; dsimp only)); refine Kd.R_lit (Kd.int .i64) _ 3 ?hg (N := 4) ?hd (xs := ([2] : List Int)) (inner := [.int .i64 2]) (ok := fun _ => True) (okp := fun _ => True) ?hr ?hp (fun _ hk => hk) trivial (Below.refl _ _) (Nat.le_refl _) (by simp) ?_; (case hd => rfl); (case hg => rfl); (case hr => first | (go_simp; done) | (go_simp; rfl) | (go_simp; simp only [show ∀ l_ : List UInt8, (l_ != []) = !l_.isEmpty from fun l_ => by cases l_ <;> rfl]; done)); (case hp => exact (Reps.one (show Kd.M (Kd.int .i64) _ _ _ 2 [.int .i64 2] from rfl) (Reps.none _ _))); intro v102 w12 ho13 hb hg_ hnew_; clear hg_ hnew_; (first | rw [← Ny101.out] at ho13 | (simp only [Int.reduceToNat] at ho13; rw [← Ny101.out] at ho13)); have n0_ := Aside0.mk (Kd.R_lower ho13 (below_size (by repeat (first | (with_reducible first | exact HB.out | apply below_alloc | apply pw_below_drewN | apply below_drew1) | exact HB.out)))); have n1_ := Aside0.mk (below_step (by repeat (first | (with_reducible first | exact HB.out | apply below_alloc | apply pw_below_drewN | apply below_drew1) | exact HB.out)) hb); clear HB; have HO103 := n0_; have HB := n1_; clear n0_ n1_; clear hb ho13; obtain ⟨Ao14, co14, eo14⟩ := Kd.R_slice HO103.out; subst eo14) | ((with_reducible refine gate_callee (f := 8) rfl ?_); refine goesL_ (some 5) rfl rfl Try.func8 (by kernel_rfl) rfl #[.slice Ao14 y101.length co14] rfl (by (try simp only [List.map_toArray, List.map_cons, List.map_nil]); first | done | rfl | (simp only [List.length_drop, List.length_take]; rfl)) ?_; (with_reducible refine (bitmap_Write.calls _ _ y101 t104 t105 _ ?side1 ?side2 A1.out).mono ?_); (case side1 => repeat (first | exact (Kd.R_reads' HO103.out).2.2 | (with_reducible refine Kd.C_alloc ?_ _) | (with_reducible refine Kd.C_drewN ?_ _) | (with_reducible refine Kd.C_drew ?_))); (case side2 => exact (Kd.R_reads' HO103.out).2.1); rintro e w15 ⟨v106, rfl, ho0, hb⟩; refine ⟨_, rfl, ?_⟩; have n0_ := Aside0.mk (Kd.R_below (by (with_reducible repeat (first | apply Kd.R_alloc | apply Kd.R_drewN | apply Kd.R_drew)); exact HO103.out) hb); have n1_ := Aside0.mk (Kd.R_lower ho0 (below_size (by repeat (first | (with_reducible first | exact HB.out | apply below_alloc | apply pw_below_drewN | apply below_drew1) | exact HB.out)))); have n2_ := Aside0.mk (below_step (by repeat (first | (with_reducible first | exact HB.out | apply below_alloc | apply pw_below_drewN | apply below_drew1) | exact HB.out)) hb); clear HO103; clear HB; have HO103 := n0_; have HO107 := n1_; have HB := n2_; clear n0_ n1_ n2_; (try clear hb); (try clear hb2); (try clear hk); (try clear hi); (try clear ho0)))
    go_ret
    exact ⟨by first | rfl | (simp [errW_none, errW_some] <;> rfl) | (simp [*, errW_none, errW_some] <;> rfl), by repeat (first | (with_reducible first | exact HB.out | apply below_alloc | apply pw_below_drewN | apply below_drew1) | exact HB.out)⟩

/-! ### comptoirlaw03_BitmapEach: function 3 -/
mutual
def comptoirlaw03_BitmapEach.j0 : Nat → Int → Int → Bool → Option (Bool)
  | 0, _, _, _ => none
  | k + 1, x0, x1, x5 => (bitmap_Write.f (([x0] : List Int))).bind fun bt149 => ((bitmap_Write.f (([x0, x1] : List Int))).bind fun bt156 => (if x5 = true then (if x0 > 64 then (comptoirlaw03_BitmapEach.j1 k x0 x1 bt149.1 bt149.2 bt156.2 16 2) else (comptoirlaw03_BitmapEach.j1 k x0 x1 bt149.1 bt149.2 bt156.2 8 1)) else ((comptoirlaw03_awake.f).bind fun t160 => (if t160 = true then (if bt149.2 = 1 then (if (bt149.1.length : Int) = 0 then (some (bt156.2 == 1)) else (some false)) else (some false)) else (some false)))))
def comptoirlaw03_BitmapEach.j1 : Nat → Int → Int → List Int → Int → Int → Int → Int → Option (Bool)
  | 0, _, _, _, _, _, _, _ => none
  | k + 1, x0, x1, x6, x7, x9, x10, x11 => comptoirlaw03_BitmapEach.l0 k x0 x1 x6 x7 x9 x10 x11 0
def comptoirlaw03_BitmapEach.l0 : Nat → Int → Int → List Int → Int → Int → Int → Int → Int → Option (Bool)
  | 0, _, _, _, _, _, _, _, _ => none
  | k + 1, x0, x1, x6, x7, x9, x10, x11, x12 => if x12 < (x6.length : Int) then (comptoirlaw03_BitmapEach.l1 k x0 x1 x6 x7 x9 x10 x11 x12 0) else ((comptoirlaw03_awake.f).bind fun t161 => (if t161 = true then (if x7 = 0 then (if (x6.length : Int) = x10 then (if x11 = 0 then (if 0 ≤ (wrap64 (Int.tdiv (wrap64 (x0 - 1)) 8)) then (if (wrap64 (Int.tdiv (wrap64 (x0 - 1)) 8)) < (x6.length : Int) then (if 0 ≤ (IntKind.u64.wrap (wrap64 (7 - (Int.tmod (wrap64 (x0 - 1)) 8)))) then (if (Go.bits .and .u8 (shr .u8 (rd x6 (wrap64 (Int.tdiv (wrap64 (x0 - 1)) 8))) (IntKind.u64.wrap (wrap64 (7 - (Int.tmod (wrap64 (x0 - 1)) 8))))) 1) = 1 then (if x1 > x0 then (if x1 ≤ 128 then (some ((x9 == 0) == (x1 != 65))) else (some ((x9 == 0) == false))) else (some ((x9 == 0) == false))) else (some false)) else (none)) else (none)) else (none)) else (some false)) else (some false)) else (some false)) else (some false)))
def comptoirlaw03_BitmapEach.l1 : Nat → Int → Int → List Int → Int → Int → Int → Int → Int → Int → Option (Bool)
  | 0, _, _, _, _, _, _, _, _, _ => none
  | k + 1, x0, x1, x6, x7, x9, x10, x11, x12, x13 => if x13 < 8 then (if 0 ≤ x12 then (if x12 < (x6.length : Int) then (if 0 ≤ (IntKind.u64.wrap (x13)) then (if (Go.bits .and .u8 (shr .u8 (rd x6 x12) (IntKind.u64.wrap (x13))) 1) = 1 then (comptoirlaw03_BitmapEach.l1 k x0 x1 x6 x7 x9 x10 (wrap64 (x11 - 1)) x12 (wrap64 (x13 + 1))) else (comptoirlaw03_BitmapEach.l1 k x0 x1 x6 x7 x9 x10 x11 x12 (wrap64 (x13 + 1)))) else (none)) else (none)) else (none)) else (comptoirlaw03_BitmapEach.l0 k x0 x1 x6 x7 x9 x10 x11 (wrap64 (x12 + 1)))
end
def comptoirlaw03_BitmapEach.f (k : Nat) (a0 : Int) (a1 : Int) : Option (Bool) := if (wrap64 (Int.tmod (IntKind.u64.wrap (a0)) 135)) ≥ 2 then (if (wrap64 (Int.tmod (IntKind.u64.wrap (a0)) 135)) ≤ 128 then (comptoirlaw03_BitmapEach.j0 k (wrap64 (Int.tmod (IntKind.u64.wrap (a0)) 135)) (wrap64 (Int.tmod (IntKind.u64.wrap (a1)) 135)) ((wrap64 (Int.tmod (IntKind.u64.wrap (a0)) 135)) != 65)) else (comptoirlaw03_BitmapEach.j0 k (wrap64 (Int.tmod (IntKind.u64.wrap (a0)) 135)) (wrap64 (Int.tmod (IntKind.u64.wrap (a1)) 135)) false)) else (comptoirlaw03_BitmapEach.j0 k (wrap64 (Int.tmod (IntKind.u64.wrap (a0)) 135)) (wrap64 (Int.tmod (IntKind.u64.wrap (a1)) 135)) false)
theorem comptoirlaw03_BitmapEach.mono_l : ∀ k, (∀ y0 y1 y2, LeO (comptoirlaw03_BitmapEach.j0 k y0 y1 y2) (comptoirlaw03_BitmapEach.j0 (k + 1) y0 y1 y2)) ∧ (∀ y0 y1 y2 y3 y4 y5 y6, LeO (comptoirlaw03_BitmapEach.j1 k y0 y1 y2 y3 y4 y5 y6) (comptoirlaw03_BitmapEach.j1 (k + 1) y0 y1 y2 y3 y4 y5 y6)) ∧ (∀ y0 y1 y2 y3 y4 y5 y6 y7, LeO (comptoirlaw03_BitmapEach.l0 k y0 y1 y2 y3 y4 y5 y6 y7) (comptoirlaw03_BitmapEach.l0 (k + 1) y0 y1 y2 y3 y4 y5 y6 y7)) ∧ (∀ y0 y1 y2 y3 y4 y5 y6 y7 y8, LeO (comptoirlaw03_BitmapEach.l1 k y0 y1 y2 y3 y4 y5 y6 y7 y8) (comptoirlaw03_BitmapEach.l1 (k + 1) y0 y1 y2 y3 y4 y5 y6 y7 y8))
  | 0 => ⟨fun _ _ _ r h => by simp [comptoirlaw03_BitmapEach.j0] at h, fun _ _ _ _ _ _ _ r h => by simp [comptoirlaw03_BitmapEach.j1] at h, fun _ _ _ _ _ _ _ _ r h => by simp [comptoirlaw03_BitmapEach.l0] at h, fun _ _ _ _ _ _ _ _ _ r h => by simp [comptoirlaw03_BitmapEach.l1] at h⟩
  | k + 1 => by
    obtain ⟨ih0, ih1, ih2, ih3⟩ := comptoirlaw03_BitmapEach.mono_l k
    refine ⟨?_, ?_, ?_, ?_⟩
    · intro y0 y1 y2
      unfold comptoirlaw03_BitmapEach.j0
      repeat' first
      | (with_reducible exact ih0 _ _ _)
      | (with_reducible exact ih1 _ _ _ _ _ _ _)
      | (with_reducible exact ih2 _ _ _ _ _ _ _ _)
      | (with_reducible exact ih3 _ _ _ _ _ _ _ _ _)
      | (with_reducible exact LeO.refl _)
      | (with_reducible exact LeO.none _)
      | (with_reducible refine LeO.ite ?_ ?_)
      | (with_reducible refine LeO.bind ?_ (fun _ => ?_))
      | exact ih0 _ _ _
      | exact ih1 _ _ _ _ _ _ _
      | exact ih2 _ _ _ _ _ _ _ _
      | exact ih3 _ _ _ _ _ _ _ _ _
      | exact LeO.none _
      | refine LeO.ite ?_ ?_
      | refine LeO.bind ?_ (fun _ => ?_)
    · intro y0 y1 y2 y3 y4 y5 y6
      unfold comptoirlaw03_BitmapEach.j1
      repeat' first
      | (with_reducible exact ih0 _ _ _)
      | (with_reducible exact ih1 _ _ _ _ _ _ _)
      | (with_reducible exact ih2 _ _ _ _ _ _ _ _)
      | (with_reducible exact ih3 _ _ _ _ _ _ _ _ _)
      | (with_reducible exact LeO.refl _)
      | (with_reducible exact LeO.none _)
      | (with_reducible refine LeO.ite ?_ ?_)
      | (with_reducible refine LeO.bind ?_ (fun _ => ?_))
      | exact ih0 _ _ _
      | exact ih1 _ _ _ _ _ _ _
      | exact ih2 _ _ _ _ _ _ _ _
      | exact ih3 _ _ _ _ _ _ _ _ _
      | exact LeO.none _
      | refine LeO.ite ?_ ?_
      | refine LeO.bind ?_ (fun _ => ?_)
    · intro y0 y1 y2 y3 y4 y5 y6 y7
      unfold comptoirlaw03_BitmapEach.l0
      repeat' first
      | (with_reducible exact ih0 _ _ _)
      | (with_reducible exact ih1 _ _ _ _ _ _ _)
      | (with_reducible exact ih2 _ _ _ _ _ _ _ _)
      | (with_reducible exact ih3 _ _ _ _ _ _ _ _ _)
      | (with_reducible exact LeO.refl _)
      | (with_reducible exact LeO.none _)
      | (with_reducible refine LeO.ite ?_ ?_)
      | (with_reducible refine LeO.bind ?_ (fun _ => ?_))
      | exact ih0 _ _ _
      | exact ih1 _ _ _ _ _ _ _
      | exact ih2 _ _ _ _ _ _ _ _
      | exact ih3 _ _ _ _ _ _ _ _ _
      | exact LeO.none _
      | refine LeO.ite ?_ ?_
      | refine LeO.bind ?_ (fun _ => ?_)
    · intro y0 y1 y2 y3 y4 y5 y6 y7 y8
      unfold comptoirlaw03_BitmapEach.l1
      repeat' first
      | (with_reducible exact ih0 _ _ _)
      | (with_reducible exact ih1 _ _ _ _ _ _ _)
      | (with_reducible exact ih2 _ _ _ _ _ _ _ _)
      | (with_reducible exact ih3 _ _ _ _ _ _ _ _ _)
      | (with_reducible exact LeO.refl _)
      | (with_reducible exact LeO.none _)
      | (with_reducible refine LeO.ite ?_ ?_)
      | (with_reducible refine LeO.bind ?_ (fun _ => ?_))
      | exact ih0 _ _ _
      | exact ih1 _ _ _ _ _ _ _
      | exact ih2 _ _ _ _ _ _ _ _
      | exact ih3 _ _ _ _ _ _ _ _ _
      | exact LeO.none _
      | refine LeO.ite ?_ ?_
      | refine LeO.bind ?_ (fun _ => ?_)
theorem comptoirlaw03_BitmapEach.mono : ∀ a0 a1 k, LeO (comptoirlaw03_BitmapEach.f k a0 a1) (comptoirlaw03_BitmapEach.f (k + 1) a0 a1) := by
  intro a0 a1 k
  obtain ⟨ih0, ih1, ih2, ih3⟩ := comptoirlaw03_BitmapEach.mono_l k
  unfold comptoirlaw03_BitmapEach.f
  repeat' first
      | (with_reducible exact ih0 _ _ _)
      | (with_reducible exact ih1 _ _ _ _ _ _ _)
      | (with_reducible exact ih2 _ _ _ _ _ _ _ _)
      | (with_reducible exact ih3 _ _ _ _ _ _ _ _ _)
      | (with_reducible exact LeO.refl _)
      | (with_reducible exact LeO.none _)
      | (with_reducible refine LeO.ite ?_ ?_)
      | (with_reducible refine LeO.bind ?_ (fun _ => ?_))
      | exact ih0 _ _ _
      | exact ih1 _ _ _ _ _ _ _
      | exact ih2 _ _ _ _ _ _ _ _
      | exact ih3 _ _ _ _ _ _ _ _ _
      | exact LeO.none _
      | refine LeO.ite ?_ ?_
      | refine LeO.bind ?_ (fun _ => ?_)
set_option maxHeartbeats 8000000 in
set_option maxRecDepth 100000 in
theorem comptoirlaw03_BitmapEach.calls (k : Nat) (a0 : Int) (a1 : Int) (r : Bool) (ht_ : r = true) (w : World) (h : comptoirlaw03_BitmapEach.f k a0 a1 = some r) :
    Calls Try.prog 3 #[.int .i64 a0, .int .i64 a1] w fun e w' => e = .returned (.bool r) ∧ Below w.heap.size w w' := by
  have HT_ := Aside0.mk ht_
  clear ht_
  have HB := Aside0.mk (Below.refl w.heap.size w)
  have H : (if (wrap64 (Int.tmod (IntKind.u64.wrap (a0)) 135)) ≥ 2 then (if (wrap64 (Int.tmod (IntKind.u64.wrap (a0)) 135)) ≤ 128 then (comptoirlaw03_BitmapEach.j0 k (wrap64 (Int.tmod (IntKind.u64.wrap (a0)) 135)) (wrap64 (Int.tmod (IntKind.u64.wrap (a1)) 135)) ((wrap64 (Int.tmod (IntKind.u64.wrap (a0)) 135)) != 65)) else (comptoirlaw03_BitmapEach.j0 k (wrap64 (Int.tmod (IntKind.u64.wrap (a0)) 135)) (wrap64 (Int.tmod (IntKind.u64.wrap (a1)) 135)) false)) else (comptoirlaw03_BitmapEach.j0 k (wrap64 (Int.tmod (IntKind.u64.wrap (a0)) 135)) (wrap64 (Int.tmod (IntKind.u64.wrap (a1)) 135)) false)) = some r := h
  clear h
  have HC3 := Aside0.mk H
  clear H
  go_enter Try.func3, Try.ntmps3
  go_upto_region 2 with (fail)
  go_cut [5] (fun v5 wc => ∃ (kq : Nat) (x5_2 : Bool), v5 = .bool x5_2 ∧ Aside0 (comptoirlaw03_BitmapEach.j0 kq (wrap64 (Int.tmod (IntKind.u64.wrap (a0)) 135)) (wrap64 (Int.tmod (IntKind.u64.wrap (a1)) 135)) x5_2 = some r) ∧ Aside0 (kq ≤ k) ∧ Aside0 (Below w.heap.size w wc))
  case first =>
    have H := HC3.out
    clear HC3
    by_cases c4 : (wrap64 (Int.tmod (IntKind.u64.wrap (a0)) 135)) ≥ 2
    · rw [if_pos c4] at H
      have c4b0 : decide (2 ≤ (wrap64 (Int.tmod (IntKind.u64.wrap (a0)) 135))) = true := decide_eq_true c4
      clear c4
      (first | rw [c4b0] | (simp only [i64_w, i32_w]; rw [c4b0]) | skip)
      by_cases c5 : (wrap64 (Int.tmod (IntKind.u64.wrap (a0)) 135)) ≤ 128
      · rw [if_pos c5] at H
        have c5b0 : decide ((wrap64 (Int.tmod (IntKind.u64.wrap (a0)) 135)) ≤ 128) = true := decide_eq_true c5
        clear c5
        have H' := Aside0.mk H
        clear H
        go_wp2
        go_meet
        case rel => exact ⟨_, (((wrap64 (Int.tmod (IntKind.u64.wrap (a0)) 135)) != 65)), (by first | rfl | (simp; done) | (simp [*]; done)), H', ⟨by first | omega | exact Nat.le_refl _⟩, ⟨by repeat (first | (with_reducible first | exact HB.out | apply below_alloc | apply pw_below_drewN | apply below_drew1) | exact HB.out)⟩⟩
      · rw [if_neg c5] at H
        have c5b0 : decide ((wrap64 (Int.tmod (IntKind.u64.wrap (a0)) 135)) ≤ 128) = false := decide_eq_false c5
        clear c5
        have H' := Aside0.mk H
        clear H
        go_wp2
        go_meet
        case rel => exact ⟨_, (false), (by first | rfl | (simp; done) | (simp [*]; done)), H', ⟨by first | omega | exact Nat.le_refl _⟩, ⟨by repeat (first | (with_reducible first | exact HB.out | apply below_alloc | apply pw_below_drewN | apply below_drew1) | exact HB.out)⟩⟩
    · rw [if_neg c4] at H
      have c4b0 : decide (2 ≤ (wrap64 (Int.tmod (IntKind.u64.wrap (a0)) 135))) = false := decide_eq_false c4
      clear c4
      (first | rw [c4b0] | (simp only [i64_w, i32_w]; rw [c4b0]) | skip)
      have H' := Aside0.mk H
      clear H
      go_wp2
      go_meet
      case rel => exact ⟨_, (false), (by first | rfl | (simp; done) | (simp [*]; done)), H', ⟨by first | omega | exact Nat.le_refl _⟩, ⟨by repeat (first | (with_reducible first | exact HB.out | apply below_alloc | apply pw_below_drewN | apply below_drew1) | exact HB.out)⟩⟩
  case rest =>
    clear HC3
    try clear p2
    try clear c3
    try clear c4
    try clear c4b0
    try clear c5
    try clear c5b0
    obtain ⟨kq, x5_2, rfl, HA, HJ2, HB⟩ := hcut
    cases kq with
    | zero => exact absurd HA.out (by simp [comptoirlaw03_BitmapEach.j0])
    | succ kj2 =>
      have H := HA.out
      clear HA
      simp only [comptoirlaw03_BitmapEach.j0] at H
      obtain ⟨y146, hy146⟩ : ∃ y_ : List Int, y_ = (([(wrap64 (Int.tmod (IntKind.u64.wrap (a0)) 135))] : List Int)) := ⟨_, rfl⟩
      replace H : ((bitmap_Write.f y146).bind fun bt149 => ((bitmap_Write.f (([(wrap64 (Int.tmod (IntKind.u64.wrap (a0)) 135)), (wrap64 (Int.tmod (IntKind.u64.wrap (a1)) 135))] : List Int))).bind fun bt156 => (if x5_2 = true then (if (wrap64 (Int.tmod (IntKind.u64.wrap (a0)) 135)) > 64 then (comptoirlaw03_BitmapEach.j1 kj2 (wrap64 (Int.tmod (IntKind.u64.wrap (a0)) 135)) (wrap64 (Int.tmod (IntKind.u64.wrap (a1)) 135)) bt149.1 bt149.2 bt156.2 16 2) else (comptoirlaw03_BitmapEach.j1 kj2 (wrap64 (Int.tmod (IntKind.u64.wrap (a0)) 135)) (wrap64 (Int.tmod (IntKind.u64.wrap (a1)) 135)) bt149.1 bt149.2 bt156.2 8 1)) else ((comptoirlaw03_awake.f).bind fun t160 => (if t160 = true then (if bt149.2 = 1 then (if (bt149.1.length : Int) = 0 then (some (bt156.2 == 1)) else (some false)) else (some false)) else (some false)))))) = some r := by first | (rw [hy146]; with_reducible exact H) | (have H2_ := (Option.bind_some _ _).symm.trans H; rw [hy146]; with_reducible exact H2_) | (have H2_ := (Option.bind_some _ _).symm.trans H; with_reducible exact H2_) | with_reducible exact H | (rw [hy146]; exact H) | exact H
      have Ny146 := Aside0.mk hy146
      clear hy146
      replace H := Option.bind_eq_some_iff.mp H
      obtain ⟨⟨t149, t150⟩, A60, H⟩ := H
      replace H : ((bitmap_Write.f (([(wrap64 (Int.tmod (IntKind.u64.wrap (a0)) 135)), (wrap64 (Int.tmod (IntKind.u64.wrap (a1)) 135))] : List Int))).bind fun bt156 => (if x5_2 = true then (if (wrap64 (Int.tmod (IntKind.u64.wrap (a0)) 135)) > 64 then (comptoirlaw03_BitmapEach.j1 kj2 (wrap64 (Int.tmod (IntKind.u64.wrap (a0)) 135)) (wrap64 (Int.tmod (IntKind.u64.wrap (a1)) 135)) t149 t150 bt156.2 16 2) else (comptoirlaw03_BitmapEach.j1 kj2 (wrap64 (Int.tmod (IntKind.u64.wrap (a0)) 135)) (wrap64 (Int.tmod (IntKind.u64.wrap (a1)) 135)) t149 t150 bt156.2 8 1)) else ((comptoirlaw03_awake.f).bind fun t160 => (if t160 = true then (if t150 = 1 then (if (t149.length : Int) = 0 then (some (bt156.2 == 1)) else (some false)) else (some false)) else (some false))))) = some r := H
      have A6 := Aside0.mk A60
      clear A60
      obtain ⟨y153, hy153⟩ : ∃ y_ : List Int, y_ = (([(wrap64 (Int.tmod (IntKind.u64.wrap (a0)) 135)), (wrap64 (Int.tmod (IntKind.u64.wrap (a1)) 135))] : List Int)) := ⟨_, rfl⟩
      replace H : ((bitmap_Write.f y153).bind fun bt156 => (if x5_2 = true then (if (wrap64 (Int.tmod (IntKind.u64.wrap (a0)) 135)) > 64 then (comptoirlaw03_BitmapEach.j1 kj2 (wrap64 (Int.tmod (IntKind.u64.wrap (a0)) 135)) (wrap64 (Int.tmod (IntKind.u64.wrap (a1)) 135)) t149 t150 bt156.2 16 2) else (comptoirlaw03_BitmapEach.j1 kj2 (wrap64 (Int.tmod (IntKind.u64.wrap (a0)) 135)) (wrap64 (Int.tmod (IntKind.u64.wrap (a1)) 135)) t149 t150 bt156.2 8 1)) else ((comptoirlaw03_awake.f).bind fun t160 => (if t160 = true then (if t150 = 1 then (if (t149.length : Int) = 0 then (some (bt156.2 == 1)) else (some false)) else (some false)) else (some false))))) = some r := by first | (rw [hy153]; with_reducible exact H) | (have H2_ := (Option.bind_some _ _).symm.trans H; rw [hy153]; with_reducible exact H2_) | (have H2_ := (Option.bind_some _ _).symm.trans H; with_reducible exact H2_) | with_reducible exact H | (rw [hy153]; exact H) | exact H
      have Ny153 := Aside0.mk hy153
      clear hy153
      replace H := Option.bind_eq_some_iff.mp H
      obtain ⟨⟨t156, t157⟩, A70, H⟩ := H
      replace H : (if x5_2 = true then (if (wrap64 (Int.tmod (IntKind.u64.wrap (a0)) 135)) > 64 then (comptoirlaw03_BitmapEach.j1 kj2 (wrap64 (Int.tmod (IntKind.u64.wrap (a0)) 135)) (wrap64 (Int.tmod (IntKind.u64.wrap (a1)) 135)) t149 t150 t157 16 2) else (comptoirlaw03_BitmapEach.j1 kj2 (wrap64 (Int.tmod (IntKind.u64.wrap (a0)) 135)) (wrap64 (Int.tmod (IntKind.u64.wrap (a1)) 135)) t149 t150 t157 8 1)) else ((comptoirlaw03_awake.f).bind fun t160 => (if t160 = true then (if t150 = 1 then (if (t149.length : Int) = 0 then (some (t157 == 1)) else (some false)) else (some false)) else (some false)))) = some r := H
      have A7 := Aside0.mk A70
      clear A70
      by_cases c8 : x5_2 = true
      · subst c8
        have H1 : (if (wrap64 (Int.tmod (IntKind.u64.wrap (a0)) 135)) > 64 then (comptoirlaw03_BitmapEach.j1 kj2 (wrap64 (Int.tmod (IntKind.u64.wrap (a0)) 135)) (wrap64 (Int.tmod (IntKind.u64.wrap (a1)) 135)) t149 t150 t157 16 2) else (comptoirlaw03_BitmapEach.j1 kj2 (wrap64 (Int.tmod (IntKind.u64.wrap (a0)) 135)) (wrap64 (Int.tmod (IntKind.u64.wrap (a1)) 135)) t149 t150 t157 8 1)) = some r := by rw [if_pos rfl] at H; exact H
        clear H
        have H := H1
        clear H1
        have HC9 := Aside0.mk H
        clear H
        go_upto_if 62 with (first | ((with_reducible refine gate_dst (N := 34) rfl ?_); (try (refine gate_guard (by rfl) ?_; dsimp only)); refine Kd.R_lit (Kd.int .i64) _ 3 ?hg (N := 34) ?hd (xs := ([(wrap64 (Int.tmod (IntKind.u64.wrap (a0)) 135))] : List Int)) (inner := [.int .i64 (wrap64 (Int.tmod (IntKind.u64.wrap (a0)) 135))]) (ok := fun _ => True) (okp := fun _ => True) ?hr ?hp (fun _ hk => hk) trivial (Below.refl _ _) (Nat.le_refl _) (by simp) ?_; (case hd => rfl); (case hg => rfl); (case hr => first | (go_simp; done) | (go_simp; rfl) | (go_simp; simp only [show ∀ l_ : List UInt8, (l_ != []) = !l_.isEmpty from fun l_ => by cases l_ <;> rfl]; done)); (case hp => exact (Reps.one (show Kd.M (Kd.int .i64) _ _ _ (wrap64 (Int.tmod (IntKind.u64.wrap (a0)) 135)) [.int .i64 (wrap64 (Int.tmod (IntKind.u64.wrap (a0)) 135))] from rfl) (Reps.none _ _))); intro v147 w10 ho11 hb hg_ hnew_; clear hg_ hnew_; (first | rw [← Ny146.out] at ho11 | (simp only [Int.reduceToNat] at ho11; rw [← Ny146.out] at ho11)); have n0_ := Aside0.mk (Kd.R_lower ho11 (below_size (by repeat (first | (with_reducible first | exact HB.out | apply below_alloc | apply pw_below_drewN | apply below_drew1) | exact HB.out)))); have n1_ := Aside0.mk (below_step (by repeat (first | (with_reducible first | exact HB.out | apply below_alloc | apply pw_below_drewN | apply below_drew1) | exact HB.out)) hb); clear HB; have HO148 := n0_; have HB := n1_; clear n0_ n1_; clear hb ho11; obtain ⟨Ao12, co12, eo12⟩ := Kd.R_slice HO148.out; subst eo12) | ((with_reducible refine gate_callee (f := 8) rfl ?_); refine goesL_ (some 35) rfl rfl Try.func8 (by kernel_rfl) rfl #[.slice Ao12 y146.length co12] rfl (by (try simp only [List.map_toArray, List.map_cons, List.map_nil]); first | done | rfl | (simp only [List.length_drop, List.length_take]; rfl)) ?_; (with_reducible refine (bitmap_Write.calls _ _ y146 t149 t150 _ ?side1 ?side2 A6.out).mono ?_); (case side1 => repeat (first | exact (Kd.R_reads' HO148.out).2.2 | (with_reducible refine Kd.C_alloc ?_ _) | (with_reducible refine Kd.C_drewN ?_ _) | (with_reducible refine Kd.C_drew ?_))); (case side2 => exact (Kd.R_reads' HO148.out).2.1); rintro e w13 ⟨v151, rfl, ho0, hb⟩; refine ⟨_, rfl, ?_⟩; have n0_ := Aside0.mk (Kd.R_below (by (with_reducible repeat (first | apply Kd.R_alloc | apply Kd.R_drewN | apply Kd.R_drew)); exact HO148.out) hb); have n1_ := Aside0.mk (Kd.R_lower ho0 (below_size (by repeat (first | (with_reducible first | exact HB.out | apply below_alloc | apply pw_below_drewN | apply below_drew1) | exact HB.out)))); have n2_ := Aside0.mk (below_step (by repeat (first | (with_reducible first | exact HB.out | apply below_alloc | apply pw_below_drewN | apply below_drew1) | exact HB.out)) hb); clear HO148; clear HB; have HO148 := n0_; have HO152 := n1_; have HB := n2_; clear n0_ n1_ n2_; (try clear hb); (try clear hb2); (try clear hk); (try clear hi); (try clear ho0)) | ((with_reducible refine gate_dst (N := 41) rfl ?_); (try (refine gate_guard (by rfl) ?_; dsimp only)); refine Kd.R_lit (Kd.int .i64) _ 3 ?hg (N := 41) ?hd (xs := ([(wrap64 (Int.tmod (IntKind.u64.wrap (a0)) 135)), (wrap64 (Int.tmod (IntKind.u64.wrap (a1)) 135))] : List Int)) (inner := [.int .i64 (wrap64 (Int.tmod (IntKind.u64.wrap (a0)) 135)), .int .i64 (wrap64 (Int.tmod (IntKind.u64.wrap (a1)) 135))]) (ok := fun _ => True) (okp := fun _ => True) ?hr ?hp (fun _ hk => hk) trivial (Below.refl _ _) (Nat.le_refl _) (by simp) ?_; (case hd => rfl); (case hg => rfl); (case hr => first | (go_simp; done) | (go_simp; rfl) | (go_simp; simp only [show ∀ l_ : List UInt8, (l_ != []) = !l_.isEmpty from fun l_ => by cases l_ <;> rfl]; done)); (case hp => exact (Reps.one (show Kd.M (Kd.int .i64) _ _ _ (wrap64 (Int.tmod (IntKind.u64.wrap (a0)) 135)) [.int .i64 (wrap64 (Int.tmod (IntKind.u64.wrap (a0)) 135))] from rfl) (Reps.one (show Kd.M (Kd.int .i64) _ _ _ (wrap64 (Int.tmod (IntKind.u64.wrap (a1)) 135)) [.int .i64 (wrap64 (Int.tmod (IntKind.u64.wrap (a1)) 135))] from rfl) (Reps.none _ _)))); intro v154 w14 ho15 hb hg_ hnew_; clear hg_ hnew_; (first | rw [← Ny153.out] at ho15 | (simp only [Int.reduceToNat] at ho15; rw [← Ny153.out] at ho15)); have n0_ := Aside0.mk (Kd.R_elder' (by (with_reducible repeat (first | apply Kd.R_alloc | apply Kd.R_drewN | apply Kd.R_drew)); exact HO148.out) (Kd.R_base ho15) hb); have n1_ := Aside0.mk (Kd.R_below (by (with_reducible repeat (first | apply Kd.R_alloc | apply Kd.R_drewN | apply Kd.R_drew)); exact HO152.out) hb); have n2_ := Aside0.mk (Kd.R_lower (Kd.R_new' ho15 (Kd.R_lt (by (with_reducible repeat (first | apply Kd.R_alloc | apply Kd.R_drewN | apply Kd.R_drew)); exact HO148.out))) (below_size (by repeat (first | (with_reducible first | exact HB.out | apply below_alloc | apply pw_below_drewN | apply below_drew1) | exact HB.out)))); have n3_ := Aside0.mk (below_step (by repeat (first | (with_reducible first | exact HB.out | apply below_alloc | apply pw_below_drewN | apply below_drew1) | exact HB.out)) hb); clear HO148; clear HO152; clear HB; have HO148 := n0_; have HO152 := n1_; have HO155 := n2_; have HB := n3_; clear n0_ n1_ n2_ n3_; clear hb ho15; obtain ⟨Ao16, co16, eo16⟩ := Kd.R_slice HO155.out; subst eo16) | ((with_reducible refine gate_callee (f := 8) rfl ?_); refine goesL_ (some 42) rfl rfl Try.func8 (by kernel_rfl) rfl #[.slice Ao16 y153.length co16] rfl (by (try simp only [List.map_toArray, List.map_cons, List.map_nil]); first | done | rfl | (simp only [List.length_drop, List.length_take]; rfl)) ?_; (with_reducible refine (bitmap_Write.calls _ _ y153 t156 t157 _ ?side1 ?side2 A7.out).mono ?_); (case side1 => repeat (first | exact (Kd.R_reads' HO155.out).2.2 | (with_reducible refine Kd.C_alloc ?_ _) | (with_reducible refine Kd.C_drewN ?_ _) | (with_reducible refine Kd.C_drew ?_))); (case side2 => exact (Kd.R_reads' HO155.out).2.1); rintro e w17 ⟨v158, rfl, ho0, hb⟩; refine ⟨_, rfl, ?_⟩; have n0_ := Aside0.mk (Kd.R_below (by (with_reducible repeat (first | apply Kd.R_alloc | apply Kd.R_drewN | apply Kd.R_drew)); exact HO148.out) hb); have n1_ := Aside0.mk (Kd.R_elder' (by (with_reducible repeat (first | apply Kd.R_alloc | apply Kd.R_drewN | apply Kd.R_drew)); exact HO152.out) (Kd.R_base ho0) hb); have n2_ := Aside0.mk (Kd.R_below (by (with_reducible repeat (first | apply Kd.R_alloc | apply Kd.R_drewN | apply Kd.R_drew)); exact HO155.out) hb); have n3_ := Aside0.mk (Kd.R_lower (Kd.R_new' ho0 (Kd.R_lt (by (with_reducible repeat (first | apply Kd.R_alloc | apply Kd.R_drewN | apply Kd.R_drew)); exact HO152.out))) (below_size (by repeat (first | (with_reducible first | exact HB.out | apply below_alloc | apply pw_below_drewN | apply below_drew1) | exact HB.out)))); have n4_ := Aside0.mk (below_step (by repeat (first | (with_reducible first | exact HB.out | apply below_alloc | apply pw_below_drewN | apply below_drew1) | exact HB.out)) hb); clear HO148; clear HO152; clear HO155; clear HB; have HO148 := n0_; have HO152 := n1_; have HO155 := n2_; have HO159 := n3_; have HB := n4_; clear n0_ n1_ n2_ n3_ n4_; (try clear hb); (try clear hb2); (try clear hk); (try clear hi); (try clear ho0)))
        (try simp only [Act.put, List.setIfInBounds_toArray, List.set_cons_zero, List.set_cons_succ])
        go_cut [10, 11] (fun v10 v11 wc => ∃ (kq : Nat) (x10_8 : Int) (x11_8 : Int), v10 = .int .i64 x10_8 ∧ v11 = .int .i64 x11_8 ∧ Aside0 (comptoirlaw03_BitmapEach.j1 kq (wrap64 (Int.tmod (IntKind.u64.wrap (a0)) 135)) (wrap64 (Int.tmod (IntKind.u64.wrap (a1)) 135)) t149 t150 t157 x10_8 x11_8 = some r) ∧ Aside0 (kq ≤ kj2) ∧ Aside0 (Kd.R (Kd.int .u8) 5 wc w.heap.size (fun _ => True) v151 t149) ∧ Aside0 (Below w.heap.size w wc))
        case first =>
          have H := HC9.out
          clear HC9
          by_cases c18 : (wrap64 (Int.tmod (IntKind.u64.wrap (a0)) 135)) > 64
          · rw [if_pos c18] at H
            have c18b0 : decide (64 < (wrap64 (Int.tmod (IntKind.u64.wrap (a0)) 135))) = true := decide_eq_true c18
            clear c18
            (first | rw [c18b0] | (simp only [i64_w, i32_w]; rw [c18b0]) | skip)
            have H' := Aside0.mk H
            clear H
            go_wp2
            go_meet
            case rel => exact ⟨_, (16), (2), (by first | rfl | (simp; done) | (simp [*]; done)), (by first | rfl | (simp; done) | (simp [*]; done)), H', ⟨by have := HJ2.out; first | omega | exact Nat.le_refl _⟩, ⟨by (with_reducible repeat (first | apply Kd.R_alloc | apply Kd.R_drewN | apply Kd.R_drew)); exact Kd.R_mono HO152.out (fun _ hk => trivial)⟩, ⟨by repeat (first | (with_reducible first | exact HB.out | apply below_alloc | apply pw_below_drewN | apply below_drew1) | exact HB.out)⟩⟩
          · rw [if_neg c18] at H
            have c18b0 : decide (64 < (wrap64 (Int.tmod (IntKind.u64.wrap (a0)) 135))) = false := decide_eq_false c18
            clear c18
            (first | rw [c18b0] | (simp only [i64_w, i32_w]; rw [c18b0]) | skip)
            have H' := Aside0.mk H
            clear H
            go_wp2
            go_meet
            case rel => exact ⟨_, (8), (1), (by first | rfl | (simp; done) | (simp [*]; done)), (by first | rfl | (simp; done) | (simp [*]; done)), H', ⟨by have := HJ2.out; first | omega | exact Nat.le_refl _⟩, ⟨by (with_reducible repeat (first | apply Kd.R_alloc | apply Kd.R_drewN | apply Kd.R_drew)); exact Kd.R_mono HO152.out (fun _ hk => trivial)⟩, ⟨by repeat (first | (with_reducible first | exact HB.out | apply below_alloc | apply pw_below_drewN | apply below_drew1) | exact HB.out)⟩⟩
        case rest =>
          clear HC9
          try clear c1
          try clear p2
          try clear c3
          try clear c4
          try clear c4b0
          try clear c5
          try clear c5b0
          try clear p6
          try clear c8
          try clear c18
          try clear c18b0
          try clear p2
          obtain ⟨kq, x10_8, x11_8, rfl, rfl, HA, HJ8, HO_6, HB⟩ := hcut
          cases kq with
          | zero => exact absurd HA.out (by simp [comptoirlaw03_BitmapEach.j1])
          | succ kj8 =>
            have H := HA.out
            clear HA
            simp only [comptoirlaw03_BitmapEach.j1] at H
            have H' := Aside0.mk H
            clear H
            go_wp2
            go_loopg [11, 12] kj8 (fun kq v11 v12 w' => ∃ (x11_3 : Int) (x12_3 : Int), v11 = .int .i64 x11_3 ∧ v12 = .int .i64 x12_3 ∧ Aside0 (comptoirlaw03_BitmapEach.l0 kq (wrap64 (Int.tmod (IntKind.u64.wrap (a0)) 135)) (wrap64 (Int.tmod (IntKind.u64.wrap (a1)) 135)) t149 t150 t157 x10_8 x11_3 x12_3 = some r) ∧ Aside0 (kq ≤ kj8) ∧ Aside0 (Kd.R (Kd.int .u8) 5 w' w.heap.size (fun _ => True) v151 t149) ∧ Aside0 (Below w.heap.size w w'))
            case atStart => exact ⟨(x11_8), (0), (by first | rfl | (simp; done) | (simp [*]; done)), (by first | rfl | (simp; done) | (simp [*]; done)), H', ⟨Nat.le_refl _⟩, ⟨by (with_reducible repeat (first | apply Kd.R_alloc | apply Kd.R_drewN | apply Kd.R_drew)); exact HO_6.out⟩, ⟨by repeat (first | (with_reducible first | exact HB.out | apply below_alloc | apply pw_below_drewN | apply below_drew1) | exact HB.out)⟩⟩
            case round =>
              clear H'
              try clear c1
              try clear p2
              try clear c3
              try clear c4
              try clear c4b0
              try clear c5
              try clear c5b0
              try clear p6
              try clear c8
              try clear c18
              try clear c18b0
              try clear p2
              try clear p6
              obtain ⟨x11_3, x12_3, rfl, rfl, HA, HK3, HO_6, HB⟩ := hrel
              cases gk with
              | zero => exact absurd HA.out (by simp [comptoirlaw03_BitmapEach.l0])
              | succ k3 =>
                have H := HA.out
                clear HA
                simp only [comptoirlaw03_BitmapEach.l0] at H
                by_cases c19 : x12_3 < (t149.length : Int)
                · rw [if_pos c19] at H
                  have c19b0 : decide (x12_3 < (t149.length : Int)) = true := decide_eq_true c19
                  clear c19
                  have H' := Aside0.mk H
                  clear H
                  obtain ⟨Ao20, co20, eo20⟩ := Kd.R_slice HO_6.out
                  subst eo20
                  go_wp2
                  go_loopg [11, 13] k3 (fun kq v11 v13 w' => ∃ (x11_4 : Int) (x13_4 : Int), v11 = .int .i64 x11_4 ∧ v13 = .int .i64 x13_4 ∧ Aside0 (comptoirlaw03_BitmapEach.l1 kq (wrap64 (Int.tmod (IntKind.u64.wrap (a0)) 135)) (wrap64 (Int.tmod (IntKind.u64.wrap (a1)) 135)) t149 t150 t157 x10_8 x11_4 x12_3 x13_4 = some r) ∧ Aside0 (kq ≤ k3) ∧ Aside0 (Kd.R (Kd.int .u8) 5 w' w.heap.size (fun _ => True) (.slice Ao20 t149.length co20) t149) ∧ Aside0 (Below w.heap.size w w'))
                  case atStart => exact ⟨(x11_3), (0), (by first | rfl | (simp; done) | (simp [*]; done)), (by first | rfl | (simp; done) | (simp [*]; done)), H', ⟨Nat.le_refl _⟩, ⟨by (with_reducible repeat (first | apply Kd.R_alloc | apply Kd.R_drewN | apply Kd.R_drew)); exact HO_6.out⟩, ⟨by repeat (first | (with_reducible first | exact HB.out | apply below_alloc | apply pw_below_drewN | apply below_drew1) | exact HB.out)⟩⟩
                  case round =>
                    clear H'
                    try clear c1
                    try clear p2
                    try clear c3
                    try clear c4
                    try clear c4b0
                    try clear c5
                    try clear c5b0
                    try clear p6
                    try clear c8
                    try clear c18
                    try clear c18b0
                    try clear c19
                    try clear c19b0
                    try clear p2
                    try clear p6
                    obtain ⟨x11_4, x13_4, rfl, rfl, HA, HK4, HO_6, HB⟩ := hrel
                    cases gk with
                    | zero => exact absurd HA.out (by simp [comptoirlaw03_BitmapEach.l1])
                    | succ k4 =>
                      have H := HA.out
                      clear HA
                      simp only [comptoirlaw03_BitmapEach.l1] at H
                      by_cases c21 : x13_4 < 8
                      · rw [if_pos c21] at H
                        have c21b0 : decide (x13_4 < 8) = true := decide_eq_true c21
                        clear c21
                        by_cases c22 : 0 ≤ x12_3
                        · rw [if_pos c22] at H
                          have c22b0 : decide (0 ≤ x12_3) = true := decide_eq_true c22
                          clear c22
                          by_cases c23 : x12_3 < (t149.length : Int)
                          · rw [if_pos c23] at H
                            have c23b0 : decide (x12_3 < (t149.length : Int)) = true := decide_eq_true c23
                            clear c23
                            obtain ⟨ji24, hji24⟩ : ∃ j_ : Int, (IntKind.u64.wrap (x13_4)) = j_ := ⟨_, rfl⟩
                            replace H : (if 0 ≤ (ji24) then (if (Go.bits .and .u8 (shr .u8 (rd t149 x12_3) (ji24)) 1) = 1 then (comptoirlaw03_BitmapEach.l1 k4 (wrap64 (Int.tmod (IntKind.u64.wrap (a0)) 135)) (wrap64 (Int.tmod (IntKind.u64.wrap (a1)) 135)) t149 t150 t157 x10_8 (wrap64 (x11_4 - 1)) x12_3 (wrap64 (x13_4 + 1))) else (comptoirlaw03_BitmapEach.l1 k4 (wrap64 (Int.tmod (IntKind.u64.wrap (a0)) 135)) (wrap64 (Int.tmod (IntKind.u64.wrap (a1)) 135)) t149 t150 t157 x10_8 x11_4 x12_3 (wrap64 (x13_4 + 1)))) else (none)) = some r := by first | (rw [hji24] at H; exact H) | (simp only [hji24] at H ⊢; exact H)
                            by_cases c25 : 0 ≤ (ji24)
                            · rw [if_pos c25] at H
                              have c25b0 := eq_true c25
                              have c25b1 : decide (0 ≤ (ji24)) = true := decide_eq_true c25
                              clear c25
                              obtain ⟨ji26, hji26⟩ : ∃ j_ : Int, (shr .u8 (rd t149 x12_3) (ji24)) = j_ := ⟨_, rfl⟩
                              replace H : (if (Go.bits .and .u8 (ji26) 1) = 1 then (comptoirlaw03_BitmapEach.l1 k4 (wrap64 (Int.tmod (IntKind.u64.wrap (a0)) 135)) (wrap64 (Int.tmod (IntKind.u64.wrap (a1)) 135)) t149 t150 t157 x10_8 (wrap64 (x11_4 - 1)) x12_3 (wrap64 (x13_4 + 1))) else (comptoirlaw03_BitmapEach.l1 k4 (wrap64 (Int.tmod (IntKind.u64.wrap (a0)) 135)) (wrap64 (Int.tmod (IntKind.u64.wrap (a1)) 135)) t149 t150 t157 x10_8 x11_4 x12_3 (wrap64 (x13_4 + 1)))) = some r := by first | (rw [hji26] at H; exact H) | (simp only [hji26] at H ⊢; exact H)
                              have hji26_ : ((rd t149 x12_3) / 2 ^ min (ji24).toNat 8) = ji26 := hji26
                              have hji26z : (ji24) ≤ 8 → ((rd t149 x12_3) / 2 ^ (ji24).toNat) = ji26 := shr_small hji26
                              by_cases c27 : (Go.bits .and .u8 (ji26) 1) = 1
                              · rw [if_pos c27] at H
                                have c27b0 : ((Go.bits .and .u8 (ji26) 1) == 1) = true := beq_iff_eq.mpr c27
                                have c27b1 : ((Go.bits .and .u8 (ji26) 1) != 1) = false := bne_eq_false_iff_eq.mpr c27
                                clear c27
                                have H' := Aside0.mk H
                                clear H
                                have p163 : 0 ≤ (x12_3 : Int) := of_decide_eq_true (by first | (with_reducible assumption) | assumption)
                                have q163 : x12_3 < (t149.length : Int) := of_decide_eq_true (by first | (with_reducible assumption) | assumption)
                                obtain ⟨ad163, e163, hx163_0⟩ := Kd.at_int (Kd.R_reads' HO_6.out).2.2 x12_3 p163 q163
                                cases e163
                                replace p163 := eq_true p163
                                replace q163 := eq_true q163
                                go_wp2
                                go_roundg k4
                                case measure => have := HJ2.out; have := HJ8.out; have := HK3.out; have := HK4.out; omega
                                case rel => exact ⟨(wrap64 (x11_4 - 1)), (wrap64 (x13_4 + 1)), (by first | rfl | (simp; done) | (simp [*]; done)), (by first | rfl | (simp; done) | (simp [*]; done)), H', ⟨by have := HJ2.out; have := HJ8.out; have := HK3.out; have := HK4.out; omega⟩, ⟨by (with_reducible repeat (first | apply Kd.R_alloc | apply Kd.R_drewN | apply Kd.R_drew)); exact HO_6.out⟩, ⟨by repeat (first | (with_reducible first | exact HB.out | apply below_alloc | apply pw_below_drewN | apply below_drew1) | exact HB.out)⟩⟩
                              · rw [if_neg c27] at H
                                have c27b0 : ((Go.bits .and .u8 (ji26) 1) == 1) = false := beq_eq_false_iff_ne.mpr c27
                                have c27b1 : ((Go.bits .and .u8 (ji26) 1) != 1) = true := bne_iff_ne.mpr c27
                                have H' := Aside0.mk H
                                clear H
                                have p163 : 0 ≤ (x12_3 : Int) := of_decide_eq_true (by first | (with_reducible assumption) | assumption)
                                have q163 : x12_3 < (t149.length : Int) := of_decide_eq_true (by first | (with_reducible assumption) | assumption)
                                obtain ⟨ad163, e163, hx163_0⟩ := Kd.at_int (Kd.R_reads' HO_6.out).2.2 x12_3 p163 q163
                                cases e163
                                replace p163 := eq_true p163
                                replace q163 := eq_true q163
                                go_wp2
                                go_roundg k4
                                case measure => have := HJ2.out; have := HJ8.out; have := HK3.out; have := HK4.out; omega
                                case rel => exact ⟨(x11_4), (wrap64 (x13_4 + 1)), (by first | rfl | (simp; done) | (simp [*]; done)), (by first | rfl | (simp; done) | (simp [*]; done)), H', ⟨by have := HJ2.out; have := HJ8.out; have := HK3.out; have := HK4.out; omega⟩, ⟨by (with_reducible repeat (first | apply Kd.R_alloc | apply Kd.R_drewN | apply Kd.R_drew)); exact HO_6.out⟩, ⟨by repeat (first | (with_reducible first | exact HB.out | apply below_alloc | apply pw_below_drewN | apply below_drew1) | exact HB.out)⟩⟩
                            · rw [if_neg c25] at H
                              exact absurd H (by simp)
                          · rw [if_neg c23] at H
                            exact absurd H (by simp)
                        · rw [if_neg c22] at H
                          exact absurd H (by simp)
                      · rw [if_neg c21] at H
                        have c21b0 : decide (x13_4 < 8) = false := decide_eq_false c21
                        clear c21
                        have H' := Aside0.mk H
                        clear H
                        go_wp2
                        go_roundg k4
                        case measure => have := HJ2.out; have := HJ8.out; have := HK3.out; have := HK4.out; omega
                        case rel => exact ⟨(x11_4), (wrap64 (x12_3 + 1)), (by first | rfl | (simp; done) | (simp [*]; done)), (by first | rfl | (simp; done) | (simp [*]; done)), H', ⟨by have := HJ2.out; have := HJ8.out; have := HK3.out; have := HK4.out; omega⟩, ⟨by (with_reducible repeat (first | apply Kd.R_alloc | apply Kd.R_drewN | apply Kd.R_drew)); exact HO_6.out⟩, ⟨by repeat (first | (with_reducible first | exact HB.out | apply below_alloc | apply pw_below_drewN | apply below_drew1) | exact HB.out)⟩⟩
                · rw [if_neg c19] at H
                  have c19b0 : decide (x12_3 < (t149.length : Int)) = false := decide_eq_false c19
                  clear c19
                  replace H := Option.bind_eq_some_iff.mp H
                  obtain ⟨t161, A280, H⟩ := H
                  replace H : (if t161 = true then (if t150 = 0 then (if (t149.length : Int) = x10_8 then (if x11_3 = 0 then (if 0 ≤ (wrap64 (Int.tdiv (wrap64 ((wrap64 (Int.tmod (IntKind.u64.wrap (a0)) 135)) - 1)) 8)) then (if (wrap64 (Int.tdiv (wrap64 ((wrap64 (Int.tmod (IntKind.u64.wrap (a0)) 135)) - 1)) 8)) < (t149.length : Int) then (if 0 ≤ (IntKind.u64.wrap (wrap64 (7 - (Int.tmod (wrap64 ((wrap64 (Int.tmod (IntKind.u64.wrap (a0)) 135)) - 1)) 8)))) then (if (Go.bits .and .u8 (shr .u8 (rd t149 (wrap64 (Int.tdiv (wrap64 ((wrap64 (Int.tmod (IntKind.u64.wrap (a0)) 135)) - 1)) 8))) (IntKind.u64.wrap (wrap64 (7 - (Int.tmod (wrap64 ((wrap64 (Int.tmod (IntKind.u64.wrap (a0)) 135)) - 1)) 8))))) 1) = 1 then (if (wrap64 (Int.tmod (IntKind.u64.wrap (a1)) 135)) > (wrap64 (Int.tmod (IntKind.u64.wrap (a0)) 135)) then (if (wrap64 (Int.tmod (IntKind.u64.wrap (a1)) 135)) ≤ 128 then (some ((t157 == 0) == ((wrap64 (Int.tmod (IntKind.u64.wrap (a1)) 135)) != 65))) else (some ((t157 == 0) == false))) else (some ((t157 == 0) == false))) else (some false)) else (none)) else (none)) else (none)) else (some false)) else (some false)) else (some false)) else (some false)) = some r := H
                  have A28 := Aside0.mk A280
                  clear A280
                  by_cases c29 : t161 = true
                  · subst c29
                    have H1 : (if t150 = 0 then (if (t149.length : Int) = x10_8 then (if x11_3 = 0 then (if 0 ≤ (wrap64 (Int.tdiv (wrap64 ((wrap64 (Int.tmod (IntKind.u64.wrap (a0)) 135)) - 1)) 8)) then (if (wrap64 (Int.tdiv (wrap64 ((wrap64 (Int.tmod (IntKind.u64.wrap (a0)) 135)) - 1)) 8)) < (t149.length : Int) then (if 0 ≤ (IntKind.u64.wrap (wrap64 (7 - (Int.tmod (wrap64 ((wrap64 (Int.tmod (IntKind.u64.wrap (a0)) 135)) - 1)) 8)))) then (if (Go.bits .and .u8 (shr .u8 (rd t149 (wrap64 (Int.tdiv (wrap64 ((wrap64 (Int.tmod (IntKind.u64.wrap (a0)) 135)) - 1)) 8))) (IntKind.u64.wrap (wrap64 (7 - (Int.tmod (wrap64 ((wrap64 (Int.tmod (IntKind.u64.wrap (a0)) 135)) - 1)) 8))))) 1) = 1 then (if (wrap64 (Int.tmod (IntKind.u64.wrap (a1)) 135)) > (wrap64 (Int.tmod (IntKind.u64.wrap (a0)) 135)) then (if (wrap64 (Int.tmod (IntKind.u64.wrap (a1)) 135)) ≤ 128 then (some ((t157 == 0) == ((wrap64 (Int.tmod (IntKind.u64.wrap (a1)) 135)) != 65))) else (some ((t157 == 0) == false))) else (some ((t157 == 0) == false))) else (some false)) else (none)) else (none)) else (none)) else (some false)) else (some false)) else (some false)) = some r := by rw [if_pos rfl] at H; exact H
                    clear H
                    have H := H1
                    clear H1
                    by_cases c30 : t150 = 0
                    · rw [if_pos c30] at H
                      have c30b0 : (t150 == 0) = true := beq_iff_eq.mpr c30
                      have c30b1 : (t150 != 0) = false := bne_eq_false_iff_eq.mpr c30
                      clear c30
                      by_cases c31 : (t149.length : Int) = x10_8
                      · rw [if_pos c31] at H
                        have c31b0 : ((t149.length : Int) == x10_8) = true := beq_iff_eq.mpr c31
                        have c31b1 : ((t149.length : Int) != x10_8) = false := bne_eq_false_iff_eq.mpr c31
                        clear c31
                        by_cases c32 : x11_3 = 0
                        · rw [if_pos c32] at H
                          have c32b0 : (x11_3 == 0) = true := beq_iff_eq.mpr c32
                          have c32b1 : (x11_3 != 0) = false := bne_eq_false_iff_eq.mpr c32
                          clear c32
                          obtain ⟨ji33, hji33⟩ : ∃ j_ : Int, (wrap64 (Int.tdiv (wrap64 ((wrap64 (Int.tmod (IntKind.u64.wrap (a0)) 135)) - 1)) 8)) = j_ := ⟨_, rfl⟩
                          replace H : (if 0 ≤ (ji33) then (if (ji33) < (t149.length : Int) then (if 0 ≤ (IntKind.u64.wrap (wrap64 (7 - (Int.tmod (wrap64 ((wrap64 (Int.tmod (IntKind.u64.wrap (a0)) 135)) - 1)) 8)))) then (if (Go.bits .and .u8 (shr .u8 (rd t149 (ji33)) (IntKind.u64.wrap (wrap64 (7 - (Int.tmod (wrap64 ((wrap64 (Int.tmod (IntKind.u64.wrap (a0)) 135)) - 1)) 8))))) 1) = 1 then (if (wrap64 (Int.tmod (IntKind.u64.wrap (a1)) 135)) > (wrap64 (Int.tmod (IntKind.u64.wrap (a0)) 135)) then (if (wrap64 (Int.tmod (IntKind.u64.wrap (a1)) 135)) ≤ 128 then (some ((t157 == 0) == ((wrap64 (Int.tmod (IntKind.u64.wrap (a1)) 135)) != 65))) else (some ((t157 == 0) == false))) else (some ((t157 == 0) == false))) else (some false)) else (none)) else (none)) else (none)) = some r := by first | (rw [hji33] at H; exact H) | (simp only [hji33] at H ⊢; exact H)
                          (try rw [hji33] at A28)
                          have hji33w : (IntKind.i64.wrap (Int.tdiv (wrap64 ((wrap64 (Int.tmod (IntKind.u64.wrap (a0)) 135)) - 1)) 8)) = ji33 := (i64_w _).trans hji33
                          by_cases c34 : 0 ≤ (ji33)
                          · rw [if_pos c34] at H
                            have c34b0 : decide (0 ≤ (ji33)) = true := decide_eq_true c34
                            clear c34
                            by_cases c35 : (ji33) < (t149.length : Int)
                            · rw [if_pos c35] at H
                              have c35b0 : decide ((ji33) < (t149.length : Int)) = true := decide_eq_true c35
                              clear c35
                              obtain ⟨ji36, hji36⟩ : ∃ j_ : Int, (IntKind.u64.wrap (wrap64 (7 - (Int.tmod (wrap64 ((wrap64 (Int.tmod (IntKind.u64.wrap (a0)) 135)) - 1)) 8)))) = j_ := ⟨_, rfl⟩
                              replace H : (if 0 ≤ (ji36) then (if (Go.bits .and .u8 (shr .u8 (rd t149 (ji33)) (ji36)) 1) = 1 then (if (wrap64 (Int.tmod (IntKind.u64.wrap (a1)) 135)) > (wrap64 (Int.tmod (IntKind.u64.wrap (a0)) 135)) then (if (wrap64 (Int.tmod (IntKind.u64.wrap (a1)) 135)) ≤ 128 then (some ((t157 == 0) == ((wrap64 (Int.tmod (IntKind.u64.wrap (a1)) 135)) != 65))) else (some ((t157 == 0) == false))) else (some ((t157 == 0) == false))) else (some false)) else (none)) = some r := by first | (rw [hji36] at H; exact H) | (simp only [hji36] at H ⊢; exact H)
                              (try rw [hji36] at A28)
                              by_cases c37 : 0 ≤ (ji36)
                              · rw [if_pos c37] at H
                                have c37b0 := eq_true c37
                                have c37b1 : decide (0 ≤ (ji36)) = true := decide_eq_true c37
                                clear c37
                                obtain ⟨ji38, hji38⟩ : ∃ j_ : Int, (shr .u8 (rd t149 (ji33)) (ji36)) = j_ := ⟨_, rfl⟩
                                replace H : (if (Go.bits .and .u8 (ji38) 1) = 1 then (if (wrap64 (Int.tmod (IntKind.u64.wrap (a1)) 135)) > (wrap64 (Int.tmod (IntKind.u64.wrap (a0)) 135)) then (if (wrap64 (Int.tmod (IntKind.u64.wrap (a1)) 135)) ≤ 128 then (some ((t157 == 0) == ((wrap64 (Int.tmod (IntKind.u64.wrap (a1)) 135)) != 65))) else (some ((t157 == 0) == false))) else (some ((t157 == 0) == false))) else (some false)) = some r := by first | (rw [hji38] at H; exact H) | (simp only [hji38] at H ⊢; exact H)
                                (try rw [hji38] at A28)
                                have hji38_ : ((rd t149 (ji33)) / 2 ^ min (ji36).toNat 8) = ji38 := hji38
                                have hji38z : (ji36) ≤ 8 → ((rd t149 (ji33)) / 2 ^ (ji36).toNat) = ji38 := shr_small hji38
                                by_cases c39 : (Go.bits .and .u8 (ji38) 1) = 1
                                · rw [if_pos c39] at H
                                  have c39b0 : ((Go.bits .and .u8 (ji38) 1) == 1) = true := beq_iff_eq.mpr c39
                                  have c39b1 : ((Go.bits .and .u8 (ji38) 1) != 1) = false := bne_eq_false_iff_eq.mpr c39
                                  clear c39
                                  by_cases c40 : (wrap64 (Int.tmod (IntKind.u64.wrap (a1)) 135)) > (wrap64 (Int.tmod (IntKind.u64.wrap (a0)) 135))
                                  · rw [if_pos c40] at H
                                    have c40b0 : decide ((wrap64 (Int.tmod (IntKind.u64.wrap (a0)) 135)) < (wrap64 (Int.tmod (IntKind.u64.wrap (a1)) 135))) = true := decide_eq_true c40
                                    clear c40
                                    by_cases c41 : (wrap64 (Int.tmod (IntKind.u64.wrap (a1)) 135)) ≤ 128
                                    · rw [if_pos c41] at H
                                      have c41b0 : decide ((wrap64 (Int.tmod (IntKind.u64.wrap (a1)) 135)) ≤ 128) = true := decide_eq_true c41
                                      clear c41
                                      obtain rfl := Option.some.inj H
                                      simp only [Option.some.injEq, Prod.mk.injEq] at H
                                      obtain ⟨rfl⟩ := H
                                      obtain ⟨Ao42, co42, eo42⟩ := Kd.R_slice HO_6.out
                                      subst eo42
                                      go_wp2_with (first | ((with_reducible refine gate_callee (f := 9) rfl ?_); refine goesL_ (some 84) rfl rfl Try.func9 (by kernel_rfl) rfl #[] rfl (by (try simp only [List.map_toArray, List.map_cons, List.map_nil]); first | done | rfl | (simp only [List.length_drop, List.length_take]; rfl)) ?_; (with_reducible refine (comptoirlaw03_awake.calls  true _ A28.out).mono ?_); rintro e w43 ⟨rfl, hb⟩; refine ⟨_, rfl, ?_⟩; have n0_ := Aside0.mk (Kd.R_below (by (with_reducible repeat (first | apply Kd.R_alloc | apply Kd.R_drewN | apply Kd.R_drew)); exact HO_6.out) hb); have n1_ := Aside0.mk (below_step (by repeat (first | (with_reducible first | exact HB.out | apply below_alloc | apply pw_below_drewN | apply below_drew1) | exact HB.out)) hb); clear HO_6; clear HB; have HO_6 := n0_; have HB := n1_; clear n0_ n1_; (try clear hb); (try clear hb2); (try clear hk); (try clear hi); have p162 : 0 ≤ ((ji33) : Int) := of_decide_eq_true (by first | (with_reducible assumption) | assumption); have q162 : (ji33) < (t149.length : Int) := of_decide_eq_true (by first | (with_reducible assumption) | assumption); obtain ⟨ad162, e162, hx162_0⟩ := Kd.at_int (Kd.R_reads' HO_6.out).2.2 (ji33) p162 q162; cases e162; replace p162 := eq_true p162; replace q162 := eq_true q162))
                                      go_ret
                                      exact ⟨by first | rfl | (simp [errW_none, errW_some] <;> rfl) | (simp only [← hji33, ← hji36, ← hji38]; first | rfl | (simp [errW_none, errW_some] <;> rfl)) | (simp [*, errW_none, errW_some] <;> rfl), by repeat (first | (with_reducible first | exact HB.out | apply below_alloc | apply pw_below_drewN | apply below_drew1) | exact HB.out)⟩
                                    · rw [if_neg c41] at H
                                      have c41b0 : decide ((wrap64 (Int.tmod (IntKind.u64.wrap (a1)) 135)) ≤ 128) = false := decide_eq_false c41
                                      clear c41
                                      obtain rfl := Option.some.inj H
                                      simp only [Option.some.injEq, Prod.mk.injEq] at H
                                      obtain ⟨rfl⟩ := H
                                      obtain ⟨Ao44, co44, eo44⟩ := Kd.R_slice HO_6.out
                                      subst eo44
                                      go_wp2_with (first | ((with_reducible refine gate_callee (f := 9) rfl ?_); refine goesL_ (some 84) rfl rfl Try.func9 (by kernel_rfl) rfl #[] rfl (by (try simp only [List.map_toArray, List.map_cons, List.map_nil]); first | done | rfl | (simp only [List.length_drop, List.length_take]; rfl)) ?_; (with_reducible refine (comptoirlaw03_awake.calls  true _ A28.out).mono ?_); rintro e w45 ⟨rfl, hb⟩; refine ⟨_, rfl, ?_⟩; have n0_ := Aside0.mk (Kd.R_below (by (with_reducible repeat (first | apply Kd.R_alloc | apply Kd.R_drewN | apply Kd.R_drew)); exact HO_6.out) hb); have n1_ := Aside0.mk (below_step (by repeat (first | (with_reducible first | exact HB.out | apply below_alloc | apply pw_below_drewN | apply below_drew1) | exact HB.out)) hb); clear HO_6; clear HB; have HO_6 := n0_; have HB := n1_; clear n0_ n1_; (try clear hb); (try clear hb2); (try clear hk); (try clear hi); have p162 : 0 ≤ ((ji33) : Int) := of_decide_eq_true (by first | (with_reducible assumption) | assumption); have q162 : (ji33) < (t149.length : Int) := of_decide_eq_true (by first | (with_reducible assumption) | assumption); obtain ⟨ad162, e162, hx162_0⟩ := Kd.at_int (Kd.R_reads' HO_6.out).2.2 (ji33) p162 q162; cases e162; replace p162 := eq_true p162; replace q162 := eq_true q162))
                                      go_ret
                                      exact ⟨by first | rfl | (simp [errW_none, errW_some] <;> rfl) | (simp only [← hji33, ← hji36, ← hji38]; first | rfl | (simp [errW_none, errW_some] <;> rfl)) | (simp [*, errW_none, errW_some] <;> rfl), by repeat (first | (with_reducible first | exact HB.out | apply below_alloc | apply pw_below_drewN | apply below_drew1) | exact HB.out)⟩
                                  · rw [if_neg c40] at H
                                    have c40b0 : decide ((wrap64 (Int.tmod (IntKind.u64.wrap (a0)) 135)) < (wrap64 (Int.tmod (IntKind.u64.wrap (a1)) 135))) = false := decide_eq_false c40
                                    clear c40
                                    obtain rfl := Option.some.inj H
                                    simp only [Option.some.injEq, Prod.mk.injEq] at H
                                    obtain ⟨rfl⟩ := H
                                    obtain ⟨Ao46, co46, eo46⟩ := Kd.R_slice HO_6.out
                                    subst eo46
                                    go_wp2_with (first | ((with_reducible refine gate_callee (f := 9) rfl ?_); refine goesL_ (some 84) rfl rfl Try.func9 (by kernel_rfl) rfl #[] rfl (by (try simp only [List.map_toArray, List.map_cons, List.map_nil]); first | done | rfl | (simp only [List.length_drop, List.length_take]; rfl)) ?_; (with_reducible refine (comptoirlaw03_awake.calls  true _ A28.out).mono ?_); rintro e w47 ⟨rfl, hb⟩; refine ⟨_, rfl, ?_⟩; have n0_ := Aside0.mk (Kd.R_below (by (with_reducible repeat (first | apply Kd.R_alloc | apply Kd.R_drewN | apply Kd.R_drew)); exact HO_6.out) hb); have n1_ := Aside0.mk (below_step (by repeat (first | (with_reducible first | exact HB.out | apply below_alloc | apply pw_below_drewN | apply below_drew1) | exact HB.out)) hb); clear HO_6; clear HB; have HO_6 := n0_; have HB := n1_; clear n0_ n1_; (try clear hb); (try clear hb2); (try clear hk); (try clear hi); have p162 : 0 ≤ ((ji33) : Int) := of_decide_eq_true (by first | (with_reducible assumption) | assumption); have q162 : (ji33) < (t149.length : Int) := of_decide_eq_true (by first | (with_reducible assumption) | assumption); obtain ⟨ad162, e162, hx162_0⟩ := Kd.at_int (Kd.R_reads' HO_6.out).2.2 (ji33) p162 q162; cases e162; replace p162 := eq_true p162; replace q162 := eq_true q162))
                                    go_ret
                                    exact ⟨by first | rfl | (simp [errW_none, errW_some] <;> rfl) | (simp only [← hji33, ← hji36, ← hji38]; first | rfl | (simp [errW_none, errW_some] <;> rfl)) | (simp [*, errW_none, errW_some] <;> rfl), by repeat (first | (with_reducible first | exact HB.out | apply below_alloc | apply pw_below_drewN | apply below_drew1) | exact HB.out)⟩
                                · rw [if_neg c39] at H
                                  have c39b0 : ((Go.bits .and .u8 (ji38) 1) == 1) = false := beq_eq_false_iff_ne.mpr c39
                                  have c39b1 : ((Go.bits .and .u8 (ji38) 1) != 1) = true := bne_iff_ne.mpr c39
                                  obtain rfl := Option.some.inj H
                                  exact absurd HT_.out (by decide)
                              · rw [if_neg c37] at H
                                exact absurd H (by simp)
                            · rw [if_neg c35] at H
                              exact absurd H (by simp)
                          · rw [if_neg c34] at H
                            exact absurd H (by simp)
                        · rw [if_neg c32] at H
                          have c32b0 : (x11_3 == 0) = false := beq_eq_false_iff_ne.mpr c32
                          have c32b1 : (x11_3 != 0) = true := bne_iff_ne.mpr c32
                          obtain rfl := Option.some.inj H
                          exact absurd HT_.out (by decide)
                      · rw [if_neg c31] at H
                        have c31b0 : ((t149.length : Int) == x10_8) = false := beq_eq_false_iff_ne.mpr c31
                        have c31b1 : ((t149.length : Int) != x10_8) = true := bne_iff_ne.mpr c31
                        obtain rfl := Option.some.inj H
                        exact absurd HT_.out (by decide)
                    · rw [if_neg c30] at H
                      have c30b0 : (t150 == 0) = false := beq_eq_false_iff_ne.mpr c30
                      have c30b1 : (t150 != 0) = true := bne_iff_ne.mpr c30
                      obtain rfl := Option.some.inj H
                      exact absurd HT_.out (by decide)
                  · replace c29 := Bool.eq_false_iff.mpr c29
                    subst c29
                    have H1 : (some false) = some r := by rw [if_neg (show ¬ (false = true) by decide)] at H; exact H
                    clear H
                    have H := H1
                    clear H1
                    obtain rfl := Option.some.inj H
                    exact absurd HT_.out (by decide)
      · replace c8 := Bool.eq_false_iff.mpr c8
        subst c8
        have H1 : ((comptoirlaw03_awake.f).bind fun t160 => (if t160 = true then (if t150 = 1 then (if (t149.length : Int) = 0 then (some (t157 == 1)) else (some false)) else (some false)) else (some false))) = some r := by rw [if_neg (show ¬ (false = true) by decide)] at H; exact H
        clear H
        have H := H1
        clear H1
        replace H := Option.bind_eq_some_iff.mp H
        obtain ⟨t160, A480, H⟩ := H
        replace H : (if t160 = true then (if t150 = 1 then (if (t149.length : Int) = 0 then (some (t157 == 1)) else (some false)) else (some false)) else (some false)) = some r := H
        have A48 := Aside0.mk A480
        clear A480
        by_cases c49 : t160 = true
        · subst c49
          have H1 : (if t150 = 1 then (if (t149.length : Int) = 0 then (some (t157 == 1)) else (some false)) else (some false)) = some r := by rw [if_pos rfl] at H; exact H
          clear H
          have H := H1
          clear H1
          by_cases c50 : t150 = 1
          · rw [if_pos c50] at H
            have c50b0 : (t150 == 1) = true := beq_iff_eq.mpr c50
            have c50b1 : (t150 != 1) = false := bne_eq_false_iff_eq.mpr c50
            clear c50
            by_cases c51 : (t149.length : Int) = 0
            · rw [if_pos c51] at H
              have c51b0 : ((t149.length : Int) == 0) = true := beq_iff_eq.mpr c51
              have c51b1 : ((t149.length : Int) != 0) = false := bne_eq_false_iff_eq.mpr c51
              clear c51
              obtain rfl := Option.some.inj H
              simp only [Option.some.injEq, Prod.mk.injEq] at H
              obtain ⟨rfl⟩ := H
              go_wp2_with (first | ((with_reducible refine gate_dst (N := 34) rfl ?_); (try (refine gate_guard (by rfl) ?_; dsimp only)); refine Kd.R_lit (Kd.int .i64) _ 3 ?hg (N := 34) ?hd (xs := ([(wrap64 (Int.tmod (IntKind.u64.wrap (a0)) 135))] : List Int)) (inner := [.int .i64 (wrap64 (Int.tmod (IntKind.u64.wrap (a0)) 135))]) (ok := fun _ => True) (okp := fun _ => True) ?hr ?hp (fun _ hk => hk) trivial (Below.refl _ _) (Nat.le_refl _) (by simp) ?_; (case hd => rfl); (case hg => rfl); (case hr => first | (go_simp; done) | (go_simp; rfl) | (go_simp; simp only [show ∀ l_ : List UInt8, (l_ != []) = !l_.isEmpty from fun l_ => by cases l_ <;> rfl]; done)); (case hp => exact (Reps.one (show Kd.M (Kd.int .i64) _ _ _ (wrap64 (Int.tmod (IntKind.u64.wrap (a0)) 135)) [.int .i64 (wrap64 (Int.tmod (IntKind.u64.wrap (a0)) 135))] from rfl) (Reps.none _ _))); intro v147 w52 ho53 hb hg_ hnew_; clear hg_ hnew_; (first | rw [← Ny146.out] at ho53 | (simp only [Int.reduceToNat] at ho53; rw [← Ny146.out] at ho53)); have n0_ := Aside0.mk (Kd.R_lower ho53 (below_size (by repeat (first | (with_reducible first | exact HB.out | apply below_alloc | apply pw_below_drewN | apply below_drew1) | exact HB.out)))); have n1_ := Aside0.mk (below_step (by repeat (first | (with_reducible first | exact HB.out | apply below_alloc | apply pw_below_drewN | apply below_drew1) | exact HB.out)) hb); clear HB; have HO148 := n0_; have HB := n1_; clear n0_ n1_; clear hb ho53; obtain ⟨Ao54, co54, eo54⟩ := Kd.R_slice HO148.out; subst eo54) | ((with_reducible refine gate_callee (f := 8) rfl ?_); refine goesL_ (some 35) rfl rfl Try.func8 (by kernel_rfl) rfl #[.slice Ao54 y146.length co54] rfl (by (try simp only [List.map_toArray, List.map_cons, List.map_nil]); first | done | rfl | (simp only [List.length_drop, List.length_take]; rfl)) ?_; (with_reducible refine (bitmap_Write.calls _ _ y146 t149 t150 _ ?side1 ?side2 A6.out).mono ?_); (case side1 => repeat (first | exact (Kd.R_reads' HO148.out).2.2 | (with_reducible refine Kd.C_alloc ?_ _) | (with_reducible refine Kd.C_drewN ?_ _) | (with_reducible refine Kd.C_drew ?_))); (case side2 => exact (Kd.R_reads' HO148.out).2.1); rintro e w55 ⟨v151, rfl, ho0, hb⟩; refine ⟨_, rfl, ?_⟩; have n0_ := Aside0.mk (Kd.R_below (by (with_reducible repeat (first | apply Kd.R_alloc | apply Kd.R_drewN | apply Kd.R_drew)); exact HO148.out) hb); have n1_ := Aside0.mk (Kd.R_lower ho0 (below_size (by repeat (first | (with_reducible first | exact HB.out | apply below_alloc | apply pw_below_drewN | apply below_drew1) | exact HB.out)))); have n2_ := Aside0.mk (below_step (by repeat (first | (with_reducible first | exact HB.out | apply below_alloc | apply pw_below_drewN | apply below_drew1) | exact HB.out)) hb); clear HO148; clear HB; have HO148 := n0_; have HO152 := n1_; have HB := n2_; clear n0_ n1_ n2_; (try clear hb); (try clear hb2); (try clear hk); (try clear hi); (try clear ho0)) | ((with_reducible refine gate_dst (N := 41) rfl ?_); (try (refine gate_guard (by rfl) ?_; dsimp only)); refine Kd.R_lit (Kd.int .i64) _ 3 ?hg (N := 41) ?hd (xs := ([(wrap64 (Int.tmod (IntKind.u64.wrap (a0)) 135)), (wrap64 (Int.tmod (IntKind.u64.wrap (a1)) 135))] : List Int)) (inner := [.int .i64 (wrap64 (Int.tmod (IntKind.u64.wrap (a0)) 135)), .int .i64 (wrap64 (Int.tmod (IntKind.u64.wrap (a1)) 135))]) (ok := fun _ => True) (okp := fun _ => True) ?hr ?hp (fun _ hk => hk) trivial (Below.refl _ _) (Nat.le_refl _) (by simp) ?_; (case hd => rfl); (case hg => rfl); (case hr => first | (go_simp; done) | (go_simp; rfl) | (go_simp; simp only [show ∀ l_ : List UInt8, (l_ != []) = !l_.isEmpty from fun l_ => by cases l_ <;> rfl]; done)); (case hp => exact (Reps.one (show Kd.M (Kd.int .i64) _ _ _ (wrap64 (Int.tmod (IntKind.u64.wrap (a0)) 135)) [.int .i64 (wrap64 (Int.tmod (IntKind.u64.wrap (a0)) 135))] from rfl) (Reps.one (show Kd.M (Kd.int .i64) _ _ _ (wrap64 (Int.tmod (IntKind.u64.wrap (a1)) 135)) [.int .i64 (wrap64 (Int.tmod (IntKind.u64.wrap (a1)) 135))] from rfl) (Reps.none _ _)))); intro v154 w56 ho57 hb hg_ hnew_; clear hg_ hnew_; (first | rw [← Ny153.out] at ho57 | (simp only [Int.reduceToNat] at ho57; rw [← Ny153.out] at ho57)); have n0_ := Aside0.mk (Kd.R_elder' (by (with_reducible repeat (first | apply Kd.R_alloc | apply Kd.R_drewN | apply Kd.R_drew)); exact HO148.out) (Kd.R_base ho57) hb); have n1_ := Aside0.mk (Kd.R_below (by (with_reducible repeat (first | apply Kd.R_alloc | apply Kd.R_drewN | apply Kd.R_drew)); exact HO152.out) hb); have n2_ := Aside0.mk (Kd.R_lower (Kd.R_new' ho57 (Kd.R_lt (by (with_reducible repeat (first | apply Kd.R_alloc | apply Kd.R_drewN | apply Kd.R_drew)); exact HO148.out))) (below_size (by repeat (first | (with_reducible first | exact HB.out | apply below_alloc | apply pw_below_drewN | apply below_drew1) | exact HB.out)))); have n3_ := Aside0.mk (below_step (by repeat (first | (with_reducible first | exact HB.out | apply below_alloc | apply pw_below_drewN | apply below_drew1) | exact HB.out)) hb); clear HO148; clear HO152; clear HB; have HO148 := n0_; have HO152 := n1_; have HO155 := n2_; have HB := n3_; clear n0_ n1_ n2_ n3_; clear hb ho57; obtain ⟨Ao58, co58, eo58⟩ := Kd.R_slice HO155.out; subst eo58) | ((with_reducible refine gate_callee (f := 8) rfl ?_); refine goesL_ (some 42) rfl rfl Try.func8 (by kernel_rfl) rfl #[.slice Ao58 y153.length co58] rfl (by (try simp only [List.map_toArray, List.map_cons, List.map_nil]); first | done | rfl | (simp only [List.length_drop, List.length_take]; rfl)) ?_; (with_reducible refine (bitmap_Write.calls _ _ y153 t156 t157 _ ?side1 ?side2 A7.out).mono ?_); (case side1 => repeat (first | exact (Kd.R_reads' HO155.out).2.2 | (with_reducible refine Kd.C_alloc ?_ _) | (with_reducible refine Kd.C_drewN ?_ _) | (with_reducible refine Kd.C_drew ?_))); (case side2 => exact (Kd.R_reads' HO155.out).2.1); rintro e w59 ⟨v158, rfl, ho0, hb⟩; refine ⟨_, rfl, ?_⟩; have n0_ := Aside0.mk (Kd.R_below (by (with_reducible repeat (first | apply Kd.R_alloc | apply Kd.R_drewN | apply Kd.R_drew)); exact HO148.out) hb); have n1_ := Aside0.mk (Kd.R_elder' (by (with_reducible repeat (first | apply Kd.R_alloc | apply Kd.R_drewN | apply Kd.R_drew)); exact HO152.out) (Kd.R_base ho0) hb); have n2_ := Aside0.mk (Kd.R_below (by (with_reducible repeat (first | apply Kd.R_alloc | apply Kd.R_drewN | apply Kd.R_drew)); exact HO155.out) hb); have n3_ := Aside0.mk (Kd.R_lower (Kd.R_new' ho0 (Kd.R_lt (by (with_reducible repeat (first | apply Kd.R_alloc | apply Kd.R_drewN | apply Kd.R_drew)); exact HO152.out))) (below_size (by repeat (first | (with_reducible first | exact HB.out | apply below_alloc | apply pw_below_drewN | apply below_drew1) | exact HB.out)))); have n4_ := Aside0.mk (below_step (by repeat (first | (with_reducible first | exact HB.out | apply below_alloc | apply pw_below_drewN | apply below_drew1) | exact HB.out)) hb); clear HO148; clear HO152; clear HO155; clear HB; have HO148 := n0_; have HO152 := n1_; have HO155 := n2_; have HO159 := n3_; have HB := n4_; clear n0_ n1_ n2_ n3_ n4_; (try clear hb); (try clear hb2); (try clear hk); (try clear hi); (try clear ho0)) | ((with_reducible refine gate_callee (f := 9) rfl ?_); refine goesL_ (some 47) rfl rfl Try.func9 (by kernel_rfl) rfl #[] rfl (by (try simp only [List.map_toArray, List.map_cons, List.map_nil]); first | done | rfl | (simp only [List.length_drop, List.length_take]; rfl)) ?_; (with_reducible refine (comptoirlaw03_awake.calls  true _ A48.out).mono ?_); rintro e w60 ⟨rfl, hb⟩; refine ⟨_, rfl, ?_⟩; have n0_ := Aside0.mk (Kd.R_below (by (with_reducible repeat (first | apply Kd.R_alloc | apply Kd.R_drewN | apply Kd.R_drew)); exact HO148.out) hb); have n1_ := Aside0.mk (Kd.R_below (by (with_reducible repeat (first | apply Kd.R_alloc | apply Kd.R_drewN | apply Kd.R_drew)); exact HO152.out) hb); have n2_ := Aside0.mk (Kd.R_below (by (with_reducible repeat (first | apply Kd.R_alloc | apply Kd.R_drewN | apply Kd.R_drew)); exact HO155.out) hb); have n3_ := Aside0.mk (Kd.R_below (by (with_reducible repeat (first | apply Kd.R_alloc | apply Kd.R_drewN | apply Kd.R_drew)); exact HO159.out) hb); have n4_ := Aside0.mk (below_step (by repeat (first | (with_reducible first | exact HB.out | apply below_alloc | apply pw_below_drewN | apply below_drew1) | exact HB.out)) hb); clear HO148; clear HO152; clear HO155; clear HO159; clear HB; have HO148 := n0_; have HO152 := n1_; have HO155 := n2_; have HO159 := n3_; have HB := n4_; clear n0_ n1_ n2_ n3_ n4_; (try clear hb); (try clear hb2); (try clear hk); (try clear hi); obtain ⟨Ao61, co61, eo61⟩ := Kd.R_slice HO152.out; subst eo61))
              go_ret
              exact ⟨by first | rfl | (simp [errW_none, errW_some] <;> rfl) | (simp [*, errW_none, errW_some] <;> rfl), by repeat (first | (with_reducible first | exact HB.out | apply below_alloc | apply pw_below_drewN | apply below_drew1) | exact HB.out)⟩
            · rw [if_neg c51] at H
              have c51b0 : ((t149.length : Int) == 0) = false := beq_eq_false_iff_ne.mpr c51
              have c51b1 : ((t149.length : Int) != 0) = true := bne_iff_ne.mpr c51
              have c51b2 : ¬ (t149 = []) := fun h_ => c51 (by rw [h_]; rfl)
              obtain rfl := Option.some.inj H
              exact absurd HT_.out (by decide)
          · rw [if_neg c50] at H
            have c50b0 : (t150 == 1) = false := beq_eq_false_iff_ne.mpr c50
            have c50b1 : (t150 != 1) = true := bne_iff_ne.mpr c50
            obtain rfl := Option.some.inj H
            exact absurd HT_.out (by decide)
        · replace c49 := Bool.eq_false_iff.mpr c49
          subst c49
          have H1 : (some false) = some r := by rw [if_neg (show ¬ (false = true) by decide)] at H; exact H
          clear H
          have H := H1
          clear H1
          obtain rfl := Option.some.inj H
          exact absurd HT_.out (by decide)

/-- THE ONE PURE STATEMENT of comptoirlaw03_BitmapEach: yours. -/
def comptoirlaw03_BitmapEach.Pure : Prop := ∀ (a0 : Int) (a1 : Int), (Lit.int .i64 a0).wf = true → (Lit.int .i64 a1).wf = true → ∃ k, comptoirlaw03_BitmapEach.f k a0 a1 = some true
theorem comptoirlaw03_BitmapEach.walk (P : comptoirlaw03_BitmapEach.Pure) (a0 : Int) (a1 : Int) (w : World) (w0 : (Lit.int .i64 a0).wf = true) (w1 : (Lit.int .i64 a1).wf = true) :
    Calls Try.prog 3 #[.int .i64 a0, .int .i64 a1] w fun e w' => e = .returned (.bool true) ∧ Below w.heap.size w w' := by
  obtain ⟨k, h⟩ := P a0 a1 w0 w1
  refine (comptoirlaw03_BitmapEach.calls k a0 a1 true rfl w h).mono ?_
  rintro e w' ⟨rfl, hd⟩
  exact ⟨rfl, hd⟩

end Go.Proofs.Ytfjfmlajnamlpaa.MB
