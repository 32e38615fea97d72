-- laid by wip/tools/mixprint.py over the kit's print (functions of function values by hand)
import Derived.Test.YtfjfmlajnamlpaaMBx0
namespace Go.Proofs.Ytfjfmlajnamlpaa.MB
open Go.RowKit Go.Proofs.YtfjfmlajnamlpaaW.PrintWords Go.Proofs.YtfjfmlajnamlpaaW.PrintLast Go.Proofs.YtfjfmlajnamlpaaW.PrintMore
attribute [local go_sem] max2_int min2_int max_two min_two max_three min_three max_four min_four   -- for this text's walks alone
set_option linter.unusedVariables false
set_option linter.unusedSimpArgs false

/-! ### comptoirhelp_Bytes: function 15 -/
def comptoirhelp_Bytes.f (l0 : List Int) (l1 : List Int) : Option (Bool) := some ((strOfNums l0).toList == (strOfNums l1).toList)
set_option maxHeartbeats 8000000 in
set_option maxRecDepth 100000 in
theorem comptoirhelp_Bytes.calls (A0 : Option Addr) (c0 : Nat) (l0 : List Int) (A1 : Option Addr) (c1 : Nat) (l1 : List Int) (r : Bool) (w : World) (hr0 : Kd.C (Kd.int .u8) w A0 l0.length l0) (hc0 : l0.length ≤ c0) (hr1 : Kd.C (Kd.int .u8) w A1 l1.length l1) (hc1 : l1.length ≤ c1) (h : comptoirhelp_Bytes.f l0 l1 = some r) :
    Calls Try.prog 15 #[.slice A0 l0.length c0, .slice A1 l1.length c1] w fun e w' => e = .returned (.bool r) ∧ Drawn0 w w' := by
  have HR0 := Aside0.mk hr0
  have HC0 := Aside0.mk hc0
  clear hr0 hc0
  have HR1 := Aside0.mk hr1
  have HC1 := Aside0.mk hc1
  clear hr1 hc1
  have H : (some ((strOfNums l0).toList == (strOfNums l1).toList)) = some r := h
  clear h
  obtain rfl := Option.some.inj H
  simp only [Option.some.injEq, Prod.mk.injEq] at H
  obtain ⟨rfl⟩ := H
  have hcv3 := Kd.C_string (P := Try.prog) (A := A0) (c := c0) Try.underlying23 Try.underlying5 Try.underlying9 HR0.out
  have hcv4 := Kd.C_string (P := Try.prog) (A := A1) (c := c1) Try.underlying23 Try.underlying5 Try.underlying9 HR1.out
  go_enter Try.func15, Try.ntmps15
  go_wp2
  go_ret
  exact ⟨by first | rfl | (simp; done) | (simp [*]; done), by repeat (first | exact Drawn0.refl _ | apply Drawn0.step)⟩

-- NOT PRINTED: function 28 (slices_Clone_byte_byte)

-- NOT PRINTED: function 20 (cursor_New)

-- NOT PRINTED: function 29 (cursor_read)

-- NOT PRINTED: function 21 (cursor_Cursor_Take)

/-! ### bitmap_bits_has: function 22 -/
def bitmap_bits_has.f (l0 : List Int) (a1 : Int) : Option (Bool) := if 0 ≤ (wrap64 (Int.tdiv (wrap64 (a1 - 1)) 8)) then (if (wrap64 (Int.tdiv (wrap64 (a1 - 1)) 8)) < (l0.length : Int) then (if 0 ≤ (wrap64 (7 - (Int.tmod (wrap64 (a1 - 1)) 8))) then (some ((Go.bits .and .u8 (shr .u8 (rd l0 (wrap64 (Int.tdiv (wrap64 (a1 - 1)) 8))) (wrap64 (7 - (Int.tmod (wrap64 (a1 - 1)) 8)))) 1) == 1)) else (none)) else (none)) else (none)
set_option maxHeartbeats 8000000 in
set_option maxRecDepth 100000 in
theorem bitmap_bits_has.calls (A0 : Option Addr) (c0 : Nat) (l0 : List Int) (a1 : Int) (r : Bool) (w : World) (hr0 : Kd.C (Kd.int .u8) w A0 l0.length l0) (hc0 : l0.length ≤ c0) (h : bitmap_bits_has.f l0 a1 = some r) :
    Calls Try.prog 22 #[.slice A0 l0.length c0, .int .i64 a1] w fun e w' => e = .returned (.bool r) ∧ Drawn0 w w' := by
  have HR0 := Aside0.mk hr0
  have HC0 := Aside0.mk hc0
  clear hr0 hc0
  have H : (if 0 ≤ (wrap64 (Int.tdiv (wrap64 (a1 - 1)) 8)) then (if (wrap64 (Int.tdiv (wrap64 (a1 - 1)) 8)) < (l0.length : Int) then (if 0 ≤ (wrap64 (7 - (Int.tmod (wrap64 (a1 - 1)) 8))) then (some ((Go.bits .and .u8 (shr .u8 (rd l0 (wrap64 (Int.tdiv (wrap64 (a1 - 1)) 8))) (wrap64 (7 - (Int.tmod (wrap64 (a1 - 1)) 8)))) 1) == 1)) else (none)) else (none)) else (none)) = some r := h
  clear h
  obtain ⟨ji3, hji3⟩ : ∃ j_ : Int, (wrap64 (Int.tdiv (wrap64 (a1 - 1)) 8)) = j_ := ⟨_, rfl⟩
  replace H : (if 0 ≤ (ji3) then (if (ji3) < (l0.length : Int) then (if 0 ≤ (wrap64 (7 - (Int.tmod (wrap64 (a1 - 1)) 8))) then (some ((Go.bits .and .u8 (shr .u8 (rd l0 (ji3)) (wrap64 (7 - (Int.tmod (wrap64 (a1 - 1)) 8)))) 1) == 1)) else (none)) else (none)) else (none)) = some r := by first | (rw [hji3] at H; exact H) | (simp only [hji3] at H ⊢; exact H)
  have hji3w : (IntKind.i64.wrap (Int.tdiv (wrap64 (a1 - 1)) 8)) = ji3 := (i64_w _).trans hji3
  by_cases c4 : 0 ≤ (ji3)
  · rw [if_pos c4] at H
    have c4b0 : decide (0 ≤ (ji3)) = true := decide_eq_true c4
    clear c4
    by_cases c5 : (ji3) < (l0.length : Int)
    · rw [if_pos c5] at H
      have c5b0 : decide ((ji3) < (l0.length : Int)) = true := decide_eq_true c5
      clear c5
      obtain ⟨ji6, hji6⟩ : ∃ j_ : Int, (wrap64 (7 - (Int.tmod (wrap64 (a1 - 1)) 8))) = j_ := ⟨_, rfl⟩
      replace H : (if 0 ≤ (ji6) then (some ((Go.bits .and .u8 (shr .u8 (rd l0 (ji3)) (ji6)) 1) == 1)) else (none)) = some r := by first | (rw [hji6] at H; exact H) | (simp only [hji6] at H ⊢; exact H)
      have hji6w : (IntKind.i64.wrap (7 - (Int.tmod (wrap64 (a1 - 1)) 8))) = ji6 := (i64_w _).trans hji6
      by_cases c7 : 0 ≤ (ji6)
      · rw [if_pos c7] at H
        have c7b0 := eq_true c7
        have c7b1 : decide (0 ≤ (ji6)) = true := decide_eq_true c7
        clear c7
        obtain ⟨ji8, hji8⟩ : ∃ j_ : Int, (shr .u8 (rd l0 (ji3)) (ji6)) = j_ := ⟨_, rfl⟩
        replace H : (some ((Go.bits .and .u8 (ji8) 1) == 1)) = some r := by first | (rw [hji8] at H; exact H) | (simp only [hji8] at H ⊢; exact H)
        have hji8_ : ((rd l0 (ji3)) / 2 ^ min (ji6).toNat 8) = ji8 := hji8
        have hji8z : (ji6) ≤ 8 → ((rd l0 (ji3)) / 2 ^ (ji6).toNat) = ji8 := shr_small hji8
        obtain rfl := Option.some.inj H
        simp only [Option.some.injEq, Prod.mk.injEq] at H
        obtain ⟨rfl⟩ := H
        have p112 : 0 ≤ ((ji3) : Int) := of_decide_eq_true (by first | (with_reducible assumption) | assumption)
        have q112 : (ji3) < (l0.length : Int) := of_decide_eq_true (by first | (with_reducible assumption) | assumption)
        obtain ⟨ad112, e112, hx112_0⟩ := Kd.at_int HR0.out (ji3) p112 q112
        cases e112
        replace p112 := eq_true p112
        replace q112 := eq_true q112
        go_enter Try.func22, Try.ntmps22
        go_wp2
        go_ret
        exact ⟨by first | rfl | (simp; done) | (simp only [← hji3, ← hji6, ← hji8] <;> (first | rfl | simp)) | (simp [*]; done), by repeat (first | exact Drawn0.refl _ | apply Drawn0.step)⟩
      · rw [if_neg c7] at H
        exact absurd H (by simp)
    · rw [if_neg c5] at H
      exact absurd H (by simp)
  · rw [if_neg c4] at H
    exact absurd H (by simp)

-- NOT PRINTED: function 23 (bitmap_which)

-- NOT PRINTED: function 25 (comptoirhelp_Same_int)

-- NOT PRINTED: function 10 (comptoirhelp_Own_int)

-- NOT PRINTED: function 11 (comptoirhelp_Own_byte)

/-! ### comptoirref01_WriteMap: function 12 -/
mutual
def comptoirref01_WriteMap.l0 : Nat → List Int → List Int → Int → Option (List Int × Int)
  | 0, _, _, _ => none
  | k + 1, x0, x4, x5 => if x5 < (x0.length : Int) then (if 0 ≤ x5 then (if (rd x0 x5) < 2 then (comptoirref01_WriteMap.j1 k x0 x4 x5 (rd x0 x5) true) else (if (rd x0 x5) > 128 then (comptoirref01_WriteMap.j1 k x0 x4 x5 (rd x0 x5) true) else (if (rd x0 x5) = 65 then (comptoirref01_WriteMap.j1 k x0 x4 x5 (rd x0 x5) true) else (if x5 > 0 then (if 0 ≤ (wrap64 (x5 - 1)) then (if (wrap64 (x5 - 1)) < (x0.length : Int) then (comptoirref01_WriteMap.j1 k x0 x4 x5 (rd x0 x5) (decide ((rd x0 x5) ≤ (rd x0 (wrap64 (x5 - 1)))))) else (none)) else (none)) else (comptoirref01_WriteMap.j1 k x0 x4 x5 (rd x0 x5) false))))) else (none)) else (some (x4, 0))
def comptoirref01_WriteMap.j1 : Nat → List Int → List Int → Int → Int → Bool → Option (List Int × Int)
  | 0, _, _, _, _, _ => none
  | k + 1, x0, x4, x5, x6, x40 => if x40 = true then (some (([] : List Int), 1)) else (if x6 > 64 then (if (x4.length : Int) = 8 then ((some (([0, 0, 0, 0, 0, 0, 0, 0] : List Int) : List Int)).bind fun y198 => (if x4.length + y198.length < 140737488355328 then ((some (x4 ++ y198 : List Int)).bind fun y201 => (if 0 < (y201.length : Int) then ((some (y201.set (0 : Int).toNat (Go.bits .or .u8 (rd y201 0) 128) : List Int)).bind fun y205 => (if 0 ≤ (wrap64 (Int.tdiv (wrap64 (x6 - 1)) 8)) then (if (wrap64 (Int.tdiv (wrap64 (x6 - 1)) 8)) < (y201.length : Int) then (if 0 ≤ (IntKind.u64.wrap (Int.tmod (wrap64 (x6 - 1)) 8)) then (comptoirref01_WriteMap.l0 k x0 (y205.set ((wrap64 (Int.tdiv (wrap64 (x6 - 1)) 8)) : Int).toNat (Go.bits .or .u8 (rd y205 (wrap64 (Int.tdiv (wrap64 (x6 - 1)) 8))) (shr .u8 128 (IntKind.u64.wrap (Int.tmod (wrap64 (x6 - 1)) 8))))) (wrap64 (x5 + 1))) else (none)) else (none)) else (none))) else (none))) else (none))) else (if 0 ≤ (wrap64 (Int.tdiv (wrap64 (x6 - 1)) 8)) then (if (wrap64 (Int.tdiv (wrap64 (x6 - 1)) 8)) < (x4.length : Int) then (if 0 ≤ (IntKind.u64.wrap (Int.tmod (wrap64 (x6 - 1)) 8)) then (comptoirref01_WriteMap.l0 k x0 (x4.set ((wrap64 (Int.tdiv (wrap64 (x6 - 1)) 8)) : Int).toNat (Go.bits .or .u8 (rd x4 (wrap64 (Int.tdiv (wrap64 (x6 - 1)) 8))) (shr .u8 128 (IntKind.u64.wrap (Int.tmod (wrap64 (x6 - 1)) 8))))) (wrap64 (x5 + 1))) else (none)) else (none)) else (none))) else (if 0 ≤ (wrap64 (Int.tdiv (wrap64 (x6 - 1)) 8)) then (if (wrap64 (Int.tdiv (wrap64 (x6 - 1)) 8)) < (x4.length : Int) then (if 0 ≤ (IntKind.u64.wrap (Int.tmod (wrap64 (x6 - 1)) 8)) then (comptoirref01_WriteMap.l0 k x0 (x4.set ((wrap64 (Int.tdiv (wrap64 (x6 - 1)) 8)) : Int).toNat (Go.bits .or .u8 (rd x4 (wrap64 (Int.tdiv (wrap64 (x6 - 1)) 8))) (shr .u8 128 (IntKind.u64.wrap (Int.tmod (wrap64 (x6 - 1)) 8))))) (wrap64 (x5 + 1))) else (none)) else (none)) else (none)))
end
def comptoirref01_WriteMap.f (k : Nat) (l0 : List Int) : Option (List Int × Int) := if 8 ≤ 281474976710656 then (comptoirref01_WriteMap.l0 k l0 (List.replicate 8 0) 0) else (none)
theorem comptoirref01_WriteMap.mono_l : ∀ k, (∀ y0 y1 y2, LeO (comptoirref01_WriteMap.l0 k y0 y1 y2) (comptoirref01_WriteMap.l0 (k + 1) y0 y1 y2)) ∧ (∀ y0 y1 y2 y3 y4, LeO (comptoirref01_WriteMap.j1 k y0 y1 y2 y3 y4) (comptoirref01_WriteMap.j1 (k + 1) y0 y1 y2 y3 y4))
  | 0 => ⟨fun _ _ _ r h => by simp [comptoirref01_WriteMap.l0] at h, fun _ _ _ _ _ r h => by simp [comptoirref01_WriteMap.j1] at h⟩
  | k + 1 => by
    obtain ⟨ih0, ih1⟩ := comptoirref01_WriteMap.mono_l k
    refine ⟨?_, ?_⟩
    · intro y0 y1 y2
      unfold comptoirref01_WriteMap.l0
      repeat' first
      | (with_reducible exact ih0 _ _ _)
      | (with_reducible exact ih1 _ _ _ _ _)
      | (with_reducible exact LeO.refl _)
      | (with_reducible exact LeO.none _)
      | (with_reducible refine LeO.ite ?_ ?_)
      | (with_reducible refine LeO.bind ?_ (fun _ => ?_))
      | exact ih0 _ _ _
      | exact ih1 _ _ _ _ _
      | exact LeO.none _
      | refine LeO.ite ?_ ?_
      | refine LeO.bind ?_ (fun _ => ?_)
    · intro y0 y1 y2 y3 y4
      unfold comptoirref01_WriteMap.j1
      repeat' first
      | (with_reducible exact ih0 _ _ _)
      | (with_reducible exact ih1 _ _ _ _ _)
      | (with_reducible exact LeO.refl _)
      | (with_reducible exact LeO.none _)
      | (with_reducible refine LeO.ite ?_ ?_)
      | (with_reducible refine LeO.bind ?_ (fun _ => ?_))
      | exact ih0 _ _ _
      | exact ih1 _ _ _ _ _
      | exact LeO.none _
      | refine LeO.ite ?_ ?_
      | refine LeO.bind ?_ (fun _ => ?_)
theorem comptoirref01_WriteMap.mono : ∀ a0 k, LeO (comptoirref01_WriteMap.f k a0) (comptoirref01_WriteMap.f (k + 1) a0) := by
  intro a0 k
  obtain ⟨ih0, ih1⟩ := comptoirref01_WriteMap.mono_l k
  unfold comptoirref01_WriteMap.f
  repeat' first
      | (with_reducible exact ih0 _ _ _)
      | (with_reducible exact ih1 _ _ _ _ _)
      | (with_reducible exact LeO.refl _)
      | (with_reducible exact LeO.none _)
      | (with_reducible refine LeO.ite ?_ ?_)
      | (with_reducible refine LeO.bind ?_ (fun _ => ?_))
      | exact ih0 _ _ _
      | exact ih1 _ _ _ _ _
      | exact LeO.none _
      | refine LeO.ite ?_ ?_
      | refine LeO.bind ?_ (fun _ => ?_)
set_option maxHeartbeats 8000000 in
set_option maxRecDepth 100000 in
theorem comptoirref01_WriteMap.calls (k : Nat) (A0 : Option Addr) (c0 : Nat) (l0 : List Int) (r1 : List Int) (r2 : Int) (w : World) (hr0 : Kd.C (Kd.int .i64) w A0 l0.length l0) (hc0 : l0.length ≤ c0) (h : comptoirref01_WriteMap.f k l0 = some (r1, r2)) :
    Calls Try.prog 12 #[.slice A0 l0.length c0] w fun e w' => ∃ v0_ : Value, e = .returned (.tuple #[v0_, .int .i64 r2]) ∧ Kd.R (Kd.int .u8) 5 w' w.heap.size (fun _ => True) v0_ r1 ∧ Below w.heap.size w w' := by
  have HR0 := Aside0.mk hr0
  have HC0 := Aside0.mk hc0
  clear hr0 hc0
  have HB := Aside0.mk (Below.refl w.heap.size w)
  have H : (if 8 ≤ 281474976710656 then (comptoirref01_WriteMap.l0 k l0 (List.replicate 8 0) 0) else (none)) = some (r1, r2) := h
  clear h
  by_cases c2 : 8 ≤ 281474976710656
  · rw [if_pos c2] at H
    have c2b0 := eq_true c2
    have c2b1 : decide (8 ≤ 281474976710656) = true := decide_eq_true c2
    clear c2
    obtain ⟨y193, hy193⟩ : ∃ y_ : List Int, y_ = (List.replicate 8 0) := ⟨_, rfl⟩
    replace H : (comptoirref01_WriteMap.l0 k l0 y193 0) = some (r1, r2) := by first | (rw [hy193]; with_reducible exact H) | (have H2_ := (Option.bind_some _ _).symm.trans H; rw [hy193]; with_reducible exact H2_) | (have H2_ := (Option.bind_some _ _).symm.trans H; with_reducible exact H2_) | with_reducible exact H | (rw [hy193]; exact H) | exact H
    have Ny193 := Aside0.mk hy193
    clear hy193
    have H' := Aside0.mk H
    clear H
    go_enter Try.func12, Try.ntmps12
    go_wp2_with (first | ((with_reducible refine gate_dst (N := 7) rfl ?_); (try (refine gate_guard (by rfl) ?_; dsimp only)); refine Kd.R_make (Kd.int .u8) _ 5 rfl (N := 7) rfl 23 _ _ rfl 8 rfl rfl Try.underlying23 (.int .u8 0) 1 info5 rfl (by decide) (by omega) 0 (ok := fun _ => True) (okp := fun _ => True) rfl (fun _ hk => hk) trivial (by omega) (by omega) (Below.refl _ _) (Nat.le_refl _) ?_; intro v194 w3 ho4 hb hg_ hnew_; clear hg_ hnew_; (first | rw [← Ny193.out] at ho4 | (simp only [Int.reduceToNat] at ho4; rw [← Ny193.out] at ho4)); have n0_ := Aside0.mk (Kd.R_lower ho4 (below_size (by repeat (first | (with_reducible first | exact HB.out | apply below_alloc | apply pw_below_drewN | apply below_drew1) | exact HB.out)))); have n1_ := Aside0.mk (below_step (by repeat (first | (with_reducible first | exact HB.out | apply below_alloc | apply pw_below_drewN | apply below_drew1) | exact HB.out)) hb); clear HB; have HO195 := n0_; have HB := n1_; clear n0_ n1_; clear hb ho4))
    go_loopg [4, 5] k (fun kq v4 v5 w' => ∃ (x4_1 : List Int) (x5_1 : Int), v5 = .int .i64 x5_1 ∧ Aside0 (comptoirref01_WriteMap.l0 kq l0 x4_1 x5_1 = some (r1, r2)) ∧ Aside0 (kq ≤ k) ∧ Aside0 (Kd.R (Kd.int .u8) 5 w' w.heap.size (fun _ => True) v4 x4_1) ∧ Aside0 (Below w.heap.size w w'))
    case atStart => exact ⟨(y193), (0), (by first | rfl | (simp; done) | (simp [*]; done)), H', ⟨Nat.le_refl _⟩, ⟨by (with_reducible repeat (first | apply Kd.R_alloc | apply Kd.R_drewN | apply Kd.R_drew)); exact HO195.out⟩, ⟨by repeat (first | (with_reducible first | exact HB.out | apply below_alloc | apply pw_below_drewN | apply below_drew1) | exact HB.out)⟩⟩
    case round =>
      clear H'
      try clear c1
      try clear c2
      try clear c2b0
      try clear c2b1
      try clear p2
      obtain ⟨x4_1, x5_1, rfl, HA, HK1, HO_4, HB⟩ := hrel
      cases gk with
      | zero => exact absurd HA.out (by simp [comptoirref01_WriteMap.l0])
      | succ k1 =>
        have H := HA.out
        clear HA
        simp only [comptoirref01_WriteMap.l0] at H
        by_cases c5 : x5_1 < (l0.length : Int)
        · rw [if_pos c5] at H
          have c5b0 : decide (x5_1 < (l0.length : Int)) = true := decide_eq_true c5
          clear c5
          by_cases c6 : 0 ≤ x5_1
          · rw [if_pos c6] at H
            have c6b0 : decide (0 ≤ x5_1) = true := decide_eq_true c6
            clear c6
            have HC7 := Aside0.mk H
            clear H
            have p196 : 0 ≤ (x5_1 : Int) := of_decide_eq_true (by first | (with_reducible assumption) | assumption)
            have q196 : x5_1 < (l0.length : Int) := of_decide_eq_true (by first | (with_reducible assumption) | assumption)
            obtain ⟨ad196, e196, hx196_0⟩ := Kd.at_int HR0.out x5_1 p196 q196
            cases e196
            replace hx196_0 := (HB.out.cell (World.block_lt_of_cell? w _ hx196_0)).trans hx196_0
            replace p196 := eq_true p196
            replace q196 := eq_true q196
            go_upto_region 6 with (fail)
            go_cut [40] (fun v40 wc => ∃ (kq : Nat) (x40_6 : Bool), v40 = .bool x40_6 ∧ Aside0 (comptoirref01_WriteMap.j1 kq l0 x4_1 x5_1 (rd l0 x5_1) x40_6 = some (r1, r2)) ∧ Aside0 (kq ≤ k1) ∧ Aside0 (Kd.R (Kd.int .u8) 5 wc w.heap.size (fun _ => True) u4 x4_1) ∧ Aside0 (Below w.heap.size w wc))
            case first =>
              have H := HC7.out
              clear HC7
              by_cases c8 : (rd l0 x5_1) < 2
              · rw [if_pos c8] at H
                have c8b0 : decide ((rd l0 x5_1) < 2) = true := decide_eq_true c8
                clear c8
                (first | rw [c8b0] | (simp only [i64_w, i32_w]; rw [c8b0]) | skip)
                have H' := Aside0.mk H
                clear H
                go_wp2
                go_meet
                case rel => exact ⟨_, (true), (by first | rfl | (simp; done) | (simp [*]; done)), H', ⟨by have := HK1.out; first | omega | exact Nat.le_refl _⟩, ⟨by (with_reducible repeat (first | apply Kd.R_alloc | apply Kd.R_drewN | apply Kd.R_drew)); exact HO_4.out⟩, ⟨by repeat (first | (with_reducible first | exact HB.out | apply below_alloc | apply pw_below_drewN | apply below_drew1) | exact HB.out)⟩⟩
              · rw [if_neg c8] at H
                have c8b0 : decide ((rd l0 x5_1) < 2) = false := decide_eq_false c8
                clear c8
                (first | rw [c8b0] | (simp only [i64_w, i32_w]; rw [c8b0]) | skip)
                by_cases c9 : (rd l0 x5_1) > 128
                · rw [if_pos c9] at H
                  have c9b0 : decide (128 < (rd l0 x5_1)) = true := decide_eq_true c9
                  clear c9
                  have H' := Aside0.mk H
                  clear H
                  go_wp2
                  go_meet
                  case rel => exact ⟨_, (true), (by first | rfl | (simp; done) | (simp [*]; done)), H', ⟨by have := HK1.out; first | omega | exact Nat.le_refl _⟩, ⟨by (with_reducible repeat (first | apply Kd.R_alloc | apply Kd.R_drewN | apply Kd.R_drew)); exact HO_4.out⟩, ⟨by repeat (first | (with_reducible first | exact HB.out | apply below_alloc | apply pw_below_drewN | apply below_drew1) | exact HB.out)⟩⟩
                · rw [if_neg c9] at H
                  have c9b0 : decide (128 < (rd l0 x5_1)) = false := decide_eq_false c9
                  clear c9
                  by_cases c10 : (rd l0 x5_1) = 65
                  · rw [if_pos c10] at H
                    have c10b0 : ((rd l0 x5_1) == 65) = true := beq_iff_eq.mpr c10
                    have c10b1 : ((rd l0 x5_1) != 65) = false := bne_eq_false_iff_eq.mpr c10
                    clear c10
                    have H' := Aside0.mk H
                    clear H
                    go_wp2
                    go_meet
                    case rel => exact ⟨_, (true), (by first | rfl | (simp; done) | (simp [*]; done)), H', ⟨by have := HK1.out; first | omega | exact Nat.le_refl _⟩, ⟨by (with_reducible repeat (first | apply Kd.R_alloc | apply Kd.R_drewN | apply Kd.R_drew)); exact HO_4.out⟩, ⟨by repeat (first | (with_reducible first | exact HB.out | apply below_alloc | apply pw_below_drewN | apply below_drew1) | exact HB.out)⟩⟩
                  · rw [if_neg c10] at H
                    have c10b0 : ((rd l0 x5_1) == 65) = false := beq_eq_false_iff_ne.mpr c10
                    have c10b1 : ((rd l0 x5_1) != 65) = true := bne_iff_ne.mpr c10
                    by_cases c11 : x5_1 > 0
                    · rw [if_pos c11] at H
                      have c11b0 : decide (0 < x5_1) = true := decide_eq_true c11
                      clear c11
                      obtain ⟨ji12, hji12⟩ : ∃ j_ : Int, (wrap64 (x5_1 - 1)) = j_ := ⟨_, rfl⟩
                      replace H : (if 0 ≤ (ji12) then (if (ji12) < (l0.length : Int) then (comptoirref01_WriteMap.j1 k1 l0 x4_1 x5_1 (rd l0 x5_1) (decide ((rd l0 x5_1) ≤ (rd l0 (ji12))))) else (none)) else (none)) = some (r1, r2) := by first | (rw [hji12] at H; exact H) | (simp only [hji12] at H ⊢; exact H)
                      have hji12w : (IntKind.i64.wrap (x5_1 - 1)) = ji12 := (i64_w _).trans hji12
                      by_cases c13 : 0 ≤ (ji12)
                      · rw [if_pos c13] at H
                        have c13b0 : decide (0 ≤ (ji12)) = true := decide_eq_true c13
                        clear c13
                        by_cases c14 : (ji12) < (l0.length : Int)
                        · rw [if_pos c14] at H
                          have c14b0 : decide ((ji12) < (l0.length : Int)) = true := decide_eq_true c14
                          clear c14
                          have H' := Aside0.mk H
                          clear H
                          have p197 : 0 ≤ ((ji12) : Int) := of_decide_eq_true (by first | (with_reducible assumption) | assumption)
                          have q197 : (ji12) < (l0.length : Int) := of_decide_eq_true (by first | (with_reducible assumption) | assumption)
                          obtain ⟨ad197, e197, hx197_0⟩ := Kd.at_int HR0.out (ji12) p197 q197
                          obtain rfl : ad196 = ad197 := (by injection e197)
                          replace hx197_0 := (HB.out.cell (World.block_lt_of_cell? w _ hx197_0)).trans hx197_0
                          replace p197 := eq_true p197
                          replace q197 := eq_true q197
                          go_wp2
                          go_meet
                          case rel => exact ⟨_, (decide ((rd l0 x5_1) ≤ (rd l0 (ji12)))), (by first | rfl | (simp; done) | (simp only [← hji12] <;> (first | rfl | simp)) | (simp [*]; done)), H', ⟨by have := HK1.out; first | omega | exact Nat.le_refl _⟩, ⟨by (with_reducible repeat (first | apply Kd.R_alloc | apply Kd.R_drewN | apply Kd.R_drew)); exact HO_4.out⟩, ⟨by repeat (first | (with_reducible first | exact HB.out | apply below_alloc | apply pw_below_drewN | apply below_drew1) | exact HB.out)⟩⟩
                        · rw [if_neg c14] at H
                          exact absurd H (by simp)
                      · rw [if_neg c13] at H
                        exact absurd H (by simp)
                    · rw [if_neg c11] at H
                      have c11b0 : decide (0 < x5_1) = false := decide_eq_false c11
                      clear c11
                      have H' := Aside0.mk H
                      clear H
                      go_wp2
                      go_meet
                      case rel => exact ⟨_, (false), (by first | rfl | (simp; done) | (simp [*]; done)), H', ⟨by have := HK1.out; first | omega | exact Nat.le_refl _⟩, ⟨by (with_reducible repeat (first | apply Kd.R_alloc | apply Kd.R_drewN | apply Kd.R_drew)); exact HO_4.out⟩, ⟨by repeat (first | (with_reducible first | exact HB.out | apply below_alloc | apply pw_below_drewN | apply below_drew1) | exact HB.out)⟩⟩
            case rest =>
              clear HC7
              try clear c1
              try clear p1
              try clear q1
              try clear hx1
              try clear c2
              try clear c2b0
              try clear c2b1
              try clear p2
              try clear c5
              try clear c5b0
              try clear c6
              try clear c6b0
              try clear p6
              try clear c8
              try clear c8b0
              try clear c9
              try clear c9b0
              try clear c10
              try clear c10b0
              try clear c10b1
              try clear c11
              try clear c11b0
              try clear c12
              try clear c13
              try clear c13b0
              try clear c14
              try clear c14b0
              try clear hx196_0
              try clear hx197_0
              try clear p196
              try clear p197
              try clear p2
              try clear q196
              try clear q197
              obtain ⟨kq, x40_6, rfl, HA, HJ6, HO_4, HB⟩ := hcut
              cases kq with
              | zero => exact absurd HA.out (by simp [comptoirref01_WriteMap.j1])
              | succ kj6 =>
                have H := HA.out
                clear HA
                simp only [comptoirref01_WriteMap.j1] at H
                by_cases c15 : x40_6 = true
                · subst c15
                  have H1 : (some (([] : List Int), 1)) = some (r1, r2) := by rw [if_pos rfl] at H; exact H
                  clear H
                  have H := H1
                  clear H1
                  simp only [Option.some.injEq, Prod.mk.injEq] at H
                  obtain ⟨rfl, rfl⟩ := H
                  go_wp2
                  go_ret2
                  exact ⟨_, by first | rfl | (simp [errW_none, errW_some] <;> rfl) | (simp [*, errW_none, errW_some] <;> rfl), by first | exact Kd.R_nil _ _ _ _ _ | exact Kd.N_nil _ _ _ _ _ | exact Kd.V_nil _ _ _ _ _ | exact Kd.Q_nil _ _ _ _ _ | exact Kd.S_nil _ _ _ _ _, by repeat (first | (with_reducible first | exact HB.out | apply below_alloc | apply pw_below_drewN | apply below_drew1) | exact HB.out)⟩
                · replace c15 := Bool.eq_false_iff.mpr c15
                  subst c15
                  have H1 : (if (rd l0 x5_1) > 64 then (if (x4_1.length : Int) = 8 then ((some (([0, 0, 0, 0, 0, 0, 0, 0] : List Int) : List Int)).bind fun y198 => (if x4_1.length + y198.length < 140737488355328 then ((some (x4_1 ++ y198 : List Int)).bind fun y201 => (if 0 < (y201.length : Int) then ((some (y201.set (0 : Int).toNat (Go.bits .or .u8 (rd y201 0) 128) : List Int)).bind fun y205 => (if 0 ≤ (wrap64 (Int.tdiv (wrap64 ((rd l0 x5_1) - 1)) 8)) then (if (wrap64 (Int.tdiv (wrap64 ((rd l0 x5_1) - 1)) 8)) < (y201.length : Int) then (if 0 ≤ (IntKind.u64.wrap (Int.tmod (wrap64 ((rd l0 x5_1) - 1)) 8)) then (comptoirref01_WriteMap.l0 kj6 l0 (y205.set ((wrap64 (Int.tdiv (wrap64 ((rd l0 x5_1) - 1)) 8)) : Int).toNat (Go.bits .or .u8 (rd y205 (wrap64 (Int.tdiv (wrap64 ((rd l0 x5_1) - 1)) 8))) (shr .u8 128 (IntKind.u64.wrap (Int.tmod (wrap64 ((rd l0 x5_1) - 1)) 8))))) (wrap64 (x5_1 + 1))) else (none)) else (none)) else (none))) else (none))) else (none))) else (if 0 ≤ (wrap64 (Int.tdiv (wrap64 ((rd l0 x5_1) - 1)) 8)) then (if (wrap64 (Int.tdiv (wrap64 ((rd l0 x5_1) - 1)) 8)) < (x4_1.length : Int) then (if 0 ≤ (IntKind.u64.wrap (Int.tmod (wrap64 ((rd l0 x5_1) - 1)) 8)) then (comptoirref01_WriteMap.l0 kj6 l0 (x4_1.set ((wrap64 (Int.tdiv (wrap64 ((rd l0 x5_1) - 1)) 8)) : Int).toNat (Go.bits .or .u8 (rd x4_1 (wrap64 (Int.tdiv (wrap64 ((rd l0 x5_1) - 1)) 8))) (shr .u8 128 (IntKind.u64.wrap (Int.tmod (wrap64 ((rd l0 x5_1) - 1)) 8))))) (wrap64 (x5_1 + 1))) else (none)) else (none)) else (none))) else (if 0 ≤ (wrap64 (Int.tdiv (wrap64 ((rd l0 x5_1) - 1)) 8)) then (if (wrap64 (Int.tdiv (wrap64 ((rd l0 x5_1) - 1)) 8)) < (x4_1.length : Int) then (if 0 ≤ (IntKind.u64.wrap (Int.tmod (wrap64 ((rd l0 x5_1) - 1)) 8)) then (comptoirref01_WriteMap.l0 kj6 l0 (x4_1.set ((wrap64 (Int.tdiv (wrap64 ((rd l0 x5_1) - 1)) 8)) : Int).toNat (Go.bits .or .u8 (rd x4_1 (wrap64 (Int.tdiv (wrap64 ((rd l0 x5_1) - 1)) 8))) (shr .u8 128 (IntKind.u64.wrap (Int.tmod (wrap64 ((rd l0 x5_1) - 1)) 8))))) (wrap64 (x5_1 + 1))) else (none)) else (none)) else (none))) = some (r1, r2) := by rw [if_neg (show ¬ (false = true) by decide)] at H; exact H
                  clear H
                  have H := H1
                  clear H1
                  by_cases c16 : (rd l0 x5_1) > 64
                  · rw [if_pos c16] at H
                    have c16b0 : decide (64 < (rd l0 x5_1)) = true := decide_eq_true c16
                    clear c16
                    by_cases c17 : (x4_1.length : Int) = 8
                    · rw [if_pos c17] at H
                      have c17b0 : ((x4_1.length : Int) == 8) = true := beq_iff_eq.mpr c17
                      have c17b1 : ((x4_1.length : Int) != 8) = false := bne_eq_false_iff_eq.mpr c17
                      clear c17
                      obtain ⟨y198, hy198⟩ : ∃ y_ : List Int, y_ = (([0, 0, 0, 0, 0, 0, 0, 0] : List Int)) := ⟨_, rfl⟩
                      replace H : (if x4_1.length + y198.length < 140737488355328 then ((some (x4_1 ++ y198 : List Int)).bind fun y201 => (if 0 < (y201.length : Int) then ((some (y201.set (0 : Int).toNat (Go.bits .or .u8 (rd y201 0) 128) : List Int)).bind fun y205 => (if 0 ≤ (wrap64 (Int.tdiv (wrap64 ((rd l0 x5_1) - 1)) 8)) then (if (wrap64 (Int.tdiv (wrap64 ((rd l0 x5_1) - 1)) 8)) < (y201.length : Int) then (if 0 ≤ (IntKind.u64.wrap (Int.tmod (wrap64 ((rd l0 x5_1) - 1)) 8)) then (comptoirref01_WriteMap.l0 kj6 l0 (y205.set ((wrap64 (Int.tdiv (wrap64 ((rd l0 x5_1) - 1)) 8)) : Int).toNat (Go.bits .or .u8 (rd y205 (wrap64 (Int.tdiv (wrap64 ((rd l0 x5_1) - 1)) 8))) (shr .u8 128 (IntKind.u64.wrap (Int.tmod (wrap64 ((rd l0 x5_1) - 1)) 8))))) (wrap64 (x5_1 + 1))) else (none)) else (none)) else (none))) else (none))) else (none)) = some (r1, r2) := by first | (rw [hy198]; with_reducible exact H) | (have H2_ := (Option.bind_some _ _).symm.trans H; rw [hy198]; with_reducible exact H2_) | (have H2_ := (Option.bind_some _ _).symm.trans H; with_reducible exact H2_) | with_reducible exact H | (rw [hy198]; exact H) | exact H
                      have Ny198 := Aside0.mk hy198
                      clear hy198
                      by_cases c18 : x4_1.length + y198.length < 140737488355328
                      · rw [if_pos c18] at H
                        have LMc18 := Aside0.mk c18
                        clear c18
                        obtain ⟨y201, hy201⟩ : ∃ y_ : List Int, y_ = (x4_1 ++ y198) := ⟨_, rfl⟩
                        replace H : (if 0 < (y201.length : Int) then ((some (y201.set (0 : Int).toNat (Go.bits .or .u8 (rd y201 0) 128) : List Int)).bind fun y205 => (if 0 ≤ (wrap64 (Int.tdiv (wrap64 ((rd l0 x5_1) - 1)) 8)) then (if (wrap64 (Int.tdiv (wrap64 ((rd l0 x5_1) - 1)) 8)) < (y201.length : Int) then (if 0 ≤ (IntKind.u64.wrap (Int.tmod (wrap64 ((rd l0 x5_1) - 1)) 8)) then (comptoirref01_WriteMap.l0 kj6 l0 (y205.set ((wrap64 (Int.tdiv (wrap64 ((rd l0 x5_1) - 1)) 8)) : Int).toNat (Go.bits .or .u8 (rd y205 (wrap64 (Int.tdiv (wrap64 ((rd l0 x5_1) - 1)) 8))) (shr .u8 128 (IntKind.u64.wrap (Int.tmod (wrap64 ((rd l0 x5_1) - 1)) 8))))) (wrap64 (x5_1 + 1))) else (none)) else (none)) else (none))) else (none)) = some (r1, r2) := by first | (rw [hy201]; with_reducible exact H) | (have H2_ := (Option.bind_some _ _).symm.trans H; rw [hy201]; with_reducible exact H2_) | (have H2_ := (Option.bind_some _ _).symm.trans H; with_reducible exact H2_) | with_reducible exact H | (rw [hy201]; exact H) | exact H
                        have Ny201 := Aside0.mk hy201
                        clear hy201
                        by_cases c19 : 0 < (y201.length : Int)
                        · rw [if_pos c19] at H
                          have c19b0 : decide (0 < (y201.length : Int)) = true := decide_eq_true c19
                          have c19b1 : decide (0 < y201.length) = true := decide_eq_true (by omega)
                          clear c19
                          obtain ⟨y205, hy205⟩ : ∃ y_ : List Int, y_ = (y201.set (0 : Int).toNat (Go.bits .or .u8 (rd y201 0) 128)) := ⟨_, rfl⟩
                          replace H : (if 0 ≤ (wrap64 (Int.tdiv (wrap64 ((rd l0 x5_1) - 1)) 8)) then (if (wrap64 (Int.tdiv (wrap64 ((rd l0 x5_1) - 1)) 8)) < (y201.length : Int) then (if 0 ≤ (IntKind.u64.wrap (Int.tmod (wrap64 ((rd l0 x5_1) - 1)) 8)) then (comptoirref01_WriteMap.l0 kj6 l0 (y205.set ((wrap64 (Int.tdiv (wrap64 ((rd l0 x5_1) - 1)) 8)) : Int).toNat (Go.bits .or .u8 (rd y205 (wrap64 (Int.tdiv (wrap64 ((rd l0 x5_1) - 1)) 8))) (shr .u8 128 (IntKind.u64.wrap (Int.tmod (wrap64 ((rd l0 x5_1) - 1)) 8))))) (wrap64 (x5_1 + 1))) else (none)) else (none)) else (none)) = some (r1, r2) := by first | (rw [hy205]; with_reducible exact H) | (have H2_ := (Option.bind_some _ _).symm.trans H; rw [hy205]; with_reducible exact H2_) | (have H2_ := (Option.bind_some _ _).symm.trans H; with_reducible exact H2_) | with_reducible exact H | (rw [hy205]; exact H) | exact H
                          have Ny205 := Aside0.mk hy205
                          clear hy205
                          obtain ⟨ji21, hji21⟩ : ∃ j_ : Int, (wrap64 (Int.tdiv (wrap64 ((rd l0 x5_1) - 1)) 8)) = j_ := ⟨_, rfl⟩
                          replace H : (if 0 ≤ (ji21) then (if (ji21) < (y201.length : Int) then (if 0 ≤ (IntKind.u64.wrap (Int.tmod (wrap64 ((rd l0 x5_1) - 1)) 8)) then (comptoirref01_WriteMap.l0 kj6 l0 (y205.set ((ji21) : Int).toNat (Go.bits .or .u8 (rd y205 (ji21)) (shr .u8 128 (IntKind.u64.wrap (Int.tmod (wrap64 ((rd l0 x5_1) - 1)) 8))))) (wrap64 (x5_1 + 1))) else (none)) else (none)) else (none)) = some (r1, r2) := by first | (rw [hji21] at H; exact H) | (simp only [hji21] at H ⊢; exact H)
                          have hji21w : (IntKind.i64.wrap (Int.tdiv (wrap64 ((rd l0 x5_1) - 1)) 8)) = ji21 := (i64_w _).trans hji21
                          by_cases c22 : 0 ≤ (ji21)
                          · rw [if_pos c22] at H
                            have c22b0 : decide (0 ≤ (ji21)) = true := decide_eq_true c22
                            clear c22
                            by_cases c23 : (ji21) < (y201.length : Int)
                            · rw [if_pos c23] at H
                              have c23b0 : decide ((ji21) < (y201.length : Int)) = true := decide_eq_true c23
                              clear c23
                              obtain ⟨ji24, hji24⟩ : ∃ j_ : Int, (IntKind.u64.wrap (Int.tmod (wrap64 ((rd l0 x5_1) - 1)) 8)) = j_ := ⟨_, rfl⟩
                              replace H : (if 0 ≤ (ji24) then (comptoirref01_WriteMap.l0 kj6 l0 (y205.set ((ji21) : Int).toNat (Go.bits .or .u8 (rd y205 (ji21)) (shr .u8 128 (ji24)))) (wrap64 (x5_1 + 1))) else (none)) = some (r1, r2) := by first | (rw [hji24] at H; exact H) | (simp only [hji24] at H ⊢; exact H)
                              by_cases c25 : 0 ≤ (ji24)
                              · rw [if_pos c25] at H
                                have c25b0 := eq_true c25
                                have c25b1 : decide (0 ≤ (ji24)) = true := decide_eq_true c25
                                clear c25
                                obtain ⟨ji26, hji26⟩ : ∃ j_ : Int, (shr .u8 128 (ji24)) = j_ := ⟨_, rfl⟩
                                replace H : (comptoirref01_WriteMap.l0 kj6 l0 (y205.set ((ji21) : Int).toNat (Go.bits .or .u8 (rd y205 (ji21)) (ji26))) (wrap64 (x5_1 + 1))) = some (r1, r2) := by first | (rw [hji26] at H; exact H) | (simp only [hji26] at H ⊢; exact H)
                                have hji26_ : (128 / 2 ^ min (ji24).toNat 8) = ji26 := hji26
                                have hji26z : (ji24) ≤ 8 → (128 / 2 ^ (ji24).toNat) = ji26 := shr_small hji26
                                obtain ⟨y207, hy207⟩ : ∃ y_ : List Int, y_ = (y205.set ((ji21) : Int).toNat (Go.bits .or .u8 (rd y205 (ji21)) (ji26))) := ⟨_, rfl⟩
                                replace H : (comptoirref01_WriteMap.l0 kj6 l0 y207 (wrap64 (x5_1 + 1))) = some (r1, r2) := by first | (rw [hy207]; with_reducible exact H) | (have H2_ := (Option.bind_some _ _).symm.trans H; rw [hy207]; with_reducible exact H2_) | (have H2_ := (Option.bind_some _ _).symm.trans H; with_reducible exact H2_) | with_reducible exact H | (rw [hy207]; exact H) | exact H
                                have Ny207 := Aside0.mk hy207
                                clear hy207
                                have H' := Aside0.mk H
                                clear H
                                obtain ⟨Ao28, co28, eo28⟩ := Kd.R_slice HO_4.out
                                subst eo28
                                go_wp2_with (first | ((with_reducible refine gate_dst (N := 49) rfl ?_); (try (refine gate_guard (by rfl) ?_; dsimp only)); refine Kd.R_lit (Kd.int .u8) _ 5 ?hg (N := 49) ?hd (xs := ([0, 0, 0, 0, 0, 0, 0, 0] : List Int)) (inner := [.int .u8 0, .int .u8 0, .int .u8 0, .int .u8 0, .int .u8 0, .int .u8 0, .int .u8 0, .int .u8 0]) (ok := fun _ => True) (okp := fun _ => True) ?hr ?hp (fun _ hk => hk) trivial (Below.refl _ _) (Nat.le_refl _) (by simp) ?_; (case hd => rfl); (case hg => rfl); (case hr => first | (go_simp; done) | (go_simp; rfl) | (go_simp; simp only [show ∀ l_ : List UInt8, (l_ != []) = !l_.isEmpty from fun l_ => by cases l_ <;> rfl]; done)); (case hp => exact (Reps.one (show Kd.M (Kd.int .u8) _ _ _ 0 [.int .u8 0] from rfl) (Reps.one (show Kd.M (Kd.int .u8) _ _ _ 0 [.int .u8 0] from rfl) (Reps.one (show Kd.M (Kd.int .u8) _ _ _ 0 [.int .u8 0] from rfl) (Reps.one (show Kd.M (Kd.int .u8) _ _ _ 0 [.int .u8 0] from rfl) (Reps.one (show Kd.M (Kd.int .u8) _ _ _ 0 [.int .u8 0] from rfl) (Reps.one (show Kd.M (Kd.int .u8) _ _ _ 0 [.int .u8 0] from rfl) (Reps.one (show Kd.M (Kd.int .u8) _ _ _ 0 [.int .u8 0] from rfl) (Reps.one (show Kd.M (Kd.int .u8) _ _ _ 0 [.int .u8 0] from rfl) (Reps.none _ _)))))))))); intro v199 w29 ho30 hb hg_ hnew_; clear hg_ hnew_; (first | rw [← Ny198.out] at ho30 | (simp only [Int.reduceToNat] at ho30; rw [← Ny198.out] at ho30)); have n0_ := Aside0.mk (Kd.R_elder' (by (with_reducible repeat (first | apply Kd.R_alloc | apply Kd.R_drewN | apply Kd.R_drew)); exact HO_4.out) (Kd.R_base ho30) hb); have n1_ := Aside0.mk (Kd.R_lower (Kd.R_new' ho30 (Kd.R_lt (by (with_reducible repeat (first | apply Kd.R_alloc | apply Kd.R_drewN | apply Kd.R_drew)); exact HO_4.out))) (below_size (by repeat (first | (with_reducible first | exact HB.out | apply below_alloc | apply pw_below_drewN | apply below_drew1) | exact HB.out)))); have n2_ := Aside0.mk (below_step (by repeat (first | (with_reducible first | exact HB.out | apply below_alloc | apply pw_below_drewN | apply below_drew1) | exact HB.out)) hb); clear HO_4; clear HB; have HO_4 := n0_; have HO200 := n1_; have HB := n2_; clear n0_ n1_ n2_; clear hb ho30; obtain ⟨Ao32, co32, eo32⟩ := Kd.R_slice HO200.out; subst eo32) | ((with_reducible refine gate_builtin (b := .append) (xs := #[.tmp 48, .tmp 49]) rfl ?_); (try (refine gate_guard (by rfl) ?_; dsimp only)); at_builtin; refine Kd.R_append_rows (Kd.int .u8) (w0 := w) w.heap.size rfl (.tmp 48) (.tmp 49) 23 5 (.int .u8 0) 1 rfl Try.underlying23 info5 rfl (by decide) (by omega) (.slice Ao28 x4_1.length co28) x4_1 y198 _ _ _ (fun k_ => some k_ ≠ (.slice Ao32 y198.length co32 : Value).ownBlock) (fun _ => False) rfl rfl ?aO ?aR (fun _ _ h => h) (fun _ h => h.elim) ?aF ?aB ?aS ?aL ?_; (case aR => repeat (first | exact (Kd.R_reads' HO200.out).2.2 | (with_reducible refine Kd.C_alloc ?_ _) | (with_reducible refine Kd.C_drewN ?_ _) | (with_reducible refine Kd.C_drew ?_))); (case aB => exact (by repeat (first | (with_reducible first | exact HB.out | apply below_alloc | apply pw_below_drewN | apply below_drew1) | exact HB.out))); (case aF => exact (fun k_ hk => Kd.fresh' (Kd.R_lt (by (with_reducible repeat (first | apply Kd.R_alloc | apply Kd.R_drewN | apply Kd.R_drew)); exact HO200.out)) k_ hk)); (case aO => exact (by (with_reducible repeat (first | apply Kd.R_alloc | apply Kd.R_drewN | apply Kd.R_drew)); exact Kd.R_mono HO_4.out (fun _ hk => hk.2))); (case aS => exact (below_size (by repeat (first | (with_reducible first | exact HB.out | apply below_alloc | apply pw_below_drewN | apply below_drew1) | exact HB.out)))); (case aL => have := LMc18.out; omega); intro v202 w31 ho hb hg hat; rw [← Ny201.out] at ho; have n0_ := Aside0.mk (Kd.R_after (ok := (fun _ => True)) (by (with_reducible repeat (first | apply Kd.R_alloc | apply Kd.R_drewN | apply Kd.R_drew)); exact HO200.out) hg hat); have n1_ := Aside0.mk (hb); have n2_ := Aside0.mk (ho); clear HO200; clear HB; clear HO_4; have HO200 := n0_; have HB := n1_; have HO203 := n2_; clear n0_ n1_ n2_; clear ho hb hg hat; obtain ⟨Ao33, co33, eo33⟩ := Kd.R_slice HO203.out; subst eo33; have p204 : 0 ≤ (0 : Int) := (by omega); have q204 : 0 < (y201.length : Int) := of_decide_eq_true (by first | (with_reducible assumption) | assumption); obtain ⟨ad204, e204, hx204_0⟩ := Kd.at_int (Kd.R_reads' HO203.out).2.2 0 p204 q204; cases e204; have qi204 : (0 < y201.length) = True := eq_true (by omega); (try rw [show ((0 : Int)).toNat = 0 from rfl] at hx204_0); (try rw [Addr.add_zero'] at hx204_0); replace p204 := eq_true p204; replace q204 := eq_true q204; have p20 : 0 ≤ (0 : Int) := (by omega); have q20 : (0 : Int) < ((y201.length : Int) : Int) := of_decide_eq_true (by first | (with_reducible assumption) | assumption); have qi20 : (0 < y201.length) = True := eq_true (by omega); obtain ⟨go20, co20, eo20, gb20, gl20, cl20, HG20⟩ := Kd.R_form HO203.out (by omega); (first | cases eo20 | (injection eo20 with ea_ en_ ec_; (first | subst ea_ | (injection ea_ with ea_; subst ea_)); subst ec_; clear en_)); have GB20 := Aside0.mk gb20; have GG20 := Aside0.mk HG20; clear gb20 gl20 HG20; (first | simp only [add_plain] at hx204_0 | skip); obtain ⟨hx20_0, hf20_0⟩ := Kd.R_celln 0 HO203.out (0 : Int) p20 q20; (try rw [show ((0 : Int)).toNat = 0 from rfl] at hx20_0); (try simp only [Nat.reduceMul, Nat.zero_mul, Nat.zero_add, Nat.reduceAdd] at hx20_0); (try rw [show ((0 : Int)).toNat = 0 from rfl] at hf20_0); (try simp only [Nat.reduceMul, Nat.zero_mul, Nat.zero_add, Nat.reduceAdd] at hf20_0); replace p20 := eq_true p20; replace q20 := eq_true q20; obtain ⟨hy34_, hz34_⟩ := Kd.R_celln 0 HO203.out (0 : Int) (by omega) (of_decide_eq_true (by first | (with_reducible assumption) | assumption)); (try simp only [Int.reduceToNat, Int.toNat_zero, Int.toNat_ofNat, Nat.reduceMul, Nat.zero_mul, Nat.zero_add] at hy34_ hz34_); (try rw [show ((0 : Int)).toNat = 0 from rfl] at hy34_); (try rw [show ((0 : Int)).toNat = 0 from rfl] at hz34_); have HP34 := Kd.R_putg HO203.out (0 : Int) (Go.bits .or .u8 (rd y201 0) 128)) | ((with_reducible refine gate_store (t := 5) (p := 56) rfl ?_); refine store_event (t := 5) (p := 56) (v := ?vo_w35) (w1 := (w31.setCell ⟨go20, (0 : Int).toNat, none⟩ (.int .u8 (Go.bits .or .u8 (rd y201 0) 128)))) ?hg ?ho ?hn ?hr ?_; (case ho => rfl); (case hg => rfl); (case hn => rfl); (case hr => first | (go_simp; done) | (go_simp; rfl) | (go_simp; simp only [show ∀ l_ : List UInt8, (l_ != []) = !l_.isEmpty from fun l_ => by cases l_ <;> rfl]; done)); intro w35 hw; have hg : w31.grownBy w35 (some go20) := (by rw [hw]; exact HP34.2); have hp_ : Kd.R (Kd.int .u8) 5 w35 w.heap.size (fun k_ => some k_ ≠ (.slice Ao32 y198.length co32 : Value).ownBlock) (.slice (some ⟨go20, 0, none⟩) y201.length co33) y205 := (by rw [hw, Ny205.out]; exact HP34.1); clear HP34; have n0_ := Aside0.mk (Kd.R_after (v := (.slice (some ⟨go20, 0, none⟩) y201.length co33)) (v1 := (.slice (some ⟨go20, 0, none⟩) y201.length co33)) (ok := (fun _ => True)) (by (with_reducible repeat (first | apply Kd.R_alloc | apply Kd.R_drewN | apply Kd.R_drew)); exact HO200.out) hg (.inl rfl)); have n1_ := Aside0.mk (hp_); have n2_ := Aside0.mk ((by rw [hw]; exact below_set (HB.out) GB20.out : Below w.heap.size w w35)); clear HO200; clear HO203; clear HB; have HO200 := n0_; have HO203 := n1_; have HB := n2_; clear n0_ n1_ n2_; clear hg hw hp_; have p206 : 0 ≤ ((ji21) : Int) := of_decide_eq_true (by first | (with_reducible assumption) | assumption); have q206 : (ji21) < (y205.length : Int) := (by have h_ : ((ji21) : Int) < ((y201.length : Int) : Int) := of_decide_eq_true (by first | (with_reducible assumption) | assumption); first | (have e_ := (Kd.R_reads' HO203.out).1; omega) | simpa only [Ny205.out, List.length_set] using h_); have ql206 : (((ji21) : Int) < ((y201.length : Int) : Int)) = True := eq_true (of_decide_eq_true (by first | (with_reducible assumption) | assumption)); obtain ⟨ad206, e206, hx206_0⟩ := Kd.at_int (Kd.R_reads' HO203.out).2.2 (ji21) p206 q206; obtain rfl : (⟨go20, 0, none⟩ : Addr) = ad206 := (by injection e206); (first | simp only [add_plain] at hx206_0 | simp only [add_at] at hx206_0 | simp only [Addr.add, Nat.zero_add] at hx206_0 | skip); replace p206 := eq_true p206; replace q206 := eq_true q206; have p27 : 0 ≤ ((ji21) : Int) := of_decide_eq_true (by first | (with_reducible assumption) | assumption); have q27 : ((ji21) : Int) < ((y201.length : Int) : Int) := of_decide_eq_true (by first | (with_reducible assumption) | assumption); obtain ⟨hx27_0, hf27_0⟩ := Kd.R_celln 0 HO203.out ((ji21) : Int) p27 q27; replace p27 := eq_true p27; replace q27 := eq_true q27; obtain ⟨hy36_, hz36_⟩ := Kd.R_celln 0 HO203.out ((ji21) : Int) (of_decide_eq_true (by first | (with_reducible assumption) | assumption)) (of_decide_eq_true (by first | (with_reducible assumption) | assumption)); have HP36 := Kd.R_putg HO203.out ((ji21) : Int) (Go.bits .or .u8 (rd y205 (ji21)) (ji26))) | ((with_reducible refine gate_store (t := 5) (p := 73) rfl ?_); refine store_event (t := 5) (p := 73) (v := ?vo_w37) (w1 := (w35.setCell ⟨go20, ((ji21) : Int).toNat, none⟩ (.int .u8 (Go.bits .or .u8 (rd y205 (ji21)) (ji26))))) ?hg ?ho ?hn ?hr ?_; (case ho => rfl); (case hg => rfl); (case hn => rfl); (case hr => first | (go_simp; done) | (go_simp; rfl) | (go_simp; simp only [show ∀ l_ : List UInt8, (l_ != []) = !l_.isEmpty from fun l_ => by cases l_ <;> rfl]; done)); intro w37 hw; have hg : w35.grownBy w37 (some go20) := (by rw [hw]; exact HP36.2); have hp_ : Kd.R (Kd.int .u8) 5 w37 w.heap.size (fun k_ => some k_ ≠ (.slice Ao32 y198.length co32 : Value).ownBlock) (.slice (some ⟨go20, 0, none⟩) y201.length co33) y207 := (by rw [hw, Ny207.out]; exact HP36.1); clear HP36; have n0_ := Aside0.mk (Kd.R_after (v := (.slice (some ⟨go20, 0, none⟩) y201.length co33)) (v1 := (.slice (some ⟨go20, 0, none⟩) y201.length co33)) (ok := (fun _ => True)) (by (with_reducible repeat (first | apply Kd.R_alloc | apply Kd.R_drewN | apply Kd.R_drew)); exact HO200.out) hg (.inl rfl)); have n1_ := Aside0.mk (hp_); have n2_ := Aside0.mk ((by rw [hw]; exact below_set (HB.out) GB20.out : Below w.heap.size w w37)); clear HO200; clear HO203; clear HB; have HO200 := n0_; have HO203 := n1_; have HB := n2_; clear n0_ n1_ n2_; clear hg hw hp_))
                                go_roundg kj6
                                case measure => have := HK1.out; have := HJ6.out; omega
                                case rel => exact ⟨(y207), (wrap64 (x5_1 + 1)), (by first | rfl | (simp; done) | (simp [*]; done)), H', ⟨by have := HK1.out; have := HJ6.out; omega⟩, ⟨by (with_reducible repeat (first | apply Kd.R_alloc | apply Kd.R_drewN | apply Kd.R_drew)); exact Kd.R_mono HO203.out (fun _ hk => trivial)⟩, ⟨by repeat (first | (with_reducible first | exact HB.out | apply below_alloc | apply pw_below_drewN | apply below_drew1) | exact HB.out)⟩⟩
                              · rw [if_neg c25] at H
                                exact absurd H (by simp)
                            · rw [if_neg c23] at H
                              exact absurd H (by simp)
                          · rw [if_neg c22] at H
                            exact absurd H (by simp)
                        · rw [if_neg c19] at H
                          exact absurd H (by simp)
                      · rw [if_neg c18] at H
                        exact absurd H (by simp)
                    · rw [if_neg c17] at H
                      have c17b0 : ((x4_1.length : Int) == 8) = false := beq_eq_false_iff_ne.mpr c17
                      have c17b1 : ((x4_1.length : Int) != 8) = true := bne_iff_ne.mpr c17
                      obtain ⟨ji38, hji38⟩ : ∃ j_ : Int, (wrap64 (Int.tdiv (wrap64 ((rd l0 x5_1) - 1)) 8)) = j_ := ⟨_, rfl⟩
                      replace H : (if 0 ≤ (ji38) then (if (ji38) < (x4_1.length : Int) then (if 0 ≤ (IntKind.u64.wrap (Int.tmod (wrap64 ((rd l0 x5_1) - 1)) 8)) then (comptoirref01_WriteMap.l0 kj6 l0 (x4_1.set ((ji38) : Int).toNat (Go.bits .or .u8 (rd x4_1 (ji38)) (shr .u8 128 (IntKind.u64.wrap (Int.tmod (wrap64 ((rd l0 x5_1) - 1)) 8))))) (wrap64 (x5_1 + 1))) else (none)) else (none)) else (none)) = some (r1, r2) := by first | (rw [hji38] at H; exact H) | (simp only [hji38] at H ⊢; exact H)
                      have hji38w : (IntKind.i64.wrap (Int.tdiv (wrap64 ((rd l0 x5_1) - 1)) 8)) = ji38 := (i64_w _).trans hji38
                      by_cases c39 : 0 ≤ (ji38)
                      · rw [if_pos c39] at H
                        have c39b0 : decide (0 ≤ (ji38)) = true := decide_eq_true c39
                        clear c39
                        by_cases c40 : (ji38) < (x4_1.length : Int)
                        · rw [if_pos c40] at H
                          have c40b0 : decide ((ji38) < (x4_1.length : Int)) = true := decide_eq_true c40
                          clear c40
                          obtain ⟨ji41, hji41⟩ : ∃ j_ : Int, (IntKind.u64.wrap (Int.tmod (wrap64 ((rd l0 x5_1) - 1)) 8)) = j_ := ⟨_, rfl⟩
                          replace H : (if 0 ≤ (ji41) then (comptoirref01_WriteMap.l0 kj6 l0 (x4_1.set ((ji38) : Int).toNat (Go.bits .or .u8 (rd x4_1 (ji38)) (shr .u8 128 (ji41)))) (wrap64 (x5_1 + 1))) else (none)) = some (r1, r2) := by first | (rw [hji41] at H; exact H) | (simp only [hji41] at H ⊢; exact H)
                          by_cases c42 : 0 ≤ (ji41)
                          · rw [if_pos c42] at H
                            have c42b0 := eq_true c42
                            have c42b1 : decide (0 ≤ (ji41)) = true := decide_eq_true c42
                            clear c42
                            obtain ⟨ji43, hji43⟩ : ∃ j_ : Int, (shr .u8 128 (ji41)) = j_ := ⟨_, rfl⟩
                            replace H : (comptoirref01_WriteMap.l0 kj6 l0 (x4_1.set ((ji38) : Int).toNat (Go.bits .or .u8 (rd x4_1 (ji38)) (ji43))) (wrap64 (x5_1 + 1))) = some (r1, r2) := by first | (rw [hji43] at H; exact H) | (simp only [hji43] at H ⊢; exact H)
                            have hji43_ : (128 / 2 ^ min (ji41).toNat 8) = ji43 := hji43
                            have hji43z : (ji41) ≤ 8 → (128 / 2 ^ (ji41).toNat) = ji43 := shr_small hji43
                            obtain ⟨y209, hy209⟩ : ∃ y_ : List Int, y_ = (x4_1.set ((ji38) : Int).toNat (Go.bits .or .u8 (rd x4_1 (ji38)) (ji43))) := ⟨_, rfl⟩
                            replace H : (comptoirref01_WriteMap.l0 kj6 l0 y209 (wrap64 (x5_1 + 1))) = some (r1, r2) := by first | (rw [hy209]; with_reducible exact H) | (have H2_ := (Option.bind_some _ _).symm.trans H; rw [hy209]; with_reducible exact H2_) | (have H2_ := (Option.bind_some _ _).symm.trans H; with_reducible exact H2_) | with_reducible exact H | (rw [hy209]; exact H) | exact H
                            have Ny209 := Aside0.mk hy209
                            clear hy209
                            have H' := Aside0.mk H
                            clear H
                            obtain ⟨Ao45, co45, eo45⟩ := Kd.R_slice HO_4.out
                            subst eo45
                            have p208 : 0 ≤ ((ji38) : Int) := of_decide_eq_true (by first | (with_reducible assumption) | assumption)
                            have q208 : (ji38) < (x4_1.length : Int) := of_decide_eq_true (by first | (with_reducible assumption) | assumption)
                            obtain ⟨ad208, e208, hx208_0⟩ := Kd.at_int (Kd.R_reads' HO_4.out).2.2 (ji38) p208 q208
                            cases e208
                            replace p208 := eq_true p208
                            replace q208 := eq_true q208
                            have p44 : 0 ≤ ((ji38) : Int) := of_decide_eq_true (by first | (with_reducible assumption) | assumption)
                            have q44 : ((ji38) : Int) < ((x4_1.length : Int) : Int) := of_decide_eq_true (by first | (with_reducible assumption) | assumption)
                            obtain ⟨go44, co44, eo44, gb44, gl44, cl44, HG44⟩ := Kd.R_form HO_4.out (by omega)
                            (first | cases eo44 | (injection eo44 with ea_ en_ ec_; (first | subst ea_ | (injection ea_ with ea_; subst ea_)); subst ec_; clear en_))
                            have GB44 := Aside0.mk gb44
                            have GG44 := Aside0.mk HG44
                            clear gb44 gl44 HG44
                            (first | simp only [add_plain] at hx208_0 | skip)
                            obtain ⟨hx44_0, hf44_0⟩ := Kd.R_celln 0 HO_4.out ((ji38) : Int) p44 q44
                            replace p44 := eq_true p44
                            replace q44 := eq_true q44
                            have HP46 := Kd.R_putg HO_4.out ((ji38) : Int) (Go.bits .or .u8 (rd x4_1 (ji38)) (ji43))
                            go_wp2_with (first | ((with_reducible refine gate_store (t := 5) (p := 73) rfl ?_); refine store_event (t := 5) (p := 73) (v := ?vo_w47) (w1 := (wc.setCell ⟨go44, ((ji38) : Int).toNat, none⟩ (.int .u8 (Go.bits .or .u8 (rd x4_1 (ji38)) (ji43))))) ?hg ?ho ?hn ?hr ?_; (case ho => rfl); (case hg => rfl); (case hn => rfl); (case hr => first | (go_simp; done) | (go_simp; rfl) | (go_simp; simp only [show ∀ l_ : List UInt8, (l_ != []) = !l_.isEmpty from fun l_ => by cases l_ <;> rfl]; done)); intro w47 hw; have hg : wc.grownBy w47 (some go44) := (by rw [hw]; exact HP46.2); have hp_ : Kd.R (Kd.int .u8) 5 w47 w.heap.size (fun _ => True) (.slice (some ⟨go44, 0, none⟩) x4_1.length co45) y209 := (by rw [hw, Ny209.out]; exact HP46.1); clear HP46; have n0_ := Aside0.mk (hp_); have n1_ := Aside0.mk ((by rw [hw]; exact below_set (HB.out) GB44.out : Below w.heap.size w w47)); clear HO_4; clear HB; have HO_4 := n0_; have HB := n1_; clear n0_ n1_; clear hg hw hp_))
                            go_roundg kj6
                            case measure => have := HK1.out; have := HJ6.out; omega
                            case rel => exact ⟨(y209), (wrap64 (x5_1 + 1)), (by first | rfl | (simp; done) | (simp [*]; done)), H', ⟨by have := HK1.out; have := HJ6.out; omega⟩, ⟨by (with_reducible repeat (first | apply Kd.R_alloc | apply Kd.R_drewN | apply Kd.R_drew)); exact HO_4.out⟩, ⟨by repeat (first | (with_reducible first | exact HB.out | apply below_alloc | apply pw_below_drewN | apply below_drew1) | exact HB.out)⟩⟩
                          · rw [if_neg c42] at H
                            exact absurd H (by simp)
                        · rw [if_neg c40] at H
                          exact absurd H (by simp)
                      · rw [if_neg c39] at H
                        exact absurd H (by simp)
                  · rw [if_neg c16] at H
                    have c16b0 : decide (64 < (rd l0 x5_1)) = false := decide_eq_false c16
                    clear c16
                    obtain ⟨ji48, hji48⟩ : ∃ j_ : Int, (wrap64 (Int.tdiv (wrap64 ((rd l0 x5_1) - 1)) 8)) = j_ := ⟨_, rfl⟩
                    replace H : (if 0 ≤ (ji48) then (if (ji48) < (x4_1.length : Int) then (if 0 ≤ (IntKind.u64.wrap (Int.tmod (wrap64 ((rd l0 x5_1) - 1)) 8)) then (comptoirref01_WriteMap.l0 kj6 l0 (x4_1.set ((ji48) : Int).toNat (Go.bits .or .u8 (rd x4_1 (ji48)) (shr .u8 128 (IntKind.u64.wrap (Int.tmod (wrap64 ((rd l0 x5_1) - 1)) 8))))) (wrap64 (x5_1 + 1))) else (none)) else (none)) else (none)) = some (r1, r2) := by first | (rw [hji48] at H; exact H) | (simp only [hji48] at H ⊢; exact H)
                    have hji48w : (IntKind.i64.wrap (Int.tdiv (wrap64 ((rd l0 x5_1) - 1)) 8)) = ji48 := (i64_w _).trans hji48
                    by_cases c49 : 0 ≤ (ji48)
                    · rw [if_pos c49] at H
                      have c49b0 : decide (0 ≤ (ji48)) = true := decide_eq_true c49
                      clear c49
                      by_cases c50 : (ji48) < (x4_1.length : Int)
                      · rw [if_pos c50] at H
                        have c50b0 : decide ((ji48) < (x4_1.length : Int)) = true := decide_eq_true c50
                        clear c50
                        obtain ⟨ji51, hji51⟩ : ∃ j_ : Int, (IntKind.u64.wrap (Int.tmod (wrap64 ((rd l0 x5_1) - 1)) 8)) = j_ := ⟨_, rfl⟩
                        replace H : (if 0 ≤ (ji51) then (comptoirref01_WriteMap.l0 kj6 l0 (x4_1.set ((ji48) : Int).toNat (Go.bits .or .u8 (rd x4_1 (ji48)) (shr .u8 128 (ji51)))) (wrap64 (x5_1 + 1))) else (none)) = some (r1, r2) := by first | (rw [hji51] at H; exact H) | (simp only [hji51] at H ⊢; exact H)
                        by_cases c52 : 0 ≤ (ji51)
                        · rw [if_pos c52] at H
                          have c52b0 := eq_true c52
                          have c52b1 : decide (0 ≤ (ji51)) = true := decide_eq_true c52
                          clear c52
                          obtain ⟨ji53, hji53⟩ : ∃ j_ : Int, (shr .u8 128 (ji51)) = j_ := ⟨_, rfl⟩
                          replace H : (comptoirref01_WriteMap.l0 kj6 l0 (x4_1.set ((ji48) : Int).toNat (Go.bits .or .u8 (rd x4_1 (ji48)) (ji53))) (wrap64 (x5_1 + 1))) = some (r1, r2) := by first | (rw [hji53] at H; exact H) | (simp only [hji53] at H ⊢; exact H)
                          have hji53_ : (128 / 2 ^ min (ji51).toNat 8) = ji53 := hji53
                          have hji53z : (ji51) ≤ 8 → (128 / 2 ^ (ji51).toNat) = ji53 := shr_small hji53
                          obtain ⟨y211, hy211⟩ : ∃ y_ : List Int, y_ = (x4_1.set ((ji48) : Int).toNat (Go.bits .or .u8 (rd x4_1 (ji48)) (ji53))) := ⟨_, rfl⟩
                          replace H : (comptoirref01_WriteMap.l0 kj6 l0 y211 (wrap64 (x5_1 + 1))) = some (r1, r2) := by first | (rw [hy211]; with_reducible exact H) | (have H2_ := (Option.bind_some _ _).symm.trans H; rw [hy211]; with_reducible exact H2_) | (have H2_ := (Option.bind_some _ _).symm.trans H; with_reducible exact H2_) | with_reducible exact H | (rw [hy211]; exact H) | exact H
                          have Ny211 := Aside0.mk hy211
                          clear hy211
                          have H' := Aside0.mk H
                          clear H
                          obtain ⟨Ao55, co55, eo55⟩ := Kd.R_slice HO_4.out
                          subst eo55
                          have p210 : 0 ≤ ((ji48) : Int) := of_decide_eq_true (by first | (with_reducible assumption) | assumption)
                          have q210 : (ji48) < (x4_1.length : Int) := of_decide_eq_true (by first | (with_reducible assumption) | assumption)
                          obtain ⟨ad210, e210, hx210_0⟩ := Kd.at_int (Kd.R_reads' HO_4.out).2.2 (ji48) p210 q210
                          cases e210
                          replace p210 := eq_true p210
                          replace q210 := eq_true q210
                          have p54 : 0 ≤ ((ji48) : Int) := of_decide_eq_true (by first | (with_reducible assumption) | assumption)
                          have q54 : ((ji48) : Int) < ((x4_1.length : Int) : Int) := of_decide_eq_true (by first | (with_reducible assumption) | assumption)
                          obtain ⟨go54, co54, eo54, gb54, gl54, cl54, HG54⟩ := Kd.R_form HO_4.out (by omega)
                          (first | cases eo54 | (injection eo54 with ea_ en_ ec_; (first | subst ea_ | (injection ea_ with ea_; subst ea_)); subst ec_; clear en_))
                          have GB54 := Aside0.mk gb54
                          have GG54 := Aside0.mk HG54
                          clear gb54 gl54 HG54
                          (first | simp only [add_plain] at hx210_0 | skip)
                          obtain ⟨hx54_0, hf54_0⟩ := Kd.R_celln 0 HO_4.out ((ji48) : Int) p54 q54
                          replace p54 := eq_true p54
                          replace q54 := eq_true q54
                          have HP56 := Kd.R_putg HO_4.out ((ji48) : Int) (Go.bits .or .u8 (rd x4_1 (ji48)) (ji53))
                          go_wp2_with (first | ((with_reducible refine gate_store (t := 5) (p := 73) rfl ?_); refine store_event (t := 5) (p := 73) (v := ?vo_w57) (w1 := (wc.setCell ⟨go54, ((ji48) : Int).toNat, none⟩ (.int .u8 (Go.bits .or .u8 (rd x4_1 (ji48)) (ji53))))) ?hg ?ho ?hn ?hr ?_; (case ho => rfl); (case hg => rfl); (case hn => rfl); (case hr => first | (go_simp; done) | (go_simp; rfl) | (go_simp; simp only [show ∀ l_ : List UInt8, (l_ != []) = !l_.isEmpty from fun l_ => by cases l_ <;> rfl]; done)); intro w57 hw; have hg : wc.grownBy w57 (some go54) := (by rw [hw]; exact HP56.2); have hp_ : Kd.R (Kd.int .u8) 5 w57 w.heap.size (fun _ => True) (.slice (some ⟨go54, 0, none⟩) x4_1.length co55) y211 := (by rw [hw, Ny211.out]; exact HP56.1); clear HP56; have n0_ := Aside0.mk (hp_); have n1_ := Aside0.mk ((by rw [hw]; exact below_set (HB.out) GB54.out : Below w.heap.size w w57)); clear HO_4; clear HB; have HO_4 := n0_; have HB := n1_; clear n0_ n1_; clear hg hw hp_))
                          go_roundg kj6
                          case measure => have := HK1.out; have := HJ6.out; omega
                          case rel => exact ⟨(y211), (wrap64 (x5_1 + 1)), (by first | rfl | (simp; done) | (simp [*]; done)), H', ⟨by have := HK1.out; have := HJ6.out; omega⟩, ⟨by (with_reducible repeat (first | apply Kd.R_alloc | apply Kd.R_drewN | apply Kd.R_drew)); exact HO_4.out⟩, ⟨by repeat (first | (with_reducible first | exact HB.out | apply below_alloc | apply pw_below_drewN | apply below_drew1) | exact HB.out)⟩⟩
                        · rw [if_neg c52] at H
                          exact absurd H (by simp)
                      · rw [if_neg c50] at H
                        exact absurd H (by simp)
                    · rw [if_neg c49] at H
                      exact absurd H (by simp)
          · rw [if_neg c6] at H
            exact absurd H (by simp)
        · rw [if_neg c5] at H
          have c5b0 : decide (x5_1 < (l0.length : Int)) = false := decide_eq_false c5
          clear c5
          simp only [Option.some.injEq, Prod.mk.injEq] at H
          obtain ⟨rfl, rfl⟩ := H
          go_wp2
          go_ret2
          exact ⟨_, by first | rfl | (simp [errW_none, errW_some] <;> rfl) | (simp [*, errW_none, errW_some] <;> rfl), by (with_reducible repeat (first | apply Kd.R_alloc | apply Kd.R_drewN | apply Kd.R_drew)); exact HO_4.out, by repeat (first | (with_reducible first | exact HB.out | apply below_alloc | apply pw_below_drewN | apply below_drew1) | exact HB.out)⟩
  · rw [if_neg c2] at H
    exact absurd H (by simp)

/-! ### comptoirhelp_In_int: function 24 -/
def comptoirhelp_In_int.l0 : Nat → List Int → Int → Int → Option (Bool)
  | 0, _, _, _ => none
  | k + 1, x0, x1, x5 => if x5 < (x0.length : Int) then (if 0 ≤ x5 then (if (rd x0 x5) = x1 then (some true) else (comptoirhelp_In_int.l0 k x0 x1 (wrap64 (x5 + 1)))) else (none)) else (some false)
def comptoirhelp_In_int.f (k : Nat) (l0 : List Int) (a1 : Int) : Option (Bool) := comptoirhelp_In_int.l0 k l0 a1 0
theorem comptoirhelp_In_int.mono_l : ∀ k, (∀ y0 y1 y2, LeO (comptoirhelp_In_int.l0 k y0 y1 y2) (comptoirhelp_In_int.l0 (k + 1) y0 y1 y2))
  | 0 => fun _ _ _ r h => by simp [comptoirhelp_In_int.l0] at h
  | k + 1 => by
    have ih0 := comptoirhelp_In_int.mono_l k
    · intro y0 y1 y2
      unfold comptoirhelp_In_int.l0
      repeat' first
      | (with_reducible exact ih0 _ _ _)
      | (with_reducible exact LeO.refl _)
      | (with_reducible exact LeO.none _)
      | (with_reducible refine LeO.ite ?_ ?_)
      | (with_reducible refine LeO.bind ?_ (fun _ => ?_))
      | exact ih0 _ _ _
      | exact LeO.none _
      | refine LeO.ite ?_ ?_
      | refine LeO.bind ?_ (fun _ => ?_)
theorem comptoirhelp_In_int.mono : ∀ a0 a1 k, LeO (comptoirhelp_In_int.f k a0 a1) (comptoirhelp_In_int.f (k + 1) a0 a1) := by
  intro a0 a1 k
  have ih0 := comptoirhelp_In_int.mono_l k
  unfold comptoirhelp_In_int.f
  repeat' first
      | (with_reducible exact ih0 _ _ _)
      | (with_reducible exact LeO.refl _)
      | (with_reducible exact LeO.none _)
      | (with_reducible refine LeO.ite ?_ ?_)
      | (with_reducible refine LeO.bind ?_ (fun _ => ?_))
      | exact ih0 _ _ _
      | exact LeO.none _
      | refine LeO.ite ?_ ?_
      | refine LeO.bind ?_ (fun _ => ?_)
set_option maxHeartbeats 8000000 in
set_option maxRecDepth 100000 in
theorem comptoirhelp_In_int.calls (k : Nat) (A0 : Option Addr) (c0 : Nat) (l0 : List Int) (a1 : Int) (r : Bool) (w : World) (hr0 : Kd.C (Kd.int .i64) w A0 l0.length l0) (hc0 : l0.length ≤ c0) (h : comptoirhelp_In_int.f k l0 a1 = some r) :
    Calls Try.prog 24 #[.slice A0 l0.length c0, .int .i64 a1] w fun e w' => e = .returned (.bool r) ∧ Drawn0 w w' := by
  have HR0 := Aside0.mk hr0
  have HC0 := Aside0.mk hc0
  clear hr0 hc0
  have H : (comptoirhelp_In_int.l0 k l0 a1 0) = some r := h
  clear h
  have H' := Aside0.mk H
  clear H
  go_enter Try.func24, Try.ntmps24
  go_wp2
  go_loopg [5] k (fun kq v5 w' => ∃ (x5_1 : Int), v5 = .int .i64 x5_1 ∧ Aside0 (comptoirhelp_In_int.l0 kq l0 a1 x5_1 = some r) ∧ Aside0 (kq ≤ k) ∧ Drawn0 w w')
  case atStart => exact ⟨(0), (by first | rfl | (simp; done) | (simp [*]; done)), H', ⟨Nat.le_refl _⟩, by repeat (first | exact Drawn0.refl _ | apply Drawn0.step)⟩
  case round =>
    clear H'
    try clear c2
    try clear p2
    obtain ⟨x5_1, rfl, HA, HK1, ⟨m1, rfl⟩⟩ := hrel
    cases gk with
    | zero => exact absurd HA.out (by simp [comptoirhelp_In_int.l0])
    | succ k1 =>
      have H := HA.out
      clear HA
      simp only [comptoirhelp_In_int.l0] at H
      by_cases c3 : x5_1 < (l0.length : Int)
      · rw [if_pos c3] at H
        have c3b0 : decide (x5_1 < (l0.length : Int)) = true := decide_eq_true c3
        clear c3
        by_cases c4 : 0 ≤ x5_1
        · rw [if_pos c4] at H
          have c4b0 : decide (0 ≤ x5_1) = true := decide_eq_true c4
          clear c4
          by_cases c5 : (rd l0 x5_1) = a1
          · rw [if_pos c5] at H
            have c5b0 : ((rd l0 x5_1) == a1) = true := beq_iff_eq.mpr c5
            have c5b1 : ((rd l0 x5_1) != a1) = false := bne_eq_false_iff_eq.mpr c5
            clear c5
            obtain rfl := Option.some.inj H
            simp only [Option.some.injEq, Prod.mk.injEq] at H
            obtain ⟨rfl⟩ := H
            have p212 : 0 ≤ (x5_1 : Int) := of_decide_eq_true (by first | (with_reducible assumption) | assumption)
            have q212 : x5_1 < (l0.length : Int) := of_decide_eq_true (by first | (with_reducible assumption) | assumption)
            obtain ⟨ad212, e212, hx212_0⟩ := Kd.at_int HR0.out x5_1 p212 q212
            cases e212
            replace p212 := eq_true p212
            replace q212 := eq_true q212
            go_wp2
            go_ret
            exact ⟨by first | rfl | (simp; done) | (simp [*]; done), by repeat (first | exact Drawn0.refl _ | apply Drawn0.step)⟩
          · rw [if_neg c5] at H
            have c5b0 : ((rd l0 x5_1) == a1) = false := beq_eq_false_iff_ne.mpr c5
            have c5b1 : ((rd l0 x5_1) != a1) = true := bne_iff_ne.mpr c5
            have H' := Aside0.mk H
            clear H
            have p212 : 0 ≤ (x5_1 : Int) := of_decide_eq_true (by first | (with_reducible assumption) | assumption)
            have q212 : x5_1 < (l0.length : Int) := of_decide_eq_true (by first | (with_reducible assumption) | assumption)
            obtain ⟨ad212, e212, hx212_0⟩ := Kd.at_int HR0.out x5_1 p212 q212
            cases e212
            replace p212 := eq_true p212
            replace q212 := eq_true q212
            go_wp2
            go_roundg k1
            case measure => have := HK1.out; omega
            case rel => exact ⟨(wrap64 (x5_1 + 1)), (by first | rfl | (simp; done) | (simp [*]; done)), H', ⟨by have := HK1.out; omega⟩, by repeat (first | exact Drawn0.refl _ | apply Drawn0.step)⟩
        · rw [if_neg c4] at H
          exact absurd H (by simp)
      · rw [if_neg c3] at H
        have c3b0 : decide (x5_1 < (l0.length : Int)) = false := decide_eq_false c3
        clear c3
        obtain rfl := Option.some.inj H
        simp only [Option.some.injEq, Prod.mk.injEq] at H
        obtain ⟨rfl⟩ := H
        go_wp2
        go_ret
        exact ⟨by first | rfl | (simp; done) | (simp [*]; done), by repeat (first | exact Drawn0.refl _ | apply Drawn0.step)⟩

end Go.Proofs.Ytfjfmlajnamlpaa.MB
