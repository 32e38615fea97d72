-- laid by wip/tools/mixprint.py over the kit's print (functions of function values by hand)
import Derived.Test.YthdjodamdakjbaaMKx0
import Derived.Test.YthdjodamdakjbaaMKx1
namespace Go.Proofs.Ythdjodamdakjbaa.MK
open Go.RowKit Go.Proofs.YthdjodamdakjbaaW.PrintWords Go.Proofs.YthdjodamdakjbaaW.PrintLast Go.Proofs.YthdjodamdakjbaaW.PrintMore
attribute [local go_sem] max2_int min2_int max_two min_two max_three min_three max_four min_four   -- for this text's walks alone
set_option linter.unusedVariables false
set_option linter.unusedSimpArgs false

/-! ### comptoirref07_Fits: function 15 -/
mutual
def comptoirref07_Fits.l0 : Nat → ByteArray → Int → Int → Int → ByteArray → ByteArray → ByteArray → ByteArray → Int → ByteArray → ByteArray → ByteArray → ByteArray → Int → ByteArray → ByteArray → Int → ByteArray → List (S51) → ByteArray → ByteArray → List (S53) → List (S55) → ByteArray → ByteArray → ByteArray → ByteArray → Option (Int)
  | 0, _, _, _, _, _, _, _, _, _, _, _, _, _, _, _, _, _, _, _, _, _, _, _, _, _, _, _ => none
  | k + 1, x4, x5, x144000, x144001, x144002, x144003, x144004, x144005, x144006, x144007, x144008, x144009, x144010, x144011, x144012, x144013, x144014, x144015, x144016, x144017, x144018, x144019, x144020, x149000, x149001, x149002, x149003 => if x5 < (x149002.size : Int) then (if 0 ≤ x5 then ((comptoirref07_letter.f k x4 (bt x149002 x5)).bind fun t150 => (if t150 = true then (comptoirref07_Fits.l0 k x4 (wrap64 (x5 + 1)) x144000 x144001 x144002 x144003 x144004 x144005 x144006 x144007 x144008 x144009 x144010 x144011 x144012 x144013 x144014 x144015 x144016 x144017 x144018 x144019 x144020 x149000 x149001 x149002 x149003) else (some 19))) else (none)) else (comptoirref07_Fits.l1 k x4 0 x144000 x144001 x144002 x144003 x144004 x144005 x144006 x144007 x144008 x144009 x144010 x144011 x144012 x144013 x144014 x144015 x144016 x144017 x144018 x144019 x144020 x149000 x149001 x149002 x149003)
def comptoirref07_Fits.l1 : Nat → ByteArray → Int → Int → Int → ByteArray → ByteArray → ByteArray → ByteArray → Int → ByteArray → ByteArray → ByteArray → ByteArray → Int → ByteArray → ByteArray → Int → ByteArray → List (S51) → ByteArray → ByteArray → List (S53) → List (S55) → ByteArray → ByteArray → ByteArray → ByteArray → Option (Int)
  | 0, _, _, _, _, _, _, _, _, _, _, _, _, _, _, _, _, _, _, _, _, _, _, _, _, _, _, _ => none
  | k + 1, x4, x6, x144000, x144001, x144002, x144003, x144004, x144005, x144006, x144007, x144008, x144009, x144010, x144011, x144012, x144013, x144014, x144015, x144016, x144017, x144018, x144019, x144020, x149000, x149001, x149002, x149003 => if x6 < (x4.size : Int) then (if x149002.size + x149003.size ≤ 9223372036854775807 then (if 0 ≤ x6 then ((comptoirref07_letter.f k (x149002 ++ x149003) (bt x4 x6)).bind fun t151 => (if t151 = true then (comptoirref07_Fits.l1 k x4 (wrap64 (x6 + 1)) x144000 x144001 x144002 x144003 x144004 x144005 x144006 x144007 x144008 x144009 x144010 x144011 x144012 x144013 x144014 x144015 x144016 x144017 x144018 x144019 x144020 x149000 x149001 x149002 x149003) else (some 19))) else (none)) else (none)) else (if x144005.toList = ([] : List UInt8) then (if x144006 = 0 then (if x144015.toList = ([] : List UInt8) then (if x144014 = 0 then (some 0) else (some 19)) else (some 0)) else (some 19)) else (if x144015.toList = ([] : List UInt8) then (if x144014 = 0 then (some 0) else (some 19)) else (some 0)))
end
def comptoirref07_Fits.f (k : Nat) (a0_0 : Int) (a0_1 : Int) (a0_2 : ByteArray) (a0_3 : ByteArray) (a0_4 : ByteArray) (a0_5 : ByteArray) (a0_6 : Int) (a0_7 : ByteArray) (a0_8 : ByteArray) (a0_9 : ByteArray) (a0_10 : ByteArray) (a0_11 : Int) (a0_12 : ByteArray) (a0_13 : ByteArray) (a0_14 : Int) (a0_15 : ByteArray) (l0_16 : List (S51)) (a0_17 : ByteArray) (a0_18 : ByteArray) (l0_19 : List (S53)) (l0_20 : List (S55)) : Option (Int) := (comptoirref07_row.f a0_0).bind fun bt144 => (if bt144.1.toList = ([] : List UInt8) then (some 15) else ((comptoirref07_has.f k a0_0 a0_1 a0_2 a0_3 a0_4 a0_5 a0_6 a0_7 a0_8 a0_9 a0_10 a0_11 a0_12 a0_13 a0_14 a0_15 l0_16 a0_17 a0_18 l0_19 l0_20).bind fun t149 => (comptoirref07_Fits.l0 k t149 0 a0_0 a0_1 a0_2 a0_3 a0_4 a0_5 a0_6 a0_7 a0_8 a0_9 a0_10 a0_11 a0_12 a0_13 a0_14 a0_15 l0_16 a0_17 a0_18 l0_19 l0_20 bt144.1 bt144.2.1 bt144.2.2.1 bt144.2.2.2)))
theorem comptoirref07_Fits.mono_l : ∀ k, (∀ y0 y1 y2 y3 y4 y5 y6 y7 y8 y9 y10 y11 y12 y13 y14 y15 y16 y17 y18 y19 y20 y21 y22 y23 y24 y25 y26, LeO (comptoirref07_Fits.l0 k y0 y1 y2 y3 y4 y5 y6 y7 y8 y9 y10 y11 y12 y13 y14 y15 y16 y17 y18 y19 y20 y21 y22 y23 y24 y25 y26) (comptoirref07_Fits.l0 (k + 1) y0 y1 y2 y3 y4 y5 y6 y7 y8 y9 y10 y11 y12 y13 y14 y15 y16 y17 y18 y19 y20 y21 y22 y23 y24 y25 y26)) ∧ (∀ y0 y1 y2 y3 y4 y5 y6 y7 y8 y9 y10 y11 y12 y13 y14 y15 y16 y17 y18 y19 y20 y21 y22 y23 y24 y25 y26, LeO (comptoirref07_Fits.l1 k y0 y1 y2 y3 y4 y5 y6 y7 y8 y9 y10 y11 y12 y13 y14 y15 y16 y17 y18 y19 y20 y21 y22 y23 y24 y25 y26) (comptoirref07_Fits.l1 (k + 1) y0 y1 y2 y3 y4 y5 y6 y7 y8 y9 y10 y11 y12 y13 y14 y15 y16 y17 y18 y19 y20 y21 y22 y23 y24 y25 y26))
  | 0 => ⟨fun _ _ _ _ _ _ _ _ _ _ _ _ _ _ _ _ _ _ _ _ _ _ _ _ _ _ _ r h => by simp [comptoirref07_Fits.l0] at h, fun _ _ _ _ _ _ _ _ _ _ _ _ _ _ _ _ _ _ _ _ _ _ _ _ _ _ _ r h => by simp [comptoirref07_Fits.l1] at h⟩
  | k + 1 => by
    obtain ⟨ih0, ih1⟩ := comptoirref07_Fits.mono_l k
    refine ⟨?_, ?_⟩
    · intro y0 y1 y2 y3 y4 y5 y6 y7 y8 y9 y10 y11 y12 y13 y14 y15 y16 y17 y18 y19 y20 y21 y22 y23 y24 y25 y26
      unfold comptoirref07_Fits.l0
      repeat' first
      | (with_reducible exact ih0 _ _ _ _ _ _ _ _ _ _ _ _ _ _ _ _ _ _ _ _ _ _ _ _ _ _ _)
      | (with_reducible exact ih1 _ _ _ _ _ _ _ _ _ _ _ _ _ _ _ _ _ _ _ _ _ _ _ _ _ _ _)
      | (with_reducible exact comptoirref07_has.mono _ _ _ _ _ _ _ _ _ _ _ _ _ _ _ _ _ _ _ _ _ _)
      | (with_reducible exact comptoirref07_letter.mono _ _ _)
      | (with_reducible exact LeO.refl _)
      | (with_reducible exact LeO.none _)
      | (with_reducible refine LeO.ite ?_ ?_)
      | (with_reducible refine LeO.bind ?_ (fun _ => ?_))
      | exact ih0 _ _ _ _ _ _ _ _ _ _ _ _ _ _ _ _ _ _ _ _ _ _ _ _ _ _ _
      | exact ih1 _ _ _ _ _ _ _ _ _ _ _ _ _ _ _ _ _ _ _ _ _ _ _ _ _ _ _
      | exact comptoirref07_has.mono _ _ _ _ _ _ _ _ _ _ _ _ _ _ _ _ _ _ _ _ _ _
      | exact comptoirref07_letter.mono _ _ _
      | exact LeO.none _
      | refine LeO.ite ?_ ?_
      | refine LeO.bind ?_ (fun _ => ?_)
    · intro y0 y1 y2 y3 y4 y5 y6 y7 y8 y9 y10 y11 y12 y13 y14 y15 y16 y17 y18 y19 y20 y21 y22 y23 y24 y25 y26
      unfold comptoirref07_Fits.l1
      repeat' first
      | (with_reducible exact ih0 _ _ _ _ _ _ _ _ _ _ _ _ _ _ _ _ _ _ _ _ _ _ _ _ _ _ _)
      | (with_reducible exact ih1 _ _ _ _ _ _ _ _ _ _ _ _ _ _ _ _ _ _ _ _ _ _ _ _ _ _ _)
      | (with_reducible exact comptoirref07_has.mono _ _ _ _ _ _ _ _ _ _ _ _ _ _ _ _ _ _ _ _ _ _)
      | (with_reducible exact comptoirref07_letter.mono _ _ _)
      | (with_reducible exact LeO.refl _)
      | (with_reducible exact LeO.none _)
      | (with_reducible refine LeO.ite ?_ ?_)
      | (with_reducible refine LeO.bind ?_ (fun _ => ?_))
      | exact ih0 _ _ _ _ _ _ _ _ _ _ _ _ _ _ _ _ _ _ _ _ _ _ _ _ _ _ _
      | exact ih1 _ _ _ _ _ _ _ _ _ _ _ _ _ _ _ _ _ _ _ _ _ _ _ _ _ _ _
      | exact comptoirref07_has.mono _ _ _ _ _ _ _ _ _ _ _ _ _ _ _ _ _ _ _ _ _ _
      | exact comptoirref07_letter.mono _ _ _
      | exact LeO.none _
      | refine LeO.ite ?_ ?_
      | refine LeO.bind ?_ (fun _ => ?_)
theorem comptoirref07_Fits.mono : ∀ a0 a1 a2 a3 a4 a5 a6 a7 a8 a9 a10 a11 a12 a13 a14 a15 a16 a17 a18 a19 a20 k, LeO (comptoirref07_Fits.f k a0 a1 a2 a3 a4 a5 a6 a7 a8 a9 a10 a11 a12 a13 a14 a15 a16 a17 a18 a19 a20) (comptoirref07_Fits.f (k + 1) a0 a1 a2 a3 a4 a5 a6 a7 a8 a9 a10 a11 a12 a13 a14 a15 a16 a17 a18 a19 a20) := by
  intro a0 a1 a2 a3 a4 a5 a6 a7 a8 a9 a10 a11 a12 a13 a14 a15 a16 a17 a18 a19 a20 k
  obtain ⟨ih0, ih1⟩ := comptoirref07_Fits.mono_l k
  unfold comptoirref07_Fits.f
  repeat' first
      | (with_reducible exact ih0 _ _ _ _ _ _ _ _ _ _ _ _ _ _ _ _ _ _ _ _ _ _ _ _ _ _ _)
      | (with_reducible exact ih1 _ _ _ _ _ _ _ _ _ _ _ _ _ _ _ _ _ _ _ _ _ _ _ _ _ _ _)
      | (with_reducible exact comptoirref07_has.mono _ _ _ _ _ _ _ _ _ _ _ _ _ _ _ _ _ _ _ _ _ _)
      | (with_reducible exact comptoirref07_letter.mono _ _ _)
      | (with_reducible exact LeO.refl _)
      | (with_reducible exact LeO.none _)
      | (with_reducible refine LeO.ite ?_ ?_)
      | (with_reducible refine LeO.bind ?_ (fun _ => ?_))
      | exact ih0 _ _ _ _ _ _ _ _ _ _ _ _ _ _ _ _ _ _ _ _ _ _ _ _ _ _ _
      | exact ih1 _ _ _ _ _ _ _ _ _ _ _ _ _ _ _ _ _ _ _ _ _ _ _ _ _ _ _
      | exact comptoirref07_has.mono _ _ _ _ _ _ _ _ _ _ _ _ _ _ _ _ _ _ _ _ _ _
      | exact comptoirref07_letter.mono _ _ _
      | exact LeO.none _
      | refine LeO.ite ?_ ?_
      | refine LeO.bind ?_ (fun _ => ?_)
set_option maxHeartbeats 8000000 in
set_option maxRecDepth 100000 in
theorem comptoirref07_Fits.calls (k : Nat) (a0_0 : Int) (a0_1 : Int) (a0_2 : ByteArray) (a0_3 : ByteArray) (a0_4 : ByteArray) (a0_5 : ByteArray) (a0_6 : Int) (a0_7 : ByteArray) (a0_8 : ByteArray) (a0_9 : ByteArray) (a0_10 : ByteArray) (a0_11 : Int) (a0_12 : ByteArray) (a0_13 : ByteArray) (a0_14 : Int) (a0_15 : ByteArray) (A0_16 : Option Addr) (c0_16 : Nat) (l0_16 : List (S51)) (a0_17 : ByteArray) (a0_18 : ByteArray) (A0_19 : Option Addr) (c0_19 : Nat) (l0_19 : List (S53)) (A0_20 : Option Addr) (c0_20 : Nat) (l0_20 : List (S55)) (r : Int) (w : World) (hr0_16 : Kd.C k51 w A0_16 l0_16.length l0_16) (hc0_16 : l0_16.length ≤ c0_16) (hr0_19 : Kd.C k53 w A0_19 l0_19.length l0_19) (hc0_19 : l0_19.length ≤ c0_19) (hr0_20 : Kd.C k55 w A0_20 l0_20.length l0_20) (hc0_20 : l0_20.length ≤ c0_20) (h : comptoirref07_Fits.f k a0_0 a0_1 a0_2 a0_3 a0_4 a0_5 a0_6 a0_7 a0_8 a0_9 a0_10 a0_11 a0_12 a0_13 a0_14 a0_15 l0_16 a0_17 a0_18 l0_19 l0_20 = some r) :
    Calls Try.prog 15 #[.agg #[.int .i64 a0_0, .int .i64 a0_1, .string a0_2, .string a0_3, .string a0_4, .string a0_5, .int .u64 a0_6, .string a0_7, .string a0_8, .string a0_9, .string a0_10, .int .i64 a0_11, .string a0_12, .string a0_13, .int .i64 a0_14, .string a0_15, .slice A0_16 l0_16.length c0_16, .string a0_17, .string a0_18, .slice A0_19 l0_19.length c0_19, .slice A0_20 l0_20.length c0_20]] w fun e w' => e = .returned (.int .i64 r) ∧ Below w.heap.size w w' := by
  have hu29 := Try.underlying29
  have hu37 := Try.underlying37
  have hu24 := Try.underlying24
  have HR0_16 := Aside0.mk hr0_16
  have HC0_16 := Aside0.mk hc0_16
  clear hr0_16 hc0_16
  have HR0_19 := Aside0.mk hr0_19
  have HC0_19 := Aside0.mk hc0_19
  clear hr0_19 hc0_19
  have HR0_20 := Aside0.mk hr0_20
  have HC0_20 := Aside0.mk hc0_20
  clear hr0_20 hc0_20
  have HB := Aside0.mk (Below.refl w.heap.size w)
  have H : ((comptoirref07_row.f a0_0).bind fun bt144 => (if bt144.1.toList = ([] : List UInt8) then (some 15) else ((comptoirref07_has.f k a0_0 a0_1 a0_2 a0_3 a0_4 a0_5 a0_6 a0_7 a0_8 a0_9 a0_10 a0_11 a0_12 a0_13 a0_14 a0_15 l0_16 a0_17 a0_18 l0_19 l0_20).bind fun t149 => (comptoirref07_Fits.l0 k t149 0 a0_0 a0_1 a0_2 a0_3 a0_4 a0_5 a0_6 a0_7 a0_8 a0_9 a0_10 a0_11 a0_12 a0_13 a0_14 a0_15 l0_16 a0_17 a0_18 l0_19 l0_20 bt144.1 bt144.2.1 bt144.2.2.1 bt144.2.2.2)))) = some r := h
  clear h
  replace H := Option.bind_eq_some_iff.mp H
  obtain ⟨⟨t144, t145, t146, t147⟩, A20, H⟩ := H
  replace H : (if t144.toList = ([] : List UInt8) then (some 15) else ((comptoirref07_has.f k a0_0 a0_1 a0_2 a0_3 a0_4 a0_5 a0_6 a0_7 a0_8 a0_9 a0_10 a0_11 a0_12 a0_13 a0_14 a0_15 l0_16 a0_17 a0_18 l0_19 l0_20).bind fun t149 => (comptoirref07_Fits.l0 k t149 0 a0_0 a0_1 a0_2 a0_3 a0_4 a0_5 a0_6 a0_7 a0_8 a0_9 a0_10 a0_11 a0_12 a0_13 a0_14 a0_15 l0_16 a0_17 a0_18 l0_19 l0_20 t144 t145 t146 t147))) = some r := H
  have A2 := Aside0.mk A20
  clear A20
  by_cases c3 : t144.toList = ([] : List UInt8)
  · rw [if_pos c3] at H
    have c3b0 : (t144.toList == ([] : List UInt8)) = true := beq_iff_eq.mpr c3
    have c3b1 : (t144.toList != ([] : List UInt8)) = false := bne_eq_false_iff_eq.mpr c3
    clear c3
    obtain rfl := Option.some.inj H
    simp only [Option.some.injEq, Prod.mk.injEq] at H
    obtain ⟨rfl⟩ := H
    go_enter Try.func15, Try.ntmps15
    go_wp2_with (first | ((with_reducible refine gate_dst (N := 1) rfl ?_); refine box_event ?hg (N := 1) ?hd (cs := #[.int .i64 a0_0, .int .i64 a0_1, .string a0_2, .string a0_3, .string a0_4, .string a0_5, .int .u64 a0_6, .string a0_7, .string a0_8, .string a0_9, .string a0_10, .int .i64 a0_11, .string a0_12, .string a0_13, .int .i64 a0_14, .string a0_15, .slice A0_16 l0_16.length c0_16, .string a0_17, .string a0_18, .slice A0_19 l0_19.length c0_19, .slice A0_20 l0_20.length c0_20]) (t := 29) ?hr ?_; (case hd => rfl); (case hg => rfl); (case hr => first | (go_simp; done) | (go_simp; rfl) | (go_simp; simp only [show ∀ l_ : List UInt8, (l_ != []) = !l_.isEmpty from fun l_ => by cases l_ <;> rfl]; done)); intro gb143 hg w4 hbox hb; have n0_ := Aside0.mk (below_step (by repeat (first | (with_reducible first | exact HB.out | apply below_alloc | apply pw_below_drewN | apply below_drew1) | exact HB.out)) hb); have n1_ := Aside0.mk (hbox); have n2_ := Aside0.mk ((by rw [hg]; exact (below_size (by repeat (first | (with_reducible first | exact HB.out | apply below_alloc | apply pw_below_drewN | apply below_drew1) | exact HB.out))) : w.heap.size ≤ gb143)); have n3_ := Aside0.mk ((by rw [hg]; exact (below_size (by repeat (first | (with_reducible first | exact HB.out | apply below_alloc | apply pw_below_drewN | apply below_drew1) | exact HB.out))) : w.heap.size ≤ gb143)); clear HB; have HB := n0_; have BK143 := n1_; have GW143 := n2_; have GE143 := n3_; clear n0_ n1_ n2_ n3_; clear hb hbox hg; have hcz5_0 : w4.cell? ⟨gb143, 0, none⟩ = some (.int .i64 a0_0) := (blk_cell BK143.out 0).trans rfl; have hcz5_1 : w4.cell? ⟨gb143, 1, none⟩ = some (.int .i64 a0_1) := (blk_cell BK143.out 1).trans rfl; have hcz5_2 : w4.cell? ⟨gb143, 2, none⟩ = some (.string a0_2) := (blk_cell BK143.out 2).trans rfl; have hcz5_3 : w4.cell? ⟨gb143, 3, none⟩ = some (.string a0_3) := (blk_cell BK143.out 3).trans rfl; have hcz5_4 : w4.cell? ⟨gb143, 4, none⟩ = some (.string a0_4) := (blk_cell BK143.out 4).trans rfl; have hcz5_5 : w4.cell? ⟨gb143, 5, none⟩ = some (.string a0_5) := (blk_cell BK143.out 5).trans rfl; have hcz5_6 : w4.cell? ⟨gb143, 6, none⟩ = some (.int .u64 a0_6) := (blk_cell BK143.out 6).trans rfl; have hcz5_7 : w4.cell? ⟨gb143, 7, none⟩ = some (.string a0_7) := (blk_cell BK143.out 7).trans rfl; have hcz5_8 : w4.cell? ⟨gb143, 8, none⟩ = some (.string a0_8) := (blk_cell BK143.out 8).trans rfl; have hcz5_9 : w4.cell? ⟨gb143, 9, none⟩ = some (.string a0_9) := (blk_cell BK143.out 9).trans rfl; have hcz5_10 : w4.cell? ⟨gb143, 10, none⟩ = some (.string a0_10) := (blk_cell BK143.out 10).trans rfl; have hcz5_11 : w4.cell? ⟨gb143, 11, none⟩ = some (.int .i64 a0_11) := (blk_cell BK143.out 11).trans rfl; have hcz5_12 : w4.cell? ⟨gb143, 12, none⟩ = some (.string a0_12) := (blk_cell BK143.out 12).trans rfl; have hcz5_13 : w4.cell? ⟨gb143, 13, none⟩ = some (.string a0_13) := (blk_cell BK143.out 13).trans rfl; have hcz5_14 : w4.cell? ⟨gb143, 14, none⟩ = some (.int .i64 a0_14) := (blk_cell BK143.out 14).trans rfl; have hcz5_15 : w4.cell? ⟨gb143, 15, none⟩ = some (.string a0_15) := (blk_cell BK143.out 15).trans rfl; have hcz5_16 : w4.cell? ⟨gb143, 16, none⟩ = some (.slice A0_16 l0_16.length c0_16) := (blk_cell BK143.out 16).trans rfl; have hcz5_17 : w4.cell? ⟨gb143, 17, none⟩ = some (.string a0_17) := (blk_cell BK143.out 17).trans rfl; have hcz5_18 : w4.cell? ⟨gb143, 18, none⟩ = some (.string a0_18) := (blk_cell BK143.out 18).trans rfl; have hcz5_19 : w4.cell? ⟨gb143, 19, none⟩ = some (.slice A0_19 l0_19.length c0_19) := (blk_cell BK143.out 19).trans rfl; have hcz5_20 : w4.cell? ⟨gb143, 20, none⟩ = some (.slice A0_20 l0_20.length c0_20) := (blk_cell BK143.out 20).trans rfl; have hfz5_0 := blk_frozen BK143.out 0; have hfz5_1 := blk_frozen BK143.out 1; have hfz5_2 := blk_frozen BK143.out 2; have hfz5_3 := blk_frozen BK143.out 3; have hfz5_4 := blk_frozen BK143.out 4; have hfz5_5 := blk_frozen BK143.out 5; have hfz5_6 := blk_frozen BK143.out 6; have hfz5_7 := blk_frozen BK143.out 7; have hfz5_8 := blk_frozen BK143.out 8; have hfz5_9 := blk_frozen BK143.out 9; have hfz5_10 := blk_frozen BK143.out 10; have hfz5_11 := blk_frozen BK143.out 11; have hfz5_12 := blk_frozen BK143.out 12; have hfz5_13 := blk_frozen BK143.out 13; have hfz5_14 := blk_frozen BK143.out 14; have hfz5_15 := blk_frozen BK143.out 15; have hfz5_16 := blk_frozen BK143.out 16; have hfz5_17 := blk_frozen BK143.out 17; have hfz5_18 := blk_frozen BK143.out 18; have hfz5_19 := blk_frozen BK143.out 19; have hfz5_20 := blk_frozen BK143.out 20) | (go_at_call 42; (with_reducible refine (comptoirref07_row.calls a0_0 t144 t145 t146 t147 _ A2.out).mono ?_); rintro e w6 ⟨rfl, hb⟩; have n0_ := Aside0.mk (blk_below (g := gb143) (o := .cells #[.int .i64 a0_0, .int .i64 a0_1, .string a0_2, .string a0_3, .string a0_4, .string a0_5, .int .u64 a0_6, .string a0_7, .string a0_8, .string a0_9, .string a0_10, .int .i64 a0_11, .string a0_12, .string a0_13, .int .i64 a0_14, .string a0_15, .slice A0_16 l0_16.length c0_16, .string a0_17, .string a0_18, .slice A0_19 l0_19.length c0_19, .slice A0_20 l0_20.length c0_20] 29 (0, 0)) (by (with_reducible repeat (first | refine blk_drewN ?_ _ | refine blk_drew ?_ | refine blk_alloc ?_ _)); exact BK143.out) hb); have n1_ := Aside0.mk (below_step (by repeat (first | (with_reducible first | exact HB.out | apply below_alloc | apply pw_below_drewN | apply below_drew1 | refine below_set ?_ GE143.out) | exact HB.out)) hb); clear BK143; clear HB; have BK143 := n0_; have HB := n1_; clear n0_ n1_; (try clear hb); (try clear hb2); (try clear hk); (try clear hi)) | ((with_reducible refine gate_dst (N := 3) rfl ?_); refine box_event ?hg (N := 3) ?hd (cs := #[.string (⟨#[]⟩ : ByteArray), .string (⟨#[]⟩ : ByteArray), .string (⟨#[]⟩ : ByteArray), .string (⟨#[]⟩ : ByteArray)]) (t := 37) ?hr ?_; (case hd => rfl); (case hg => rfl); (case hr => first | (go_simp; done) | (go_simp; rfl) | (go_simp; simp only [show ∀ l_ : List UInt8, (l_ != []) = !l_.isEmpty from fun l_ => by cases l_ <;> rfl]; done)); intro gb148 hg w7 hbox hb; have n0_ := Aside0.mk (blk_below (g := gb143) (o := .cells #[.int .i64 a0_0, .int .i64 a0_1, .string a0_2, .string a0_3, .string a0_4, .string a0_5, .int .u64 a0_6, .string a0_7, .string a0_8, .string a0_9, .string a0_10, .int .i64 a0_11, .string a0_12, .string a0_13, .int .i64 a0_14, .string a0_15, .slice A0_16 l0_16.length c0_16, .string a0_17, .string a0_18, .slice A0_19 l0_19.length c0_19, .slice A0_20 l0_20.length c0_20] 29 (0, 0)) (by (with_reducible repeat (first | refine blk_drewN ?_ _ | refine blk_drew ?_ | refine blk_alloc ?_ _)); exact BK143.out) hb); have n1_ := Aside0.mk (below_step (by repeat (first | (with_reducible first | exact HB.out | apply below_alloc | apply pw_below_drewN | apply below_drew1 | refine below_set ?_ GE143.out) | exact HB.out)) hb); have n2_ := Aside0.mk (hbox); have n3_ := Aside0.mk ((by rw [hg]; exact (below_size (by repeat (first | (with_reducible first | exact HB.out | apply below_alloc | apply pw_below_drewN | apply below_drew1 | refine below_set ?_ GE143.out) | exact HB.out))) : w.heap.size ≤ gb148)); have n4_ := Aside0.mk ((by rw [hg]; exact (below_size (by repeat (first | (with_reducible first | exact HB.out | apply below_alloc | apply pw_below_drewN | apply below_drew1 | refine below_set ?_ GE143.out) | exact HB.out))) : w.heap.size ≤ gb148)); have n5_ := Aside0.mk ((by rw [hg]; exact Nat.ne_of_lt (blk_lt (g := gb143) (o := .cells #[.int .i64 a0_0, .int .i64 a0_1, .string a0_2, .string a0_3, .string a0_4, .string a0_5, .int .u64 a0_6, .string a0_7, .string a0_8, .string a0_9, .string a0_10, .int .i64 a0_11, .string a0_12, .string a0_13, .int .i64 a0_14, .string a0_15, .slice A0_16 l0_16.length c0_16, .string a0_17, .string a0_18, .slice A0_19 l0_19.length c0_19, .slice A0_20 l0_20.length c0_20] 29 (0, 0)) (by (with_reducible repeat (first | refine blk_drewN ?_ _ | refine blk_drew ?_ | refine blk_alloc ?_ _)); exact BK143.out)) : gb143 ≠ gb148)); have n6_ := Aside0.mk ((by rw [hg]; exact Nat.ne_of_gt (blk_lt (g := gb143) (o := .cells #[.int .i64 a0_0, .int .i64 a0_1, .string a0_2, .string a0_3, .string a0_4, .string a0_5, .int .u64 a0_6, .string a0_7, .string a0_8, .string a0_9, .string a0_10, .int .i64 a0_11, .string a0_12, .string a0_13, .int .i64 a0_14, .string a0_15, .slice A0_16 l0_16.length c0_16, .string a0_17, .string a0_18, .slice A0_19 l0_19.length c0_19, .slice A0_20 l0_20.length c0_20] 29 (0, 0)) (by (with_reducible repeat (first | refine blk_drewN ?_ _ | refine blk_drew ?_ | refine blk_alloc ?_ _)); exact BK143.out)) : gb148 ≠ gb143)); clear BK143; clear HB; have BK143 := n0_; have HB := n1_; have BK148 := n2_; have GW148 := n3_; have GE148 := n4_; have NB143_148 := n5_; have NB148_143 := n6_; clear n0_ n1_ n2_ n3_ n4_ n5_ n6_; clear hb hbox hg; have hnb8 := NB148_143.out; have hnc8 := NB143_148.out; have hcz9_0 : w7.cell? ⟨gb148, 0, none⟩ = some (.string (⟨#[]⟩ : ByteArray)) := (blk_cell BK148.out 0).trans rfl; have hcz9_1 : w7.cell? ⟨gb148, 1, none⟩ = some (.string (⟨#[]⟩ : ByteArray)) := (blk_cell BK148.out 1).trans rfl; have hcz9_2 : w7.cell? ⟨gb148, 2, none⟩ = some (.string (⟨#[]⟩ : ByteArray)) := (blk_cell BK148.out 2).trans rfl; have hcz9_3 : w7.cell? ⟨gb148, 3, none⟩ = some (.string (⟨#[]⟩ : ByteArray)) := (blk_cell BK148.out 3).trans rfl; have hfz9_0 := blk_frozen BK148.out 0; have hfz9_1 := blk_frozen BK148.out 1; have hfz9_2 := blk_frozen BK148.out 2; have hfz9_3 := blk_frozen BK148.out 3))
    repeat (go_quiet (first | ((with_reducible refine gate_dst (N := 1) rfl ?_); refine box_event ?hg (N := 1) ?hd (cs := #[.int .i64 a0_0, .int .i64 a0_1, .string a0_2, .string a0_3, .string a0_4, .string a0_5, .int .u64 a0_6, .string a0_7, .string a0_8, .string a0_9, .string a0_10, .int .i64 a0_11, .string a0_12, .string a0_13, .int .i64 a0_14, .string a0_15, .slice A0_16 l0_16.length c0_16, .string a0_17, .string a0_18, .slice A0_19 l0_19.length c0_19, .slice A0_20 l0_20.length c0_20]) (t := 29) ?hr ?_; (case hd => rfl); (case hg => rfl); (case hr => first | (go_simp; done) | (go_simp; rfl) | (go_simp; simp only [show ∀ l_ : List UInt8, (l_ != []) = !l_.isEmpty from fun l_ => by cases l_ <;> rfl]; done)); intro gb143 hg w4 hbox hb; have n0_ := Aside0.mk (below_step (by repeat (first | (with_reducible first | exact HB.out | apply below_alloc | apply pw_below_drewN | apply below_drew1) | exact HB.out)) hb); have n1_ := Aside0.mk (hbox); have n2_ := Aside0.mk ((by rw [hg]; exact (below_size (by repeat (first | (with_reducible first | exact HB.out | apply below_alloc | apply pw_below_drewN | apply below_drew1) | exact HB.out))) : w.heap.size ≤ gb143)); have n3_ := Aside0.mk ((by rw [hg]; exact (below_size (by repeat (first | (with_reducible first | exact HB.out | apply below_alloc | apply pw_below_drewN | apply below_drew1) | exact HB.out))) : w.heap.size ≤ gb143)); clear HB; have HB := n0_; have BK143 := n1_; have GW143 := n2_; have GE143 := n3_; clear n0_ n1_ n2_ n3_; clear hb hbox hg; have hcz5_0 : w4.cell? ⟨gb143, 0, none⟩ = some (.int .i64 a0_0) := (blk_cell BK143.out 0).trans rfl; have hcz5_1 : w4.cell? ⟨gb143, 1, none⟩ = some (.int .i64 a0_1) := (blk_cell BK143.out 1).trans rfl; have hcz5_2 : w4.cell? ⟨gb143, 2, none⟩ = some (.string a0_2) := (blk_cell BK143.out 2).trans rfl; have hcz5_3 : w4.cell? ⟨gb143, 3, none⟩ = some (.string a0_3) := (blk_cell BK143.out 3).trans rfl; have hcz5_4 : w4.cell? ⟨gb143, 4, none⟩ = some (.string a0_4) := (blk_cell BK143.out 4).trans rfl; have hcz5_5 : w4.cell? ⟨gb143, 5, none⟩ = some (.string a0_5) := (blk_cell BK143.out 5).trans rfl; have hcz5_6 : w4.cell? ⟨gb143, 6, none⟩ = some (.int .u64 a0_6) := (blk_cell BK143.out 6).trans rfl; have hcz5_7 : w4.cell? ⟨gb143, 7, none⟩ = some (.string a0_7) := (blk_cell BK143.out 7).trans rfl; have hcz5_8 : w4.cell? ⟨gb143, 8, none⟩ = some (.string a0_8) := (blk_cell BK143.out 8).trans rfl; have hcz5_9 : w4.cell? ⟨gb143, 9, none⟩ = some (.string a0_9) := (blk_cell BK143.out 9).trans rfl; have hcz5_10 : w4.cell? ⟨gb143, 10, none⟩ = some (.string a0_10) := (blk_cell BK143.out 10).trans rfl; have hcz5_11 : w4.cell? ⟨gb143, 11, none⟩ = some (.int .i64 a0_11) := (blk_cell BK143.out 11).trans rfl; have hcz5_12 : w4.cell? ⟨gb143, 12, none⟩ = some (.string a0_12) := (blk_cell BK143.out 12).trans rfl; have hcz5_13 : w4.cell? ⟨gb143, 13, none⟩ = some (.string a0_13) := (blk_cell BK143.out 13).trans rfl; have hcz5_14 : w4.cell? ⟨gb143, 14, none⟩ = some (.int .i64 a0_14) := (blk_cell BK143.out 14).trans rfl; have hcz5_15 : w4.cell? ⟨gb143, 15, none⟩ = some (.string a0_15) := (blk_cell BK143.out 15).trans rfl; have hcz5_16 : w4.cell? ⟨gb143, 16, none⟩ = some (.slice A0_16 l0_16.length c0_16) := (blk_cell BK143.out 16).trans rfl; have hcz5_17 : w4.cell? ⟨gb143, 17, none⟩ = some (.string a0_17) := (blk_cell BK143.out 17).trans rfl; have hcz5_18 : w4.cell? ⟨gb143, 18, none⟩ = some (.string a0_18) := (blk_cell BK143.out 18).trans rfl; have hcz5_19 : w4.cell? ⟨gb143, 19, none⟩ = some (.slice A0_19 l0_19.length c0_19) := (blk_cell BK143.out 19).trans rfl; have hcz5_20 : w4.cell? ⟨gb143, 20, none⟩ = some (.slice A0_20 l0_20.length c0_20) := (blk_cell BK143.out 20).trans rfl; have hfz5_0 := blk_frozen BK143.out 0; have hfz5_1 := blk_frozen BK143.out 1; have hfz5_2 := blk_frozen BK143.out 2; have hfz5_3 := blk_frozen BK143.out 3; have hfz5_4 := blk_frozen BK143.out 4; have hfz5_5 := blk_frozen BK143.out 5; have hfz5_6 := blk_frozen BK143.out 6; have hfz5_7 := blk_frozen BK143.out 7; have hfz5_8 := blk_frozen BK143.out 8; have hfz5_9 := blk_frozen BK143.out 9; have hfz5_10 := blk_frozen BK143.out 10; have hfz5_11 := blk_frozen BK143.out 11; have hfz5_12 := blk_frozen BK143.out 12; have hfz5_13 := blk_frozen BK143.out 13; have hfz5_14 := blk_frozen BK143.out 14; have hfz5_15 := blk_frozen BK143.out 15; have hfz5_16 := blk_frozen BK143.out 16; have hfz5_17 := blk_frozen BK143.out 17; have hfz5_18 := blk_frozen BK143.out 18; have hfz5_19 := blk_frozen BK143.out 19; have hfz5_20 := blk_frozen BK143.out 20) | (go_at_call 42; (with_reducible refine (comptoirref07_row.calls a0_0 t144 t145 t146 t147 _ A2.out).mono ?_); rintro e w6 ⟨rfl, hb⟩; have n0_ := Aside0.mk (blk_below (g := gb143) (o := .cells #[.int .i64 a0_0, .int .i64 a0_1, .string a0_2, .string a0_3, .string a0_4, .string a0_5, .int .u64 a0_6, .string a0_7, .string a0_8, .string a0_9, .string a0_10, .int .i64 a0_11, .string a0_12, .string a0_13, .int .i64 a0_14, .string a0_15, .slice A0_16 l0_16.length c0_16, .string a0_17, .string a0_18, .slice A0_19 l0_19.length c0_19, .slice A0_20 l0_20.length c0_20] 29 (0, 0)) (by (with_reducible repeat (first | refine blk_drewN ?_ _ | refine blk_drew ?_ | refine blk_alloc ?_ _)); exact BK143.out) hb); have n1_ := Aside0.mk (below_step (by repeat (first | (with_reducible first | exact HB.out | apply below_alloc | apply pw_below_drewN | apply below_drew1 | refine below_set ?_ GE143.out) | exact HB.out)) hb); clear BK143; clear HB; have BK143 := n0_; have HB := n1_; clear n0_ n1_; (try clear hb); (try clear hb2); (try clear hk); (try clear hi)) | ((with_reducible refine gate_dst (N := 3) rfl ?_); refine box_event ?hg (N := 3) ?hd (cs := #[.string (⟨#[]⟩ : ByteArray), .string (⟨#[]⟩ : ByteArray), .string (⟨#[]⟩ : ByteArray), .string (⟨#[]⟩ : ByteArray)]) (t := 37) ?hr ?_; (case hd => rfl); (case hg => rfl); (case hr => first | (go_simp; done) | (go_simp; rfl) | (go_simp; simp only [show ∀ l_ : List UInt8, (l_ != []) = !l_.isEmpty from fun l_ => by cases l_ <;> rfl]; done)); intro gb148 hg w7 hbox hb; have n0_ := Aside0.mk (blk_below (g := gb143) (o := .cells #[.int .i64 a0_0, .int .i64 a0_1, .string a0_2, .string a0_3, .string a0_4, .string a0_5, .int .u64 a0_6, .string a0_7, .string a0_8, .string a0_9, .string a0_10, .int .i64 a0_11, .string a0_12, .string a0_13, .int .i64 a0_14, .string a0_15, .slice A0_16 l0_16.length c0_16, .string a0_17, .string a0_18, .slice A0_19 l0_19.length c0_19, .slice A0_20 l0_20.length c0_20] 29 (0, 0)) (by (with_reducible repeat (first | refine blk_drewN ?_ _ | refine blk_drew ?_ | refine blk_alloc ?_ _)); exact BK143.out) hb); have n1_ := Aside0.mk (below_step (by repeat (first | (with_reducible first | exact HB.out | apply below_alloc | apply pw_below_drewN | apply below_drew1 | refine below_set ?_ GE143.out) | exact HB.out)) hb); have n2_ := Aside0.mk (hbox); have n3_ := Aside0.mk ((by rw [hg]; exact (below_size (by repeat (first | (with_reducible first | exact HB.out | apply below_alloc | apply pw_below_drewN | apply below_drew1 | refine below_set ?_ GE143.out) | exact HB.out))) : w.heap.size ≤ gb148)); have n4_ := Aside0.mk ((by rw [hg]; exact (below_size (by repeat (first | (with_reducible first | exact HB.out | apply below_alloc | apply pw_below_drewN | apply below_drew1 | refine below_set ?_ GE143.out) | exact HB.out))) : w.heap.size ≤ gb148)); have n5_ := Aside0.mk ((by rw [hg]; exact Nat.ne_of_lt (blk_lt (g := gb143) (o := .cells #[.int .i64 a0_0, .int .i64 a0_1, .string a0_2, .string a0_3, .string a0_4, .string a0_5, .int .u64 a0_6, .string a0_7, .string a0_8, .string a0_9, .string a0_10, .int .i64 a0_11, .string a0_12, .string a0_13, .int .i64 a0_14, .string a0_15, .slice A0_16 l0_16.length c0_16, .string a0_17, .string a0_18, .slice A0_19 l0_19.length c0_19, .slice A0_20 l0_20.length c0_20] 29 (0, 0)) (by (with_reducible repeat (first | refine blk_drewN ?_ _ | refine blk_drew ?_ | refine blk_alloc ?_ _)); exact BK143.out)) : gb143 ≠ gb148)); have n6_ := Aside0.mk ((by rw [hg]; exact Nat.ne_of_gt (blk_lt (g := gb143) (o := .cells #[.int .i64 a0_0, .int .i64 a0_1, .string a0_2, .string a0_3, .string a0_4, .string a0_5, .int .u64 a0_6, .string a0_7, .string a0_8, .string a0_9, .string a0_10, .int .i64 a0_11, .string a0_12, .string a0_13, .int .i64 a0_14, .string a0_15, .slice A0_16 l0_16.length c0_16, .string a0_17, .string a0_18, .slice A0_19 l0_19.length c0_19, .slice A0_20 l0_20.length c0_20] 29 (0, 0)) (by (with_reducible repeat (first | refine blk_drewN ?_ _ | refine blk_drew ?_ | refine blk_alloc ?_ _)); exact BK143.out)) : gb148 ≠ gb143)); clear BK143; clear HB; have BK143 := n0_; have HB := n1_; have BK148 := n2_; have GW148 := n3_; have GE148 := n4_; have NB143_148 := n5_; have NB148_143 := n6_; clear n0_ n1_ n2_ n3_ n4_ n5_ n6_; clear hb hbox hg; have hnb8 := NB148_143.out; have hnc8 := NB143_148.out; have hcz9_0 : w7.cell? ⟨gb148, 0, none⟩ = some (.string (⟨#[]⟩ : ByteArray)) := (blk_cell BK148.out 0).trans rfl; have hcz9_1 : w7.cell? ⟨gb148, 1, none⟩ = some (.string (⟨#[]⟩ : ByteArray)) := (blk_cell BK148.out 1).trans rfl; have hcz9_2 : w7.cell? ⟨gb148, 2, none⟩ = some (.string (⟨#[]⟩ : ByteArray)) := (blk_cell BK148.out 2).trans rfl; have hcz9_3 : w7.cell? ⟨gb148, 3, none⟩ = some (.string (⟨#[]⟩ : ByteArray)) := (blk_cell BK148.out 3).trans rfl; have hfz9_0 := blk_frozen BK148.out 0; have hfz9_1 := blk_frozen BK148.out 1; have hfz9_2 := blk_frozen BK148.out 2; have hfz9_3 := blk_frozen BK148.out 3)); try go_wp2_with (first | ((with_reducible refine gate_dst (N := 1) rfl ?_); refine box_event ?hg (N := 1) ?hd (cs := #[.int .i64 a0_0, .int .i64 a0_1, .string a0_2, .string a0_3, .string a0_4, .string a0_5, .int .u64 a0_6, .string a0_7, .string a0_8, .string a0_9, .string a0_10, .int .i64 a0_11, .string a0_12, .string a0_13, .int .i64 a0_14, .string a0_15, .slice A0_16 l0_16.length c0_16, .string a0_17, .string a0_18, .slice A0_19 l0_19.length c0_19, .slice A0_20 l0_20.length c0_20]) (t := 29) ?hr ?_; (case hd => rfl); (case hg => rfl); (case hr => first | (go_simp; done) | (go_simp; rfl) | (go_simp; simp only [show ∀ l_ : List UInt8, (l_ != []) = !l_.isEmpty from fun l_ => by cases l_ <;> rfl]; done)); intro gb143 hg w4 hbox hb; have n0_ := Aside0.mk (below_step (by repeat (first | (with_reducible first | exact HB.out | apply below_alloc | apply pw_below_drewN | apply below_drew1) | exact HB.out)) hb); have n1_ := Aside0.mk (hbox); have n2_ := Aside0.mk ((by rw [hg]; exact (below_size (by repeat (first | (with_reducible first | exact HB.out | apply below_alloc | apply pw_below_drewN | apply below_drew1) | exact HB.out))) : w.heap.size ≤ gb143)); have n3_ := Aside0.mk ((by rw [hg]; exact (below_size (by repeat (first | (with_reducible first | exact HB.out | apply below_alloc | apply pw_below_drewN | apply below_drew1) | exact HB.out))) : w.heap.size ≤ gb143)); clear HB; have HB := n0_; have BK143 := n1_; have GW143 := n2_; have GE143 := n3_; clear n0_ n1_ n2_ n3_; clear hb hbox hg; have hcz5_0 : w4.cell? ⟨gb143, 0, none⟩ = some (.int .i64 a0_0) := (blk_cell BK143.out 0).trans rfl; have hcz5_1 : w4.cell? ⟨gb143, 1, none⟩ = some (.int .i64 a0_1) := (blk_cell BK143.out 1).trans rfl; have hcz5_2 : w4.cell? ⟨gb143, 2, none⟩ = some (.string a0_2) := (blk_cell BK143.out 2).trans rfl; have hcz5_3 : w4.cell? ⟨gb143, 3, none⟩ = some (.string a0_3) := (blk_cell BK143.out 3).trans rfl; have hcz5_4 : w4.cell? ⟨gb143, 4, none⟩ = some (.string a0_4) := (blk_cell BK143.out 4).trans rfl; have hcz5_5 : w4.cell? ⟨gb143, 5, none⟩ = some (.string a0_5) := (blk_cell BK143.out 5).trans rfl; have hcz5_6 : w4.cell? ⟨gb143, 6, none⟩ = some (.int .u64 a0_6) := (blk_cell BK143.out 6).trans rfl; have hcz5_7 : w4.cell? ⟨gb143, 7, none⟩ = some (.string a0_7) := (blk_cell BK143.out 7).trans rfl; have hcz5_8 : w4.cell? ⟨gb143, 8, none⟩ = some (.string a0_8) := (blk_cell BK143.out 8).trans rfl; have hcz5_9 : w4.cell? ⟨gb143, 9, none⟩ = some (.string a0_9) := (blk_cell BK143.out 9).trans rfl; have hcz5_10 : w4.cell? ⟨gb143, 10, none⟩ = some (.string a0_10) := (blk_cell BK143.out 10).trans rfl; have hcz5_11 : w4.cell? ⟨gb143, 11, none⟩ = some (.int .i64 a0_11) := (blk_cell BK143.out 11).trans rfl; have hcz5_12 : w4.cell? ⟨gb143, 12, none⟩ = some (.string a0_12) := (blk_cell BK143.out 12).trans rfl; have hcz5_13 : w4.cell? ⟨gb143, 13, none⟩ = some (.string a0_13) := (blk_cell BK143.out 13).trans rfl; have hcz5_14 : w4.cell? ⟨gb143, 14, none⟩ = some (.int .i64 a0_14) := (blk_cell BK143.out 14).trans rfl; have hcz5_15 : w4.cell? ⟨gb143, 15, none⟩ = some (.string a0_15) := (blk_cell BK143.out 15).trans rfl; have hcz5_16 : w4.cell? ⟨gb143, 16, none⟩ = some (.slice A0_16 l0_16.length c0_16) := (blk_cell BK143.out 16).trans rfl; have hcz5_17 : w4.cell? ⟨gb143, 17, none⟩ = some (.string a0_17) := (blk_cell BK143.out 17).trans rfl; have hcz5_18 : w4.cell? ⟨gb143, 18, none⟩ = some (.string a0_18) := (blk_cell BK143.out 18).trans rfl; have hcz5_19 : w4.cell? ⟨gb143, 19, none⟩ = some (.slice A0_19 l0_19.length c0_19) := (blk_cell BK143.out 19).trans rfl; have hcz5_20 : w4.cell? ⟨gb143, 20, none⟩ = some (.slice A0_20 l0_20.length c0_20) := (blk_cell BK143.out 20).trans rfl; have hfz5_0 := blk_frozen BK143.out 0; have hfz5_1 := blk_frozen BK143.out 1; have hfz5_2 := blk_frozen BK143.out 2; have hfz5_3 := blk_frozen BK143.out 3; have hfz5_4 := blk_frozen BK143.out 4; have hfz5_5 := blk_frozen BK143.out 5; have hfz5_6 := blk_frozen BK143.out 6; have hfz5_7 := blk_frozen BK143.out 7; have hfz5_8 := blk_frozen BK143.out 8; have hfz5_9 := blk_frozen BK143.out 9; have hfz5_10 := blk_frozen BK143.out 10; have hfz5_11 := blk_frozen BK143.out 11; have hfz5_12 := blk_frozen BK143.out 12; have hfz5_13 := blk_frozen BK143.out 13; have hfz5_14 := blk_frozen BK143.out 14; have hfz5_15 := blk_frozen BK143.out 15; have hfz5_16 := blk_frozen BK143.out 16; have hfz5_17 := blk_frozen BK143.out 17; have hfz5_18 := blk_frozen BK143.out 18; have hfz5_19 := blk_frozen BK143.out 19; have hfz5_20 := blk_frozen BK143.out 20) | (go_at_call 42; (with_reducible refine (comptoirref07_row.calls a0_0 t144 t145 t146 t147 _ A2.out).mono ?_); rintro e w6 ⟨rfl, hb⟩; have n0_ := Aside0.mk (blk_below (g := gb143) (o := .cells #[.int .i64 a0_0, .int .i64 a0_1, .string a0_2, .string a0_3, .string a0_4, .string a0_5, .int .u64 a0_6, .string a0_7, .string a0_8, .string a0_9, .string a0_10, .int .i64 a0_11, .string a0_12, .string a0_13, .int .i64 a0_14, .string a0_15, .slice A0_16 l0_16.length c0_16, .string a0_17, .string a0_18, .slice A0_19 l0_19.length c0_19, .slice A0_20 l0_20.length c0_20] 29 (0, 0)) (by (with_reducible repeat (first | refine blk_drewN ?_ _ | refine blk_drew ?_ | refine blk_alloc ?_ _)); exact BK143.out) hb); have n1_ := Aside0.mk (below_step (by repeat (first | (with_reducible first | exact HB.out | apply below_alloc | apply pw_below_drewN | apply below_drew1 | refine below_set ?_ GE143.out) | exact HB.out)) hb); clear BK143; clear HB; have BK143 := n0_; have HB := n1_; clear n0_ n1_; (try clear hb); (try clear hb2); (try clear hk); (try clear hi)) | ((with_reducible refine gate_dst (N := 3) rfl ?_); refine box_event ?hg (N := 3) ?hd (cs := #[.string (⟨#[]⟩ : ByteArray), .string (⟨#[]⟩ : ByteArray), .string (⟨#[]⟩ : ByteArray), .string (⟨#[]⟩ : ByteArray)]) (t := 37) ?hr ?_; (case hd => rfl); (case hg => rfl); (case hr => first | (go_simp; done) | (go_simp; rfl) | (go_simp; simp only [show ∀ l_ : List UInt8, (l_ != []) = !l_.isEmpty from fun l_ => by cases l_ <;> rfl]; done)); intro gb148 hg w7 hbox hb; have n0_ := Aside0.mk (blk_below (g := gb143) (o := .cells #[.int .i64 a0_0, .int .i64 a0_1, .string a0_2, .string a0_3, .string a0_4, .string a0_5, .int .u64 a0_6, .string a0_7, .string a0_8, .string a0_9, .string a0_10, .int .i64 a0_11, .string a0_12, .string a0_13, .int .i64 a0_14, .string a0_15, .slice A0_16 l0_16.length c0_16, .string a0_17, .string a0_18, .slice A0_19 l0_19.length c0_19, .slice A0_20 l0_20.length c0_20] 29 (0, 0)) (by (with_reducible repeat (first | refine blk_drewN ?_ _ | refine blk_drew ?_ | refine blk_alloc ?_ _)); exact BK143.out) hb); have n1_ := Aside0.mk (below_step (by repeat (first | (with_reducible first | exact HB.out | apply below_alloc | apply pw_below_drewN | apply below_drew1 | refine below_set ?_ GE143.out) | exact HB.out)) hb); have n2_ := Aside0.mk (hbox); have n3_ := Aside0.mk ((by rw [hg]; exact (below_size (by repeat (first | (with_reducible first | exact HB.out | apply below_alloc | apply pw_below_drewN | apply below_drew1 | refine below_set ?_ GE143.out) | exact HB.out))) : w.heap.size ≤ gb148)); have n4_ := Aside0.mk ((by rw [hg]; exact (below_size (by repeat (first | (with_reducible first | exact HB.out | apply below_alloc | apply pw_below_drewN | apply below_drew1 | refine below_set ?_ GE143.out) | exact HB.out))) : w.heap.size ≤ gb148)); have n5_ := Aside0.mk ((by rw [hg]; exact Nat.ne_of_lt (blk_lt (g := gb143) (o := .cells #[.int .i64 a0_0, .int .i64 a0_1, .string a0_2, .string a0_3, .string a0_4, .string a0_5, .int .u64 a0_6, .string a0_7, .string a0_8, .string a0_9, .string a0_10, .int .i64 a0_11, .string a0_12, .string a0_13, .int .i64 a0_14, .string a0_15, .slice A0_16 l0_16.length c0_16, .string a0_17, .string a0_18, .slice A0_19 l0_19.length c0_19, .slice A0_20 l0_20.length c0_20] 29 (0, 0)) (by (with_reducible repeat (first | refine blk_drewN ?_ _ | refine blk_drew ?_ | refine blk_alloc ?_ _)); exact BK143.out)) : gb143 ≠ gb148)); have n6_ := Aside0.mk ((by rw [hg]; exact Nat.ne_of_gt (blk_lt (g := gb143) (o := .cells #[.int .i64 a0_0, .int .i64 a0_1, .string a0_2, .string a0_3, .string a0_4, .string a0_5, .int .u64 a0_6, .string a0_7, .string a0_8, .string a0_9, .string a0_10, .int .i64 a0_11, .string a0_12, .string a0_13, .int .i64 a0_14, .string a0_15, .slice A0_16 l0_16.length c0_16, .string a0_17, .string a0_18, .slice A0_19 l0_19.length c0_19, .slice A0_20 l0_20.length c0_20] 29 (0, 0)) (by (with_reducible repeat (first | refine blk_drewN ?_ _ | refine blk_drew ?_ | refine blk_alloc ?_ _)); exact BK143.out)) : gb148 ≠ gb143)); clear BK143; clear HB; have BK143 := n0_; have HB := n1_; have BK148 := n2_; have GW148 := n3_; have GE148 := n4_; have NB143_148 := n5_; have NB148_143 := n6_; clear n0_ n1_ n2_ n3_ n4_ n5_ n6_; clear hb hbox hg; have hnb8 := NB148_143.out; have hnc8 := NB143_148.out; have hcz9_0 : w7.cell? ⟨gb148, 0, none⟩ = some (.string (⟨#[]⟩ : ByteArray)) := (blk_cell BK148.out 0).trans rfl; have hcz9_1 : w7.cell? ⟨gb148, 1, none⟩ = some (.string (⟨#[]⟩ : ByteArray)) := (blk_cell BK148.out 1).trans rfl; have hcz9_2 : w7.cell? ⟨gb148, 2, none⟩ = some (.string (⟨#[]⟩ : ByteArray)) := (blk_cell BK148.out 2).trans rfl; have hcz9_3 : w7.cell? ⟨gb148, 3, none⟩ = some (.string (⟨#[]⟩ : ByteArray)) := (blk_cell BK148.out 3).trans rfl; have hfz9_0 := blk_frozen BK148.out 0; have hfz9_1 := blk_frozen BK148.out 1; have hfz9_2 := blk_frozen BK148.out 2; have hfz9_3 := blk_frozen BK148.out 3)))
    go_ret
    exact ⟨by first | rfl | (simp [errW_none, errW_some] <;> rfl) | (simp [*, errW_none, errW_some] <;> rfl), by repeat (first | (with_reducible first | exact HB.out | apply below_alloc | apply pw_below_drewN | apply below_drew1 | refine below_set ?_ GE143.out | refine below_set ?_ GE148.out) | exact HB.out)⟩
  · rw [if_neg c3] at H
    have c3b0 : (t144.toList == ([] : List UInt8)) = false := beq_eq_false_iff_ne.mpr c3
    have c3b1 : (t144.toList != ([] : List UInt8)) = true := bne_iff_ne.mpr c3
    replace H := Option.bind_eq_some_iff.mp H
    obtain ⟨t149, A100, H⟩ := H
    replace H : (comptoirref07_Fits.l0 k t149 0 a0_0 a0_1 a0_2 a0_3 a0_4 a0_5 a0_6 a0_7 a0_8 a0_9 a0_10 a0_11 a0_12 a0_13 a0_14 a0_15 l0_16 a0_17 a0_18 l0_19 l0_20 t144 t145 t146 t147) = some r := H
    have A10 := Aside0.mk A100
    clear A100
    have H' := Aside0.mk H
    clear H
    go_enter Try.func15, Try.ntmps15
    go_wp2_with (first | ((with_reducible refine gate_dst (N := 1) rfl ?_); refine box_event ?hg (N := 1) ?hd (cs := #[.int .i64 a0_0, .int .i64 a0_1, .string a0_2, .string a0_3, .string a0_4, .string a0_5, .int .u64 a0_6, .string a0_7, .string a0_8, .string a0_9, .string a0_10, .int .i64 a0_11, .string a0_12, .string a0_13, .int .i64 a0_14, .string a0_15, .slice A0_16 l0_16.length c0_16, .string a0_17, .string a0_18, .slice A0_19 l0_19.length c0_19, .slice A0_20 l0_20.length c0_20]) (t := 29) ?hr ?_; (case hd => rfl); (case hg => rfl); (case hr => first | (go_simp; done) | (go_simp; rfl) | (go_simp; simp only [show ∀ l_ : List UInt8, (l_ != []) = !l_.isEmpty from fun l_ => by cases l_ <;> rfl]; done)); intro gb143 hg w11 hbox hb; have n0_ := Aside0.mk (below_step (by repeat (first | (with_reducible first | exact HB.out | apply below_alloc | apply pw_below_drewN | apply below_drew1) | exact HB.out)) hb); have n1_ := Aside0.mk (hbox); have n2_ := Aside0.mk ((by rw [hg]; exact (below_size (by repeat (first | (with_reducible first | exact HB.out | apply below_alloc | apply pw_below_drewN | apply below_drew1) | exact HB.out))) : w.heap.size ≤ gb143)); have n3_ := Aside0.mk ((by rw [hg]; exact (below_size (by repeat (first | (with_reducible first | exact HB.out | apply below_alloc | apply pw_below_drewN | apply below_drew1) | exact HB.out))) : w.heap.size ≤ gb143)); clear HB; have HB := n0_; have BK143 := n1_; have GW143 := n2_; have GE143 := n3_; clear n0_ n1_ n2_ n3_; clear hb hbox hg; have hcz12_0 : w11.cell? ⟨gb143, 0, none⟩ = some (.int .i64 a0_0) := (blk_cell BK143.out 0).trans rfl; have hcz12_1 : w11.cell? ⟨gb143, 1, none⟩ = some (.int .i64 a0_1) := (blk_cell BK143.out 1).trans rfl; have hcz12_2 : w11.cell? ⟨gb143, 2, none⟩ = some (.string a0_2) := (blk_cell BK143.out 2).trans rfl; have hcz12_3 : w11.cell? ⟨gb143, 3, none⟩ = some (.string a0_3) := (blk_cell BK143.out 3).trans rfl; have hcz12_4 : w11.cell? ⟨gb143, 4, none⟩ = some (.string a0_4) := (blk_cell BK143.out 4).trans rfl; have hcz12_5 : w11.cell? ⟨gb143, 5, none⟩ = some (.string a0_5) := (blk_cell BK143.out 5).trans rfl; have hcz12_6 : w11.cell? ⟨gb143, 6, none⟩ = some (.int .u64 a0_6) := (blk_cell BK143.out 6).trans rfl; have hcz12_7 : w11.cell? ⟨gb143, 7, none⟩ = some (.string a0_7) := (blk_cell BK143.out 7).trans rfl; have hcz12_8 : w11.cell? ⟨gb143, 8, none⟩ = some (.string a0_8) := (blk_cell BK143.out 8).trans rfl; have hcz12_9 : w11.cell? ⟨gb143, 9, none⟩ = some (.string a0_9) := (blk_cell BK143.out 9).trans rfl; have hcz12_10 : w11.cell? ⟨gb143, 10, none⟩ = some (.string a0_10) := (blk_cell BK143.out 10).trans rfl; have hcz12_11 : w11.cell? ⟨gb143, 11, none⟩ = some (.int .i64 a0_11) := (blk_cell BK143.out 11).trans rfl; have hcz12_12 : w11.cell? ⟨gb143, 12, none⟩ = some (.string a0_12) := (blk_cell BK143.out 12).trans rfl; have hcz12_13 : w11.cell? ⟨gb143, 13, none⟩ = some (.string a0_13) := (blk_cell BK143.out 13).trans rfl; have hcz12_14 : w11.cell? ⟨gb143, 14, none⟩ = some (.int .i64 a0_14) := (blk_cell BK143.out 14).trans rfl; have hcz12_15 : w11.cell? ⟨gb143, 15, none⟩ = some (.string a0_15) := (blk_cell BK143.out 15).trans rfl; have hcz12_16 : w11.cell? ⟨gb143, 16, none⟩ = some (.slice A0_16 l0_16.length c0_16) := (blk_cell BK143.out 16).trans rfl; have hcz12_17 : w11.cell? ⟨gb143, 17, none⟩ = some (.string a0_17) := (blk_cell BK143.out 17).trans rfl; have hcz12_18 : w11.cell? ⟨gb143, 18, none⟩ = some (.string a0_18) := (blk_cell BK143.out 18).trans rfl; have hcz12_19 : w11.cell? ⟨gb143, 19, none⟩ = some (.slice A0_19 l0_19.length c0_19) := (blk_cell BK143.out 19).trans rfl; have hcz12_20 : w11.cell? ⟨gb143, 20, none⟩ = some (.slice A0_20 l0_20.length c0_20) := (blk_cell BK143.out 20).trans rfl; have hfz12_0 := blk_frozen BK143.out 0; have hfz12_1 := blk_frozen BK143.out 1; have hfz12_2 := blk_frozen BK143.out 2; have hfz12_3 := blk_frozen BK143.out 3; have hfz12_4 := blk_frozen BK143.out 4; have hfz12_5 := blk_frozen BK143.out 5; have hfz12_6 := blk_frozen BK143.out 6; have hfz12_7 := blk_frozen BK143.out 7; have hfz12_8 := blk_frozen BK143.out 8; have hfz12_9 := blk_frozen BK143.out 9; have hfz12_10 := blk_frozen BK143.out 10; have hfz12_11 := blk_frozen BK143.out 11; have hfz12_12 := blk_frozen BK143.out 12; have hfz12_13 := blk_frozen BK143.out 13; have hfz12_14 := blk_frozen BK143.out 14; have hfz12_15 := blk_frozen BK143.out 15; have hfz12_16 := blk_frozen BK143.out 16; have hfz12_17 := blk_frozen BK143.out 17; have hfz12_18 := blk_frozen BK143.out 18; have hfz12_19 := blk_frozen BK143.out 19; have hfz12_20 := blk_frozen BK143.out 20) | (go_at_call 42; (with_reducible refine (comptoirref07_row.calls a0_0 t144 t145 t146 t147 _ A2.out).mono ?_); rintro e w13 ⟨rfl, hb⟩; have n0_ := Aside0.mk (blk_below (g := gb143) (o := .cells #[.int .i64 a0_0, .int .i64 a0_1, .string a0_2, .string a0_3, .string a0_4, .string a0_5, .int .u64 a0_6, .string a0_7, .string a0_8, .string a0_9, .string a0_10, .int .i64 a0_11, .string a0_12, .string a0_13, .int .i64 a0_14, .string a0_15, .slice A0_16 l0_16.length c0_16, .string a0_17, .string a0_18, .slice A0_19 l0_19.length c0_19, .slice A0_20 l0_20.length c0_20] 29 (0, 0)) (by (with_reducible repeat (first | refine blk_drewN ?_ _ | refine blk_drew ?_ | refine blk_alloc ?_ _)); exact BK143.out) hb); have n1_ := Aside0.mk (below_step (by repeat (first | (with_reducible first | exact HB.out | apply below_alloc | apply pw_below_drewN | apply below_drew1 | refine below_set ?_ GE143.out) | exact HB.out)) hb); clear BK143; clear HB; have BK143 := n0_; have HB := n1_; clear n0_ n1_; (try clear hb); (try clear hb2); (try clear hk); (try clear hi)) | ((with_reducible refine gate_dst (N := 3) rfl ?_); refine box_event ?hg (N := 3) ?hd (cs := #[.string (⟨#[]⟩ : ByteArray), .string (⟨#[]⟩ : ByteArray), .string (⟨#[]⟩ : ByteArray), .string (⟨#[]⟩ : ByteArray)]) (t := 37) ?hr ?_; (case hd => rfl); (case hg => rfl); (case hr => first | (go_simp; done) | (go_simp; rfl) | (go_simp; simp only [show ∀ l_ : List UInt8, (l_ != []) = !l_.isEmpty from fun l_ => by cases l_ <;> rfl]; done)); intro gb148 hg w14 hbox hb; have n0_ := Aside0.mk (blk_below (g := gb143) (o := .cells #[.int .i64 a0_0, .int .i64 a0_1, .string a0_2, .string a0_3, .string a0_4, .string a0_5, .int .u64 a0_6, .string a0_7, .string a0_8, .string a0_9, .string a0_10, .int .i64 a0_11, .string a0_12, .string a0_13, .int .i64 a0_14, .string a0_15, .slice A0_16 l0_16.length c0_16, .string a0_17, .string a0_18, .slice A0_19 l0_19.length c0_19, .slice A0_20 l0_20.length c0_20] 29 (0, 0)) (by (with_reducible repeat (first | refine blk_drewN ?_ _ | refine blk_drew ?_ | refine blk_alloc ?_ _)); exact BK143.out) hb); have n1_ := Aside0.mk (below_step (by repeat (first | (with_reducible first | exact HB.out | apply below_alloc | apply pw_below_drewN | apply below_drew1 | refine below_set ?_ GE143.out) | exact HB.out)) hb); have n2_ := Aside0.mk (hbox); have n3_ := Aside0.mk ((by rw [hg]; exact (below_size (by repeat (first | (with_reducible first | exact HB.out | apply below_alloc | apply pw_below_drewN | apply below_drew1 | refine below_set ?_ GE143.out) | exact HB.out))) : w.heap.size ≤ gb148)); have n4_ := Aside0.mk ((by rw [hg]; exact (below_size (by repeat (first | (with_reducible first | exact HB.out | apply below_alloc | apply pw_below_drewN | apply below_drew1 | refine below_set ?_ GE143.out) | exact HB.out))) : w.heap.size ≤ gb148)); have n5_ := Aside0.mk ((by rw [hg]; exact Nat.ne_of_lt (blk_lt (g := gb143) (o := .cells #[.int .i64 a0_0, .int .i64 a0_1, .string a0_2, .string a0_3, .string a0_4, .string a0_5, .int .u64 a0_6, .string a0_7, .string a0_8, .string a0_9, .string a0_10, .int .i64 a0_11, .string a0_12, .string a0_13, .int .i64 a0_14, .string a0_15, .slice A0_16 l0_16.length c0_16, .string a0_17, .string a0_18, .slice A0_19 l0_19.length c0_19, .slice A0_20 l0_20.length c0_20] 29 (0, 0)) (by (with_reducible repeat (first | refine blk_drewN ?_ _ | refine blk_drew ?_ | refine blk_alloc ?_ _)); exact BK143.out)) : gb143 ≠ gb148)); have n6_ := Aside0.mk ((by rw [hg]; exact Nat.ne_of_gt (blk_lt (g := gb143) (o := .cells #[.int .i64 a0_0, .int .i64 a0_1, .string a0_2, .string a0_3, .string a0_4, .string a0_5, .int .u64 a0_6, .string a0_7, .string a0_8, .string a0_9, .string a0_10, .int .i64 a0_11, .string a0_12, .string a0_13, .int .i64 a0_14, .string a0_15, .slice A0_16 l0_16.length c0_16, .string a0_17, .string a0_18, .slice A0_19 l0_19.length c0_19, .slice A0_20 l0_20.length c0_20] 29 (0, 0)) (by (with_reducible repeat (first | refine blk_drewN ?_ _ | refine blk_drew ?_ | refine blk_alloc ?_ _)); exact BK143.out)) : gb148 ≠ gb143)); clear BK143; clear HB; have BK143 := n0_; have HB := n1_; have BK148 := n2_; have GW148 := n3_; have GE148 := n4_; have NB143_148 := n5_; have NB148_143 := n6_; clear n0_ n1_ n2_ n3_ n4_ n5_ n6_; clear hb hbox hg; have hnb15 := NB148_143.out; have hnc15 := NB143_148.out; have hcz16_0 : w14.cell? ⟨gb148, 0, none⟩ = some (.string (⟨#[]⟩ : ByteArray)) := (blk_cell BK148.out 0).trans rfl; have hcz16_1 : w14.cell? ⟨gb148, 1, none⟩ = some (.string (⟨#[]⟩ : ByteArray)) := (blk_cell BK148.out 1).trans rfl; have hcz16_2 : w14.cell? ⟨gb148, 2, none⟩ = some (.string (⟨#[]⟩ : ByteArray)) := (blk_cell BK148.out 2).trans rfl; have hcz16_3 : w14.cell? ⟨gb148, 3, none⟩ = some (.string (⟨#[]⟩ : ByteArray)) := (blk_cell BK148.out 3).trans rfl; have hfz16_0 := blk_frozen BK148.out 0; have hfz16_1 := blk_frozen BK148.out 1; have hfz16_2 := blk_frozen BK148.out 2; have hfz16_3 := blk_frozen BK148.out 3) | ((with_reducible refine gate_dst (N := 13) rfl ?_); refine wpList_load_row rfl 29 _ rfl gb143 rfl 29 #[.int .i64 a0_0, .int .i64 a0_1, .string a0_2, .string a0_3, .string a0_4, .string a0_5, .int .u64 a0_6, .string a0_7, .string a0_8, .string a0_9, .string a0_10, .int .i64 a0_11, .string a0_12, .string a0_13, .int .i64 a0_14, .string a0_15, .slice A0_16 l0_16.length c0_16, .string a0_17, .string a0_18, .slice A0_19 l0_19.length c0_19, .slice A0_20 l0_20.length c0_20] (0, 0) _ ?lb hu29 rfl (by kernel_rfl) ?_; (case lb => exact (by (with_reducible repeat (first | refine blk_drewN ?_ _ | refine blk_drew ?_ | refine blk_alloc ?_ _)); refine blk_far ?_ NB143_148.out _; (with_reducible repeat (first | refine blk_drewN ?_ _ | refine blk_drew ?_ | refine blk_alloc ?_ _)); refine blk_far ?_ NB143_148.out _; (with_reducible repeat (first | refine blk_drewN ?_ _ | refine blk_drew ?_ | refine blk_alloc ?_ _)); refine blk_far ?_ NB143_148.out _; (with_reducible repeat (first | refine blk_drewN ?_ _ | refine blk_drew ?_ | refine blk_alloc ?_ _)); refine blk_far ?_ NB143_148.out _; (with_reducible repeat (first | refine blk_drewN ?_ _ | refine blk_drew ?_ | refine blk_alloc ?_ _)); exact BK143.out))) | (go_at_call 43; (with_reducible refine (comptoirref07_has.calls k a0_0 a0_1 a0_2 a0_3 a0_4 a0_5 a0_6 a0_7 a0_8 a0_9 a0_10 a0_11 a0_12 a0_13 a0_14 a0_15 _ _ l0_16 a0_17 a0_18 _ _ l0_19 _ _ l0_20 t149 _ ?side1 ?side2 ?side3 ?side4 ?side5 ?side6 A10.out).mono ?_); (case side1 => exact Kd.C_below HR0_16.out (by repeat (first | (with_reducible first | exact HB.out | apply below_alloc | apply pw_below_drewN | apply below_drew1 | refine below_set ?_ GE143.out | refine below_set ?_ GE148.out) | exact HB.out))); (case side2 => exact HC0_16.out); (case side3 => exact Kd.C_below HR0_19.out (by repeat (first | (with_reducible first | exact HB.out | apply below_alloc | apply pw_below_drewN | apply below_drew1 | refine below_set ?_ GE143.out | refine below_set ?_ GE148.out) | exact HB.out))); (case side4 => exact HC0_19.out); (case side5 => exact Kd.C_below HR0_20.out (by repeat (first | (with_reducible first | exact HB.out | apply below_alloc | apply pw_below_drewN | apply below_drew1 | refine below_set ?_ GE143.out | refine below_set ?_ GE148.out) | exact HB.out))); (case side6 => exact HC0_20.out); rintro e w17 ⟨rfl, hb⟩; have n0_ := Aside0.mk (blk_below (g := gb143) (o := .cells #[.int .i64 a0_0, .int .i64 a0_1, .string a0_2, .string a0_3, .string a0_4, .string a0_5, .int .u64 a0_6, .string a0_7, .string a0_8, .string a0_9, .string a0_10, .int .i64 a0_11, .string a0_12, .string a0_13, .int .i64 a0_14, .string a0_15, .slice A0_16 l0_16.length c0_16, .string a0_17, .string a0_18, .slice A0_19 l0_19.length c0_19, .slice A0_20 l0_20.length c0_20] 29 (0, 0)) (by (with_reducible repeat (first | refine blk_drewN ?_ _ | refine blk_drew ?_ | refine blk_alloc ?_ _)); refine blk_far ?_ NB143_148.out _; (with_reducible repeat (first | refine blk_drewN ?_ _ | refine blk_drew ?_ | refine blk_alloc ?_ _)); refine blk_far ?_ NB143_148.out _; (with_reducible repeat (first | refine blk_drewN ?_ _ | refine blk_drew ?_ | refine blk_alloc ?_ _)); refine blk_far ?_ NB143_148.out _; (with_reducible repeat (first | refine blk_drewN ?_ _ | refine blk_drew ?_ | refine blk_alloc ?_ _)); refine blk_far ?_ NB143_148.out _; (with_reducible repeat (first | refine blk_drewN ?_ _ | refine blk_drew ?_ | refine blk_alloc ?_ _)); exact BK143.out) hb); have n1_ := Aside0.mk (blk_below (g := gb148) (o := .cells #[.string t144, .string t145, .string t146, .string t147] 37 (0, 0)) (by (with_reducible repeat (first | refine blk_drewN ?_ _ | refine blk_drew ?_ | refine blk_alloc ?_ _)); refine blk_put (cs := #[.string t144, .string t145, .string t146, .string (⟨#[]⟩ : ByteArray)]) ?_ 3 _ rfl; (with_reducible repeat (first | refine blk_drewN ?_ _ | refine blk_drew ?_ | refine blk_alloc ?_ _)); refine blk_put (cs := #[.string t144, .string t145, .string (⟨#[]⟩ : ByteArray), .string (⟨#[]⟩ : ByteArray)]) ?_ 2 _ rfl; (with_reducible repeat (first | refine blk_drewN ?_ _ | refine blk_drew ?_ | refine blk_alloc ?_ _)); refine blk_put (cs := #[.string t144, .string (⟨#[]⟩ : ByteArray), .string (⟨#[]⟩ : ByteArray), .string (⟨#[]⟩ : ByteArray)]) ?_ 1 _ rfl; (with_reducible repeat (first | refine blk_drewN ?_ _ | refine blk_drew ?_ | refine blk_alloc ?_ _)); refine blk_put (cs := #[.string (⟨#[]⟩ : ByteArray), .string (⟨#[]⟩ : ByteArray), .string (⟨#[]⟩ : ByteArray), .string (⟨#[]⟩ : ByteArray)]) ?_ 0 _ rfl; (with_reducible repeat (first | refine blk_drewN ?_ _ | refine blk_drew ?_ | refine blk_alloc ?_ _)); exact BK148.out) hb); have n2_ := Aside0.mk (below_step (by repeat (first | (with_reducible first | exact HB.out | apply below_alloc | apply pw_below_drewN | apply below_drew1 | refine below_set ?_ GE143.out | refine below_set ?_ GE148.out) | exact HB.out)) hb); clear BK143; clear BK148; clear HB; have BK143 := n0_; have BK148 := n1_; have HB := n2_; clear n0_ n1_ n2_; (try clear hb); (try clear hb2); (try clear hk); (try clear hi)))
    repeat (go_quiet (first | ((with_reducible refine gate_dst (N := 1) rfl ?_); refine box_event ?hg (N := 1) ?hd (cs := #[.int .i64 a0_0, .int .i64 a0_1, .string a0_2, .string a0_3, .string a0_4, .string a0_5, .int .u64 a0_6, .string a0_7, .string a0_8, .string a0_9, .string a0_10, .int .i64 a0_11, .string a0_12, .string a0_13, .int .i64 a0_14, .string a0_15, .slice A0_16 l0_16.length c0_16, .string a0_17, .string a0_18, .slice A0_19 l0_19.length c0_19, .slice A0_20 l0_20.length c0_20]) (t := 29) ?hr ?_; (case hd => rfl); (case hg => rfl); (case hr => first | (go_simp; done) | (go_simp; rfl) | (go_simp; simp only [show ∀ l_ : List UInt8, (l_ != []) = !l_.isEmpty from fun l_ => by cases l_ <;> rfl]; done)); intro gb143 hg w11 hbox hb; have n0_ := Aside0.mk (below_step (by repeat (first | (with_reducible first | exact HB.out | apply below_alloc | apply pw_below_drewN | apply below_drew1) | exact HB.out)) hb); have n1_ := Aside0.mk (hbox); have n2_ := Aside0.mk ((by rw [hg]; exact (below_size (by repeat (first | (with_reducible first | exact HB.out | apply below_alloc | apply pw_below_drewN | apply below_drew1) | exact HB.out))) : w.heap.size ≤ gb143)); have n3_ := Aside0.mk ((by rw [hg]; exact (below_size (by repeat (first | (with_reducible first | exact HB.out | apply below_alloc | apply pw_below_drewN | apply below_drew1) | exact HB.out))) : w.heap.size ≤ gb143)); clear HB; have HB := n0_; have BK143 := n1_; have GW143 := n2_; have GE143 := n3_; clear n0_ n1_ n2_ n3_; clear hb hbox hg; have hcz12_0 : w11.cell? ⟨gb143, 0, none⟩ = some (.int .i64 a0_0) := (blk_cell BK143.out 0).trans rfl; have hcz12_1 : w11.cell? ⟨gb143, 1, none⟩ = some (.int .i64 a0_1) := (blk_cell BK143.out 1).trans rfl; have hcz12_2 : w11.cell? ⟨gb143, 2, none⟩ = some (.string a0_2) := (blk_cell BK143.out 2).trans rfl; have hcz12_3 : w11.cell? ⟨gb143, 3, none⟩ = some (.string a0_3) := (blk_cell BK143.out 3).trans rfl; have hcz12_4 : w11.cell? ⟨gb143, 4, none⟩ = some (.string a0_4) := (blk_cell BK143.out 4).trans rfl; have hcz12_5 : w11.cell? ⟨gb143, 5, none⟩ = some (.string a0_5) := (blk_cell BK143.out 5).trans rfl; have hcz12_6 : w11.cell? ⟨gb143, 6, none⟩ = some (.int .u64 a0_6) := (blk_cell BK143.out 6).trans rfl; have hcz12_7 : w11.cell? ⟨gb143, 7, none⟩ = some (.string a0_7) := (blk_cell BK143.out 7).trans rfl; have hcz12_8 : w11.cell? ⟨gb143, 8, none⟩ = some (.string a0_8) := (blk_cell BK143.out 8).trans rfl; have hcz12_9 : w11.cell? ⟨gb143, 9, none⟩ = some (.string a0_9) := (blk_cell BK143.out 9).trans rfl; have hcz12_10 : w11.cell? ⟨gb143, 10, none⟩ = some (.string a0_10) := (blk_cell BK143.out 10).trans rfl; have hcz12_11 : w11.cell? ⟨gb143, 11, none⟩ = some (.int .i64 a0_11) := (blk_cell BK143.out 11).trans rfl; have hcz12_12 : w11.cell? ⟨gb143, 12, none⟩ = some (.string a0_12) := (blk_cell BK143.out 12).trans rfl; have hcz12_13 : w11.cell? ⟨gb143, 13, none⟩ = some (.string a0_13) := (blk_cell BK143.out 13).trans rfl; have hcz12_14 : w11.cell? ⟨gb143, 14, none⟩ = some (.int .i64 a0_14) := (blk_cell BK143.out 14).trans rfl; have hcz12_15 : w11.cell? ⟨gb143, 15, none⟩ = some (.string a0_15) := (blk_cell BK143.out 15).trans rfl; have hcz12_16 : w11.cell? ⟨gb143, 16, none⟩ = some (.slice A0_16 l0_16.length c0_16) := (blk_cell BK143.out 16).trans rfl; have hcz12_17 : w11.cell? ⟨gb143, 17, none⟩ = some (.string a0_17) := (blk_cell BK143.out 17).trans rfl; have hcz12_18 : w11.cell? ⟨gb143, 18, none⟩ = some (.string a0_18) := (blk_cell BK143.out 18).trans rfl; have hcz12_19 : w11.cell? ⟨gb143, 19, none⟩ = some (.slice A0_19 l0_19.length c0_19) := (blk_cell BK143.out 19).trans rfl; have hcz12_20 : w11.cell? ⟨gb143, 20, none⟩ = some (.slice A0_20 l0_20.length c0_20) := (blk_cell BK143.out 20).trans rfl; have hfz12_0 := blk_frozen BK143.out 0; have hfz12_1 := blk_frozen BK143.out 1; have hfz12_2 := blk_frozen BK143.out 2; have hfz12_3 := blk_frozen BK143.out 3; have hfz12_4 := blk_frozen BK143.out 4; have hfz12_5 := blk_frozen BK143.out 5; have hfz12_6 := blk_frozen BK143.out 6; have hfz12_7 := blk_frozen BK143.out 7; have hfz12_8 := blk_frozen BK143.out 8; have hfz12_9 := blk_frozen BK143.out 9; have hfz12_10 := blk_frozen BK143.out 10; have hfz12_11 := blk_frozen BK143.out 11; have hfz12_12 := blk_frozen BK143.out 12; have hfz12_13 := blk_frozen BK143.out 13; have hfz12_14 := blk_frozen BK143.out 14; have hfz12_15 := blk_frozen BK143.out 15; have hfz12_16 := blk_frozen BK143.out 16; have hfz12_17 := blk_frozen BK143.out 17; have hfz12_18 := blk_frozen BK143.out 18; have hfz12_19 := blk_frozen BK143.out 19; have hfz12_20 := blk_frozen BK143.out 20) | (go_at_call 42; (with_reducible refine (comptoirref07_row.calls a0_0 t144 t145 t146 t147 _ A2.out).mono ?_); rintro e w13 ⟨rfl, hb⟩; have n0_ := Aside0.mk (blk_below (g := gb143) (o := .cells #[.int .i64 a0_0, .int .i64 a0_1, .string a0_2, .string a0_3, .string a0_4, .string a0_5, .int .u64 a0_6, .string a0_7, .string a0_8, .string a0_9, .string a0_10, .int .i64 a0_11, .string a0_12, .string a0_13, .int .i64 a0_14, .string a0_15, .slice A0_16 l0_16.length c0_16, .string a0_17, .string a0_18, .slice A0_19 l0_19.length c0_19, .slice A0_20 l0_20.length c0_20] 29 (0, 0)) (by (with_reducible repeat (first | refine blk_drewN ?_ _ | refine blk_drew ?_ | refine blk_alloc ?_ _)); exact BK143.out) hb); have n1_ := Aside0.mk (below_step (by repeat (first | (with_reducible first | exact HB.out | apply below_alloc | apply pw_below_drewN | apply below_drew1 | refine below_set ?_ GE143.out) | exact HB.out)) hb); clear BK143; clear HB; have BK143 := n0_; have HB := n1_; clear n0_ n1_; (try clear hb); (try clear hb2); (try clear hk); (try clear hi)) | ((with_reducible refine gate_dst (N := 3) rfl ?_); refine box_event ?hg (N := 3) ?hd (cs := #[.string (⟨#[]⟩ : ByteArray), .string (⟨#[]⟩ : ByteArray), .string (⟨#[]⟩ : ByteArray), .string (⟨#[]⟩ : ByteArray)]) (t := 37) ?hr ?_; (case hd => rfl); (case hg => rfl); (case hr => first | (go_simp; done) | (go_simp; rfl) | (go_simp; simp only [show ∀ l_ : List UInt8, (l_ != []) = !l_.isEmpty from fun l_ => by cases l_ <;> rfl]; done)); intro gb148 hg w14 hbox hb; have n0_ := Aside0.mk (blk_below (g := gb143) (o := .cells #[.int .i64 a0_0, .int .i64 a0_1, .string a0_2, .string a0_3, .string a0_4, .string a0_5, .int .u64 a0_6, .string a0_7, .string a0_8, .string a0_9, .string a0_10, .int .i64 a0_11, .string a0_12, .string a0_13, .int .i64 a0_14, .string a0_15, .slice A0_16 l0_16.length c0_16, .string a0_17, .string a0_18, .slice A0_19 l0_19.length c0_19, .slice A0_20 l0_20.length c0_20] 29 (0, 0)) (by (with_reducible repeat (first | refine blk_drewN ?_ _ | refine blk_drew ?_ | refine blk_alloc ?_ _)); exact BK143.out) hb); have n1_ := Aside0.mk (below_step (by repeat (first | (with_reducible first | exact HB.out | apply below_alloc | apply pw_below_drewN | apply below_drew1 | refine below_set ?_ GE143.out) | exact HB.out)) hb); have n2_ := Aside0.mk (hbox); have n3_ := Aside0.mk ((by rw [hg]; exact (below_size (by repeat (first | (with_reducible first | exact HB.out | apply below_alloc | apply pw_below_drewN | apply below_drew1 | refine below_set ?_ GE143.out) | exact HB.out))) : w.heap.size ≤ gb148)); have n4_ := Aside0.mk ((by rw [hg]; exact (below_size (by repeat (first | (with_reducible first | exact HB.out | apply below_alloc | apply pw_below_drewN | apply below_drew1 | refine below_set ?_ GE143.out) | exact HB.out))) : w.heap.size ≤ gb148)); have n5_ := Aside0.mk ((by rw [hg]; exact Nat.ne_of_lt (blk_lt (g := gb143) (o := .cells #[.int .i64 a0_0, .int .i64 a0_1, .string a0_2, .string a0_3, .string a0_4, .string a0_5, .int .u64 a0_6, .string a0_7, .string a0_8, .string a0_9, .string a0_10, .int .i64 a0_11, .string a0_12, .string a0_13, .int .i64 a0_14, .string a0_15, .slice A0_16 l0_16.length c0_16, .string a0_17, .string a0_18, .slice A0_19 l0_19.length c0_19, .slice A0_20 l0_20.length c0_20] 29 (0, 0)) (by (with_reducible repeat (first | refine blk_drewN ?_ _ | refine blk_drew ?_ | refine blk_alloc ?_ _)); exact BK143.out)) : gb143 ≠ gb148)); have n6_ := Aside0.mk ((by rw [hg]; exact Nat.ne_of_gt (blk_lt (g := gb143) (o := .cells #[.int .i64 a0_0, .int .i64 a0_1, .string a0_2, .string a0_3, .string a0_4, .string a0_5, .int .u64 a0_6, .string a0_7, .string a0_8, .string a0_9, .string a0_10, .int .i64 a0_11, .string a0_12, .string a0_13, .int .i64 a0_14, .string a0_15, .slice A0_16 l0_16.length c0_16, .string a0_17, .string a0_18, .slice A0_19 l0_19.length c0_19, .slice A0_20 l0_20.length c0_20] 29 (0, 0)) (by (with_reducible repeat (first | refine blk_drewN ?_ _ | refine blk_drew ?_ | refine blk_alloc ?_ _)); exact BK143.out)) : gb148 ≠ gb143)); clear BK143; clear HB; have BK143 := n0_; have HB := n1_; have BK148 := n2_; have GW148 := n3_; have GE148 := n4_; have NB143_148 := n5_; have NB148_143 := n6_; clear n0_ n1_ n2_ n3_ n4_ n5_ n6_; clear hb hbox hg; have hnb15 := NB148_143.out; have hnc15 := NB143_148.out; have hcz16_0 : w14.cell? ⟨gb148, 0, none⟩ = some (.string (⟨#[]⟩ : ByteArray)) := (blk_cell BK148.out 0).trans rfl; have hcz16_1 : w14.cell? ⟨gb148, 1, none⟩ = some (.string (⟨#[]⟩ : ByteArray)) := (blk_cell BK148.out 1).trans rfl; have hcz16_2 : w14.cell? ⟨gb148, 2, none⟩ = some (.string (⟨#[]⟩ : ByteArray)) := (blk_cell BK148.out 2).trans rfl; have hcz16_3 : w14.cell? ⟨gb148, 3, none⟩ = some (.string (⟨#[]⟩ : ByteArray)) := (blk_cell BK148.out 3).trans rfl; have hfz16_0 := blk_frozen BK148.out 0; have hfz16_1 := blk_frozen BK148.out 1; have hfz16_2 := blk_frozen BK148.out 2; have hfz16_3 := blk_frozen BK148.out 3) | ((with_reducible refine gate_dst (N := 13) rfl ?_); refine wpList_load_row rfl 29 _ rfl gb143 rfl 29 #[.int .i64 a0_0, .int .i64 a0_1, .string a0_2, .string a0_3, .string a0_4, .string a0_5, .int .u64 a0_6, .string a0_7, .string a0_8, .string a0_9, .string a0_10, .int .i64 a0_11, .string a0_12, .string a0_13, .int .i64 a0_14, .string a0_15, .slice A0_16 l0_16.length c0_16, .string a0_17, .string a0_18, .slice A0_19 l0_19.length c0_19, .slice A0_20 l0_20.length c0_20] (0, 0) _ ?lb hu29 rfl (by kernel_rfl) ?_; (case lb => exact (by (with_reducible repeat (first | refine blk_drewN ?_ _ | refine blk_drew ?_ | refine blk_alloc ?_ _)); refine blk_far ?_ NB143_148.out _; (with_reducible repeat (first | refine blk_drewN ?_ _ | refine blk_drew ?_ | refine blk_alloc ?_ _)); refine blk_far ?_ NB143_148.out _; (with_reducible repeat (first | refine blk_drewN ?_ _ | refine blk_drew ?_ | refine blk_alloc ?_ _)); refine blk_far ?_ NB143_148.out _; (with_reducible repeat (first | refine blk_drewN ?_ _ | refine blk_drew ?_ | refine blk_alloc ?_ _)); refine blk_far ?_ NB143_148.out _; (with_reducible repeat (first | refine blk_drewN ?_ _ | refine blk_drew ?_ | refine blk_alloc ?_ _)); exact BK143.out))) | (go_at_call 43; (with_reducible refine (comptoirref07_has.calls k a0_0 a0_1 a0_2 a0_3 a0_4 a0_5 a0_6 a0_7 a0_8 a0_9 a0_10 a0_11 a0_12 a0_13 a0_14 a0_15 _ _ l0_16 a0_17 a0_18 _ _ l0_19 _ _ l0_20 t149 _ ?side1 ?side2 ?side3 ?side4 ?side5 ?side6 A10.out).mono ?_); (case side1 => exact Kd.C_below HR0_16.out (by repeat (first | (with_reducible first | exact HB.out | apply below_alloc | apply pw_below_drewN | apply below_drew1 | refine below_set ?_ GE143.out | refine below_set ?_ GE148.out) | exact HB.out))); (case side2 => exact HC0_16.out); (case side3 => exact Kd.C_below HR0_19.out (by repeat (first | (with_reducible first | exact HB.out | apply below_alloc | apply pw_below_drewN | apply below_drew1 | refine below_set ?_ GE143.out | refine below_set ?_ GE148.out) | exact HB.out))); (case side4 => exact HC0_19.out); (case side5 => exact Kd.C_below HR0_20.out (by repeat (first | (with_reducible first | exact HB.out | apply below_alloc | apply pw_below_drewN | apply below_drew1 | refine below_set ?_ GE143.out | refine below_set ?_ GE148.out) | exact HB.out))); (case side6 => exact HC0_20.out); rintro e w17 ⟨rfl, hb⟩; have n0_ := Aside0.mk (blk_below (g := gb143) (o := .cells #[.int .i64 a0_0, .int .i64 a0_1, .string a0_2, .string a0_3, .string a0_4, .string a0_5, .int .u64 a0_6, .string a0_7, .string a0_8, .string a0_9, .string a0_10, .int .i64 a0_11, .string a0_12, .string a0_13, .int .i64 a0_14, .string a0_15, .slice A0_16 l0_16.length c0_16, .string a0_17, .string a0_18, .slice A0_19 l0_19.length c0_19, .slice A0_20 l0_20.length c0_20] 29 (0, 0)) (by (with_reducible repeat (first | refine blk_drewN ?_ _ | refine blk_drew ?_ | refine blk_alloc ?_ _)); refine blk_far ?_ NB143_148.out _; (with_reducible repeat (first | refine blk_drewN ?_ _ | refine blk_drew ?_ | refine blk_alloc ?_ _)); refine blk_far ?_ NB143_148.out _; (with_reducible repeat (first | refine blk_drewN ?_ _ | refine blk_drew ?_ | refine blk_alloc ?_ _)); refine blk_far ?_ NB143_148.out _; (with_reducible repeat (first | refine blk_drewN ?_ _ | refine blk_drew ?_ | refine blk_alloc ?_ _)); refine blk_far ?_ NB143_148.out _; (with_reducible repeat (first | refine blk_drewN ?_ _ | refine blk_drew ?_ | refine blk_alloc ?_ _)); exact BK143.out) hb); have n1_ := Aside0.mk (blk_below (g := gb148) (o := .cells #[.string t144, .string t145, .string t146, .string t147] 37 (0, 0)) (by (with_reducible repeat (first | refine blk_drewN ?_ _ | refine blk_drew ?_ | refine blk_alloc ?_ _)); refine blk_put (cs := #[.string t144, .string t145, .string t146, .string (⟨#[]⟩ : ByteArray)]) ?_ 3 _ rfl; (with_reducible repeat (first | refine blk_drewN ?_ _ | refine blk_drew ?_ | refine blk_alloc ?_ _)); refine blk_put (cs := #[.string t144, .string t145, .string (⟨#[]⟩ : ByteArray), .string (⟨#[]⟩ : ByteArray)]) ?_ 2 _ rfl; (with_reducible repeat (first | refine blk_drewN ?_ _ | refine blk_drew ?_ | refine blk_alloc ?_ _)); refine blk_put (cs := #[.string t144, .string (⟨#[]⟩ : ByteArray), .string (⟨#[]⟩ : ByteArray), .string (⟨#[]⟩ : ByteArray)]) ?_ 1 _ rfl; (with_reducible repeat (first | refine blk_drewN ?_ _ | refine blk_drew ?_ | refine blk_alloc ?_ _)); refine blk_put (cs := #[.string (⟨#[]⟩ : ByteArray), .string (⟨#[]⟩ : ByteArray), .string (⟨#[]⟩ : ByteArray), .string (⟨#[]⟩ : ByteArray)]) ?_ 0 _ rfl; (with_reducible repeat (first | refine blk_drewN ?_ _ | refine blk_drew ?_ | refine blk_alloc ?_ _)); exact BK148.out) hb); have n2_ := Aside0.mk (below_step (by repeat (first | (with_reducible first | exact HB.out | apply below_alloc | apply pw_below_drewN | apply below_drew1 | refine below_set ?_ GE143.out | refine below_set ?_ GE148.out) | exact HB.out)) hb); clear BK143; clear BK148; clear HB; have BK143 := n0_; have BK148 := n1_; have HB := n2_; clear n0_ n1_ n2_; (try clear hb); (try clear hb2); (try clear hk); (try clear hi))); try go_wp2_with (first | ((with_reducible refine gate_dst (N := 1) rfl ?_); refine box_event ?hg (N := 1) ?hd (cs := #[.int .i64 a0_0, .int .i64 a0_1, .string a0_2, .string a0_3, .string a0_4, .string a0_5, .int .u64 a0_6, .string a0_7, .string a0_8, .string a0_9, .string a0_10, .int .i64 a0_11, .string a0_12, .string a0_13, .int .i64 a0_14, .string a0_15, .slice A0_16 l0_16.length c0_16, .string a0_17, .string a0_18, .slice A0_19 l0_19.length c0_19, .slice A0_20 l0_20.length c0_20]) (t := 29) ?hr ?_; (case hd => rfl); (case hg => rfl); (case hr => first | (go_simp; done) | (go_simp; rfl) | (go_simp; simp only [show ∀ l_ : List UInt8, (l_ != []) = !l_.isEmpty from fun l_ => by cases l_ <;> rfl]; done)); intro gb143 hg w11 hbox hb; have n0_ := Aside0.mk (below_step (by repeat (first | (with_reducible first | exact HB.out | apply below_alloc | apply pw_below_drewN | apply below_drew1) | exact HB.out)) hb); have n1_ := Aside0.mk (hbox); have n2_ := Aside0.mk ((by rw [hg]; exact (below_size (by repeat (first | (with_reducible first | exact HB.out | apply below_alloc | apply pw_below_drewN | apply below_drew1) | exact HB.out))) : w.heap.size ≤ gb143)); have n3_ := Aside0.mk ((by rw [hg]; exact (below_size (by repeat (first | (with_reducible first | exact HB.out | apply below_alloc | apply pw_below_drewN | apply below_drew1) | exact HB.out))) : w.heap.size ≤ gb143)); clear HB; have HB := n0_; have BK143 := n1_; have GW143 := n2_; have GE143 := n3_; clear n0_ n1_ n2_ n3_; clear hb hbox hg; have hcz12_0 : w11.cell? ⟨gb143, 0, none⟩ = some (.int .i64 a0_0) := (blk_cell BK143.out 0).trans rfl; have hcz12_1 : w11.cell? ⟨gb143, 1, none⟩ = some (.int .i64 a0_1) := (blk_cell BK143.out 1).trans rfl; have hcz12_2 : w11.cell? ⟨gb143, 2, none⟩ = some (.string a0_2) := (blk_cell BK143.out 2).trans rfl; have hcz12_3 : w11.cell? ⟨gb143, 3, none⟩ = some (.string a0_3) := (blk_cell BK143.out 3).trans rfl; have hcz12_4 : w11.cell? ⟨gb143, 4, none⟩ = some (.string a0_4) := (blk_cell BK143.out 4).trans rfl; have hcz12_5 : w11.cell? ⟨gb143, 5, none⟩ = some (.string a0_5) := (blk_cell BK143.out 5).trans rfl; have hcz12_6 : w11.cell? ⟨gb143, 6, none⟩ = some (.int .u64 a0_6) := (blk_cell BK143.out 6).trans rfl; have hcz12_7 : w11.cell? ⟨gb143, 7, none⟩ = some (.string a0_7) := (blk_cell BK143.out 7).trans rfl; have hcz12_8 : w11.cell? ⟨gb143, 8, none⟩ = some (.string a0_8) := (blk_cell BK143.out 8).trans rfl; have hcz12_9 : w11.cell? ⟨gb143, 9, none⟩ = some (.string a0_9) := (blk_cell BK143.out 9).trans rfl; have hcz12_10 : w11.cell? ⟨gb143, 10, none⟩ = some (.string a0_10) := (blk_cell BK143.out 10).trans rfl; have hcz12_11 : w11.cell? ⟨gb143, 11, none⟩ = some (.int .i64 a0_11) := (blk_cell BK143.out 11).trans rfl; have hcz12_12 : w11.cell? ⟨gb143, 12, none⟩ = some (.string a0_12) := (blk_cell BK143.out 12).trans rfl; have hcz12_13 : w11.cell? ⟨gb143, 13, none⟩ = some (.string a0_13) := (blk_cell BK143.out 13).trans rfl; have hcz12_14 : w11.cell? ⟨gb143, 14, none⟩ = some (.int .i64 a0_14) := (blk_cell BK143.out 14).trans rfl; have hcz12_15 : w11.cell? ⟨gb143, 15, none⟩ = some (.string a0_15) := (blk_cell BK143.out 15).trans rfl; have hcz12_16 : w11.cell? ⟨gb143, 16, none⟩ = some (.slice A0_16 l0_16.length c0_16) := (blk_cell BK143.out 16).trans rfl; have hcz12_17 : w11.cell? ⟨gb143, 17, none⟩ = some (.string a0_17) := (blk_cell BK143.out 17).trans rfl; have hcz12_18 : w11.cell? ⟨gb143, 18, none⟩ = some (.string a0_18) := (blk_cell BK143.out 18).trans rfl; have hcz12_19 : w11.cell? ⟨gb143, 19, none⟩ = some (.slice A0_19 l0_19.length c0_19) := (blk_cell BK143.out 19).trans rfl; have hcz12_20 : w11.cell? ⟨gb143, 20, none⟩ = some (.slice A0_20 l0_20.length c0_20) := (blk_cell BK143.out 20).trans rfl; have hfz12_0 := blk_frozen BK143.out 0; have hfz12_1 := blk_frozen BK143.out 1; have hfz12_2 := blk_frozen BK143.out 2; have hfz12_3 := blk_frozen BK143.out 3; have hfz12_4 := blk_frozen BK143.out 4; have hfz12_5 := blk_frozen BK143.out 5; have hfz12_6 := blk_frozen BK143.out 6; have hfz12_7 := blk_frozen BK143.out 7; have hfz12_8 := blk_frozen BK143.out 8; have hfz12_9 := blk_frozen BK143.out 9; have hfz12_10 := blk_frozen BK143.out 10; have hfz12_11 := blk_frozen BK143.out 11; have hfz12_12 := blk_frozen BK143.out 12; have hfz12_13 := blk_frozen BK143.out 13; have hfz12_14 := blk_frozen BK143.out 14; have hfz12_15 := blk_frozen BK143.out 15; have hfz12_16 := blk_frozen BK143.out 16; have hfz12_17 := blk_frozen BK143.out 17; have hfz12_18 := blk_frozen BK143.out 18; have hfz12_19 := blk_frozen BK143.out 19; have hfz12_20 := blk_frozen BK143.out 20) | (go_at_call 42; (with_reducible refine (comptoirref07_row.calls a0_0 t144 t145 t146 t147 _ A2.out).mono ?_); rintro e w13 ⟨rfl, hb⟩; have n0_ := Aside0.mk (blk_below (g := gb143) (o := .cells #[.int .i64 a0_0, .int .i64 a0_1, .string a0_2, .string a0_3, .string a0_4, .string a0_5, .int .u64 a0_6, .string a0_7, .string a0_8, .string a0_9, .string a0_10, .int .i64 a0_11, .string a0_12, .string a0_13, .int .i64 a0_14, .string a0_15, .slice A0_16 l0_16.length c0_16, .string a0_17, .string a0_18, .slice A0_19 l0_19.length c0_19, .slice A0_20 l0_20.length c0_20] 29 (0, 0)) (by (with_reducible repeat (first | refine blk_drewN ?_ _ | refine blk_drew ?_ | refine blk_alloc ?_ _)); exact BK143.out) hb); have n1_ := Aside0.mk (below_step (by repeat (first | (with_reducible first | exact HB.out | apply below_alloc | apply pw_below_drewN | apply below_drew1 | refine below_set ?_ GE143.out) | exact HB.out)) hb); clear BK143; clear HB; have BK143 := n0_; have HB := n1_; clear n0_ n1_; (try clear hb); (try clear hb2); (try clear hk); (try clear hi)) | ((with_reducible refine gate_dst (N := 3) rfl ?_); refine box_event ?hg (N := 3) ?hd (cs := #[.string (⟨#[]⟩ : ByteArray), .string (⟨#[]⟩ : ByteArray), .string (⟨#[]⟩ : ByteArray), .string (⟨#[]⟩ : ByteArray)]) (t := 37) ?hr ?_; (case hd => rfl); (case hg => rfl); (case hr => first | (go_simp; done) | (go_simp; rfl) | (go_simp; simp only [show ∀ l_ : List UInt8, (l_ != []) = !l_.isEmpty from fun l_ => by cases l_ <;> rfl]; done)); intro gb148 hg w14 hbox hb; have n0_ := Aside0.mk (blk_below (g := gb143) (o := .cells #[.int .i64 a0_0, .int .i64 a0_1, .string a0_2, .string a0_3, .string a0_4, .string a0_5, .int .u64 a0_6, .string a0_7, .string a0_8, .string a0_9, .string a0_10, .int .i64 a0_11, .string a0_12, .string a0_13, .int .i64 a0_14, .string a0_15, .slice A0_16 l0_16.length c0_16, .string a0_17, .string a0_18, .slice A0_19 l0_19.length c0_19, .slice A0_20 l0_20.length c0_20] 29 (0, 0)) (by (with_reducible repeat (first | refine blk_drewN ?_ _ | refine blk_drew ?_ | refine blk_alloc ?_ _)); exact BK143.out) hb); have n1_ := Aside0.mk (below_step (by repeat (first | (with_reducible first | exact HB.out | apply below_alloc | apply pw_below_drewN | apply below_drew1 | refine below_set ?_ GE143.out) | exact HB.out)) hb); have n2_ := Aside0.mk (hbox); have n3_ := Aside0.mk ((by rw [hg]; exact (below_size (by repeat (first | (with_reducible first | exact HB.out | apply below_alloc | apply pw_below_drewN | apply below_drew1 | refine below_set ?_ GE143.out) | exact HB.out))) : w.heap.size ≤ gb148)); have n4_ := Aside0.mk ((by rw [hg]; exact (below_size (by repeat (first | (with_reducible first | exact HB.out | apply below_alloc | apply pw_below_drewN | apply below_drew1 | refine below_set ?_ GE143.out) | exact HB.out))) : w.heap.size ≤ gb148)); have n5_ := Aside0.mk ((by rw [hg]; exact Nat.ne_of_lt (blk_lt (g := gb143) (o := .cells #[.int .i64 a0_0, .int .i64 a0_1, .string a0_2, .string a0_3, .string a0_4, .string a0_5, .int .u64 a0_6, .string a0_7, .string a0_8, .string a0_9, .string a0_10, .int .i64 a0_11, .string a0_12, .string a0_13, .int .i64 a0_14, .string a0_15, .slice A0_16 l0_16.length c0_16, .string a0_17, .string a0_18, .slice A0_19 l0_19.length c0_19, .slice A0_20 l0_20.length c0_20] 29 (0, 0)) (by (with_reducible repeat (first | refine blk_drewN ?_ _ | refine blk_drew ?_ | refine blk_alloc ?_ _)); exact BK143.out)) : gb143 ≠ gb148)); have n6_ := Aside0.mk ((by rw [hg]; exact Nat.ne_of_gt (blk_lt (g := gb143) (o := .cells #[.int .i64 a0_0, .int .i64 a0_1, .string a0_2, .string a0_3, .string a0_4, .string a0_5, .int .u64 a0_6, .string a0_7, .string a0_8, .string a0_9, .string a0_10, .int .i64 a0_11, .string a0_12, .string a0_13, .int .i64 a0_14, .string a0_15, .slice A0_16 l0_16.length c0_16, .string a0_17, .string a0_18, .slice A0_19 l0_19.length c0_19, .slice A0_20 l0_20.length c0_20] 29 (0, 0)) (by (with_reducible repeat (first | refine blk_drewN ?_ _ | refine blk_drew ?_ | refine blk_alloc ?_ _)); exact BK143.out)) : gb148 ≠ gb143)); clear BK143; clear HB; have BK143 := n0_; have HB := n1_; have BK148 := n2_; have GW148 := n3_; have GE148 := n4_; have NB143_148 := n5_; have NB148_143 := n6_; clear n0_ n1_ n2_ n3_ n4_ n5_ n6_; clear hb hbox hg; have hnb15 := NB148_143.out; have hnc15 := NB143_148.out; have hcz16_0 : w14.cell? ⟨gb148, 0, none⟩ = some (.string (⟨#[]⟩ : ByteArray)) := (blk_cell BK148.out 0).trans rfl; have hcz16_1 : w14.cell? ⟨gb148, 1, none⟩ = some (.string (⟨#[]⟩ : ByteArray)) := (blk_cell BK148.out 1).trans rfl; have hcz16_2 : w14.cell? ⟨gb148, 2, none⟩ = some (.string (⟨#[]⟩ : ByteArray)) := (blk_cell BK148.out 2).trans rfl; have hcz16_3 : w14.cell? ⟨gb148, 3, none⟩ = some (.string (⟨#[]⟩ : ByteArray)) := (blk_cell BK148.out 3).trans rfl; have hfz16_0 := blk_frozen BK148.out 0; have hfz16_1 := blk_frozen BK148.out 1; have hfz16_2 := blk_frozen BK148.out 2; have hfz16_3 := blk_frozen BK148.out 3) | ((with_reducible refine gate_dst (N := 13) rfl ?_); refine wpList_load_row rfl 29 _ rfl gb143 rfl 29 #[.int .i64 a0_0, .int .i64 a0_1, .string a0_2, .string a0_3, .string a0_4, .string a0_5, .int .u64 a0_6, .string a0_7, .string a0_8, .string a0_9, .string a0_10, .int .i64 a0_11, .string a0_12, .string a0_13, .int .i64 a0_14, .string a0_15, .slice A0_16 l0_16.length c0_16, .string a0_17, .string a0_18, .slice A0_19 l0_19.length c0_19, .slice A0_20 l0_20.length c0_20] (0, 0) _ ?lb hu29 rfl (by kernel_rfl) ?_; (case lb => exact (by (with_reducible repeat (first | refine blk_drewN ?_ _ | refine blk_drew ?_ | refine blk_alloc ?_ _)); refine blk_far ?_ NB143_148.out _; (with_reducible repeat (first | refine blk_drewN ?_ _ | refine blk_drew ?_ | refine blk_alloc ?_ _)); refine blk_far ?_ NB143_148.out _; (with_reducible repeat (first | refine blk_drewN ?_ _ | refine blk_drew ?_ | refine blk_alloc ?_ _)); refine blk_far ?_ NB143_148.out _; (with_reducible repeat (first | refine blk_drewN ?_ _ | refine blk_drew ?_ | refine blk_alloc ?_ _)); refine blk_far ?_ NB143_148.out _; (with_reducible repeat (first | refine blk_drewN ?_ _ | refine blk_drew ?_ | refine blk_alloc ?_ _)); exact BK143.out))) | (go_at_call 43; (with_reducible refine (comptoirref07_has.calls k a0_0 a0_1 a0_2 a0_3 a0_4 a0_5 a0_6 a0_7 a0_8 a0_9 a0_10 a0_11 a0_12 a0_13 a0_14 a0_15 _ _ l0_16 a0_17 a0_18 _ _ l0_19 _ _ l0_20 t149 _ ?side1 ?side2 ?side3 ?side4 ?side5 ?side6 A10.out).mono ?_); (case side1 => exact Kd.C_below HR0_16.out (by repeat (first | (with_reducible first | exact HB.out | apply below_alloc | apply pw_below_drewN | apply below_drew1 | refine below_set ?_ GE143.out | refine below_set ?_ GE148.out) | exact HB.out))); (case side2 => exact HC0_16.out); (case side3 => exact Kd.C_below HR0_19.out (by repeat (first | (with_reducible first | exact HB.out | apply below_alloc | apply pw_below_drewN | apply below_drew1 | refine below_set ?_ GE143.out | refine below_set ?_ GE148.out) | exact HB.out))); (case side4 => exact HC0_19.out); (case side5 => exact Kd.C_below HR0_20.out (by repeat (first | (with_reducible first | exact HB.out | apply below_alloc | apply pw_below_drewN | apply below_drew1 | refine below_set ?_ GE143.out | refine below_set ?_ GE148.out) | exact HB.out))); (case side6 => exact HC0_20.out); rintro e w17 ⟨rfl, hb⟩; have n0_ := Aside0.mk (blk_below (g := gb143) (o := .cells #[.int .i64 a0_0, .int .i64 a0_1, .string a0_2, .string a0_3, .string a0_4, .string a0_5, .int .u64 a0_6, .string a0_7, .string a0_8, .string a0_9, .string a0_10, .int .i64 a0_11, .string a0_12, .string a0_13, .int .i64 a0_14, .string a0_15, .slice A0_16 l0_16.length c0_16, .string a0_17, .string a0_18, .slice A0_19 l0_19.length c0_19, .slice A0_20 l0_20.length c0_20] 29 (0, 0)) (by (with_reducible repeat (first | refine blk_drewN ?_ _ | refine blk_drew ?_ | refine blk_alloc ?_ _)); refine blk_far ?_ NB143_148.out _; (with_reducible repeat (first | refine blk_drewN ?_ _ | refine blk_drew ?_ | refine blk_alloc ?_ _)); refine blk_far ?_ NB143_148.out _; (with_reducible repeat (first | refine blk_drewN ?_ _ | refine blk_drew ?_ | refine blk_alloc ?_ _)); refine blk_far ?_ NB143_148.out _; (with_reducible repeat (first | refine blk_drewN ?_ _ | refine blk_drew ?_ | refine blk_alloc ?_ _)); refine blk_far ?_ NB143_148.out _; (with_reducible repeat (first | refine blk_drewN ?_ _ | refine blk_drew ?_ | refine blk_alloc ?_ _)); exact BK143.out) hb); have n1_ := Aside0.mk (blk_below (g := gb148) (o := .cells #[.string t144, .string t145, .string t146, .string t147] 37 (0, 0)) (by (with_reducible repeat (first | refine blk_drewN ?_ _ | refine blk_drew ?_ | refine blk_alloc ?_ _)); refine blk_put (cs := #[.string t144, .string t145, .string t146, .string (⟨#[]⟩ : ByteArray)]) ?_ 3 _ rfl; (with_reducible repeat (first | refine blk_drewN ?_ _ | refine blk_drew ?_ | refine blk_alloc ?_ _)); refine blk_put (cs := #[.string t144, .string t145, .string (⟨#[]⟩ : ByteArray), .string (⟨#[]⟩ : ByteArray)]) ?_ 2 _ rfl; (with_reducible repeat (first | refine blk_drewN ?_ _ | refine blk_drew ?_ | refine blk_alloc ?_ _)); refine blk_put (cs := #[.string t144, .string (⟨#[]⟩ : ByteArray), .string (⟨#[]⟩ : ByteArray), .string (⟨#[]⟩ : ByteArray)]) ?_ 1 _ rfl; (with_reducible repeat (first | refine blk_drewN ?_ _ | refine blk_drew ?_ | refine blk_alloc ?_ _)); refine blk_put (cs := #[.string (⟨#[]⟩ : ByteArray), .string (⟨#[]⟩ : ByteArray), .string (⟨#[]⟩ : ByteArray), .string (⟨#[]⟩ : ByteArray)]) ?_ 0 _ rfl; (with_reducible repeat (first | refine blk_drewN ?_ _ | refine blk_drew ?_ | refine blk_alloc ?_ _)); exact BK148.out) hb); have n2_ := Aside0.mk (below_step (by repeat (first | (with_reducible first | exact HB.out | apply below_alloc | apply pw_below_drewN | apply below_drew1 | refine below_set ?_ GE143.out | refine below_set ?_ GE148.out) | exact HB.out)) hb); clear BK143; clear BK148; clear HB; have BK143 := n0_; have BK148 := n1_; have HB := n2_; clear n0_ n1_ n2_; (try clear hb); (try clear hb2); (try clear hk); (try clear hi))))
    go_loopg [5] k (fun kq v5 w' => ∃ (x5_1 : Int), v5 = .int .i64 x5_1 ∧ Aside0 (comptoirref07_Fits.l0 kq t149 x5_1 a0_0 a0_1 a0_2 a0_3 a0_4 a0_5 a0_6 a0_7 a0_8 a0_9 a0_10 a0_11 a0_12 a0_13 a0_14 a0_15 l0_16 a0_17 a0_18 l0_19 l0_20 t144 t145 t146 t147 = some r) ∧ Aside0 (kq ≤ k) ∧ Aside0 (w'.heap[gb143]? = some (.cells #[.int .i64 a0_0, .int .i64 a0_1, .string a0_2, .string a0_3, .string a0_4, .string a0_5, .int .u64 a0_6, .string a0_7, .string a0_8, .string a0_9, .string a0_10, .int .i64 a0_11, .string a0_12, .string a0_13, .int .i64 a0_14, .string a0_15, (.slice A0_16 l0_16.length c0_16), .string a0_17, .string a0_18, (.slice A0_19 l0_19.length c0_19), (.slice A0_20 l0_20.length c0_20)] 29 (0, 0))) ∧ Aside0 (w'.heap[gb148]? = some (.cells #[.string t144, .string t145, .string t146, .string t147] 37 (0, 0))) ∧ Aside0 (Below w.heap.size w w'))
    case atStart => exact ⟨(0), (by first | rfl | (simp; done) | (simp [*]; done)), H', ⟨Nat.le_refl _⟩, ⟨by (with_reducible repeat (first | refine blk_drewN ?_ _ | refine blk_drew ?_ | refine blk_alloc ?_ _)); exact BK143.out⟩, ⟨by (with_reducible repeat (first | refine blk_drewN ?_ _ | refine blk_drew ?_ | refine blk_alloc ?_ _)); exact BK148.out⟩, ⟨by repeat (first | (with_reducible first | exact HB.out | apply below_alloc | apply pw_below_drewN | apply below_drew1 | refine below_set ?_ GE143.out | refine below_set ?_ GE148.out) | exact HB.out)⟩⟩
    case round =>
      clear H'
      try clear c1
      try clear p2
      try clear c3
      try clear c3b0
      try clear c3b1
      try clear c8
      try clear c15
      try clear hcz12_0
      try clear hcz12_1
      try clear hcz12_10
      try clear hcz12_11
      try clear hcz12_12
      try clear hcz12_13
      try clear hcz12_14
      try clear hcz12_15
      try clear hcz12_16
      try clear hcz12_17
      try clear hcz12_18
      try clear hcz12_19
      try clear hcz12_2
      try clear hcz12_20
      try clear hcz12_3
      try clear hcz12_4
      try clear hcz12_5
      try clear hcz12_6
      try clear hcz12_7
      try clear hcz12_8
      try clear hcz12_9
      try clear hcz16_0
      try clear hcz16_1
      try clear hcz16_2
      try clear hcz16_3
      try clear hcz5_0
      try clear hcz5_1
      try clear hcz5_10
      try clear hcz5_11
      try clear hcz5_12
      try clear hcz5_13
      try clear hcz5_14
      try clear hcz5_15
      try clear hcz5_16
      try clear hcz5_17
      try clear hcz5_18
      try clear hcz5_19
      try clear hcz5_2
      try clear hcz5_20
      try clear hcz5_3
      try clear hcz5_4
      try clear hcz5_5
      try clear hcz5_6
      try clear hcz5_7
      try clear hcz5_8
      try clear hcz5_9
      try clear hcz9_0
      try clear hcz9_1
      try clear hcz9_2
      try clear hcz9_3
      try clear hfz12_0
      try clear hfz12_1
      try clear hfz12_10
      try clear hfz12_11
      try clear hfz12_12
      try clear hfz12_13
      try clear hfz12_14
      try clear hfz12_15
      try clear hfz12_16
      try clear hfz12_17
      try clear hfz12_18
      try clear hfz12_19
      try clear hfz12_2
      try clear hfz12_20
      try clear hfz12_3
      try clear hfz12_4
      try clear hfz12_5
      try clear hfz12_6
      try clear hfz12_7
      try clear hfz12_8
      try clear hfz12_9
      try clear hfz16_0
      try clear hfz16_1
      try clear hfz16_2
      try clear hfz16_3
      try clear hfz5_0
      try clear hfz5_1
      try clear hfz5_10
      try clear hfz5_11
      try clear hfz5_12
      try clear hfz5_13
      try clear hfz5_14
      try clear hfz5_15
      try clear hfz5_16
      try clear hfz5_17
      try clear hfz5_18
      try clear hfz5_19
      try clear hfz5_2
      try clear hfz5_20
      try clear hfz5_3
      try clear hfz5_4
      try clear hfz5_5
      try clear hfz5_6
      try clear hfz5_7
      try clear hfz5_8
      try clear hfz5_9
      try clear hfz9_0
      try clear hfz9_1
      try clear hfz9_2
      try clear hfz9_3
      obtain ⟨x5_1, rfl, HA, HK1, BK143, BK148, HB⟩ := hrel
      cases gk with
      | zero => exact absurd HA.out (by simp [comptoirref07_Fits.l0])
      | succ k1 =>
        have H := HA.out
        clear HA
        simp only [comptoirref07_Fits.l0] at H
        by_cases c18 : x5_1 < (t146.size : Int)
        · rw [if_pos c18] at H
          have c18b0 : decide (x5_1 < (t146.size : Int)) = true := decide_eq_true c18
          clear c18
          by_cases c19 : 0 ≤ x5_1
          · rw [if_pos c19] at H
            have c19b0 : decide (0 ≤ x5_1) = true := decide_eq_true c19
            clear c19
            replace H := Option.bind_eq_some_iff.mp H
            obtain ⟨t150, A210, H⟩ := H
            replace H : (if t150 = true then (comptoirref07_Fits.l0 k1 t149 (wrap64 (x5_1 + 1)) a0_0 a0_1 a0_2 a0_3 a0_4 a0_5 a0_6 a0_7 a0_8 a0_9 a0_10 a0_11 a0_12 a0_13 a0_14 a0_15 l0_16 a0_17 a0_18 l0_19 l0_20 t144 t145 t146 t147) else (some 19)) = some r := H
            have A21 := Aside0.mk A210
            clear A210
            by_cases c22 : t150 = true
            · subst c22
              have H1 : (comptoirref07_Fits.l0 k1 t149 (wrap64 (x5_1 + 1)) a0_0 a0_1 a0_2 a0_3 a0_4 a0_5 a0_6 a0_7 a0_8 a0_9 a0_10 a0_11 a0_12 a0_13 a0_14 a0_15 l0_16 a0_17 a0_18 l0_19 l0_20 t144 t145 t146 t147) = some r := by rw [if_pos rfl] at H; exact H
              clear H
              have H := H1
              clear H1
              have H' := Aside0.mk H
              clear H
              have hnb23 := NB148_143.out
              have hnc23 := NB143_148.out
              have hcz24_0 : wr.cell? ⟨gb148, 0, none⟩ = some (.string t144) := (blk_cell BK148.out 0).trans rfl
              have hcz24_1 : wr.cell? ⟨gb148, 1, none⟩ = some (.string t145) := (blk_cell BK148.out 1).trans rfl
              have hcz24_2 : wr.cell? ⟨gb148, 2, none⟩ = some (.string t146) := (blk_cell BK148.out 2).trans rfl
              have hcz24_3 : wr.cell? ⟨gb148, 3, none⟩ = some (.string t147) := (blk_cell BK148.out 3).trans rfl
              have hfz24_0 := blk_frozen BK148.out 0
              have hfz24_1 := blk_frozen BK148.out 1
              have hfz24_2 := blk_frozen BK148.out 2
              have hfz24_3 := blk_frozen BK148.out 3
              have p20 : 0 ≤ (x5_1 : Int) := of_decide_eq_true (by first | (with_reducible assumption) | assumption)
              have q20 : x5_1 < (t146.size : Int) := of_decide_eq_true (by first | (with_reducible assumption) | assumption)
              have hx20 := bt_at t146 x5_1
              replace p20 := eq_true p20
              replace q20 := eq_true q20
              go_wp2_with (first | (go_at_call 44; (with_reducible refine (comptoirref07_letter.calls k1 t149 (bt t146 x5_1) true _ A21.out).mono ?_); rintro e w' ⟨rfl, ⟨nd, rfl⟩⟩; (try first | exact ⟨rfl, _, World.drewN_drewN _ _ _⟩ | exact ⟨rfl, _, Eq.trans (World.drewN_drewN _ _ _) (congrArg (World.drewN _) (Nat.add_assoc _ _ _))⟩)))
              repeat (go_quiet (first | (go_at_call 44; (with_reducible refine (comptoirref07_letter.calls k1 t149 (bt t146 x5_1) true _ A21.out).mono ?_); rintro e w' ⟨rfl, ⟨nd, rfl⟩⟩; (try first | exact ⟨rfl, _, World.drewN_drewN _ _ _⟩ | exact ⟨rfl, _, Eq.trans (World.drewN_drewN _ _ _) (congrArg (World.drewN _) (Nat.add_assoc _ _ _))⟩))); try go_wp2_with (first | (go_at_call 44; (with_reducible refine (comptoirref07_letter.calls k1 t149 (bt t146 x5_1) true _ A21.out).mono ?_); rintro e w' ⟨rfl, ⟨nd, rfl⟩⟩; (try first | exact ⟨rfl, _, World.drewN_drewN _ _ _⟩ | exact ⟨rfl, _, Eq.trans (World.drewN_drewN _ _ _) (congrArg (World.drewN _) (Nat.add_assoc _ _ _))⟩))))
              go_roundg k1
              case measure => have := HK1.out; omega
              case rel => exact ⟨(wrap64 (x5_1 + 1)), (by first | rfl | (simp; done) | (simp [*]; done)), H', ⟨by have := HK1.out; omega⟩, ⟨by (with_reducible repeat (first | refine blk_drewN ?_ _ | refine blk_drew ?_ | refine blk_alloc ?_ _)); exact BK143.out⟩, ⟨by (with_reducible repeat (first | refine blk_drewN ?_ _ | refine blk_drew ?_ | refine blk_alloc ?_ _)); exact BK148.out⟩, ⟨by repeat (first | (with_reducible first | exact HB.out | apply below_alloc | apply pw_below_drewN | apply below_drew1 | refine below_set ?_ GE143.out | refine below_set ?_ GE148.out) | exact HB.out)⟩⟩
            · replace c22 := Bool.eq_false_iff.mpr c22
              subst c22
              have H1 : (some 19) = some r := by rw [if_neg (show ¬ (false = true) by decide)] at H; exact H
              clear H
              have H := H1
              clear H1
              obtain rfl := Option.some.inj H
              simp only [Option.some.injEq, Prod.mk.injEq] at H
              obtain ⟨rfl⟩ := H
              have hnb25 := NB148_143.out
              have hnc25 := NB143_148.out
              have hcz26_0 : wr.cell? ⟨gb148, 0, none⟩ = some (.string t144) := (blk_cell BK148.out 0).trans rfl
              have hcz26_1 : wr.cell? ⟨gb148, 1, none⟩ = some (.string t145) := (blk_cell BK148.out 1).trans rfl
              have hcz26_2 : wr.cell? ⟨gb148, 2, none⟩ = some (.string t146) := (blk_cell BK148.out 2).trans rfl
              have hcz26_3 : wr.cell? ⟨gb148, 3, none⟩ = some (.string t147) := (blk_cell BK148.out 3).trans rfl
              have hfz26_0 := blk_frozen BK148.out 0
              have hfz26_1 := blk_frozen BK148.out 1
              have hfz26_2 := blk_frozen BK148.out 2
              have hfz26_3 := blk_frozen BK148.out 3
              have p20 : 0 ≤ (x5_1 : Int) := of_decide_eq_true (by first | (with_reducible assumption) | assumption)
              have q20 : x5_1 < (t146.size : Int) := of_decide_eq_true (by first | (with_reducible assumption) | assumption)
              have hx20 := bt_at t146 x5_1
              replace p20 := eq_true p20
              replace q20 := eq_true q20
              go_wp2_with (first | (go_at_call 44; (with_reducible refine (comptoirref07_letter.calls k1 t149 (bt t146 x5_1) false _ A21.out).mono ?_); rintro e w' ⟨rfl, ⟨nd, rfl⟩⟩; (try first | exact ⟨rfl, _, World.drewN_drewN _ _ _⟩ | exact ⟨rfl, _, Eq.trans (World.drewN_drewN _ _ _) (congrArg (World.drewN _) (Nat.add_assoc _ _ _))⟩)))
              repeat (go_quiet (first | (go_at_call 44; (with_reducible refine (comptoirref07_letter.calls k1 t149 (bt t146 x5_1) false _ A21.out).mono ?_); rintro e w' ⟨rfl, ⟨nd, rfl⟩⟩; (try first | exact ⟨rfl, _, World.drewN_drewN _ _ _⟩ | exact ⟨rfl, _, Eq.trans (World.drewN_drewN _ _ _) (congrArg (World.drewN _) (Nat.add_assoc _ _ _))⟩))); try go_wp2_with (first | (go_at_call 44; (with_reducible refine (comptoirref07_letter.calls k1 t149 (bt t146 x5_1) false _ A21.out).mono ?_); rintro e w' ⟨rfl, ⟨nd, rfl⟩⟩; (try first | exact ⟨rfl, _, World.drewN_drewN _ _ _⟩ | exact ⟨rfl, _, Eq.trans (World.drewN_drewN _ _ _) (congrArg (World.drewN _) (Nat.add_assoc _ _ _))⟩))))
              go_ret
              exact ⟨by first | rfl | (simp [errW_none, errW_some] <;> rfl) | (simp [*, errW_none, errW_some] <;> rfl), by repeat (first | (with_reducible first | exact HB.out | apply below_alloc | apply pw_below_drewN | apply below_drew1 | refine below_set ?_ GE143.out | refine below_set ?_ GE148.out) | exact HB.out)⟩
          · rw [if_neg c19] at H
            exact absurd H (by simp)
        · rw [if_neg c18] at H
          have c18b0 : decide (x5_1 < (t146.size : Int)) = false := decide_eq_false c18
          clear c18
          have H' := Aside0.mk H
          clear H
          have hnb27 := NB148_143.out
          have hnc27 := NB143_148.out
          have hcz28_0 : wr.cell? ⟨gb148, 0, none⟩ = some (.string t144) := (blk_cell BK148.out 0).trans rfl
          have hcz28_1 : wr.cell? ⟨gb148, 1, none⟩ = some (.string t145) := (blk_cell BK148.out 1).trans rfl
          have hcz28_2 : wr.cell? ⟨gb148, 2, none⟩ = some (.string t146) := (blk_cell BK148.out 2).trans rfl
          have hcz28_3 : wr.cell? ⟨gb148, 3, none⟩ = some (.string t147) := (blk_cell BK148.out 3).trans rfl
          have hfz28_0 := blk_frozen BK148.out 0
          have hfz28_1 := blk_frozen BK148.out 1
          have hfz28_2 := blk_frozen BK148.out 2
          have hfz28_3 := blk_frozen BK148.out 3
          go_wp2
          repeat (go_quiet (fail); try go_wp2)
          go_loopg [6] k1 (fun kq v6 w' => ∃ (x6_2 : Int), v6 = .int .i64 x6_2 ∧ Aside0 (comptoirref07_Fits.l1 kq t149 x6_2 a0_0 a0_1 a0_2 a0_3 a0_4 a0_5 a0_6 a0_7 a0_8 a0_9 a0_10 a0_11 a0_12 a0_13 a0_14 a0_15 l0_16 a0_17 a0_18 l0_19 l0_20 t144 t145 t146 t147 = some r) ∧ Aside0 (kq ≤ k1) ∧ Aside0 (w'.heap[gb143]? = some (.cells #[.int .i64 a0_0, .int .i64 a0_1, .string a0_2, .string a0_3, .string a0_4, .string a0_5, .int .u64 a0_6, .string a0_7, .string a0_8, .string a0_9, .string a0_10, .int .i64 a0_11, .string a0_12, .string a0_13, .int .i64 a0_14, .string a0_15, (.slice A0_16 l0_16.length c0_16), .string a0_17, .string a0_18, (.slice A0_19 l0_19.length c0_19), (.slice A0_20 l0_20.length c0_20)] 29 (0, 0))) ∧ Aside0 (w'.heap[gb148]? = some (.cells #[.string t144, .string t145, .string t146, .string t147] 37 (0, 0))) ∧ Aside0 (Below w.heap.size w w'))
          case atStart => exact ⟨(0), (by first | rfl | (simp; done) | (simp [*]; done)), H', ⟨Nat.le_refl _⟩, ⟨by (with_reducible repeat (first | refine blk_drewN ?_ _ | refine blk_drew ?_ | refine blk_alloc ?_ _)); exact BK143.out⟩, ⟨by (with_reducible repeat (first | refine blk_drewN ?_ _ | refine blk_drew ?_ | refine blk_alloc ?_ _)); exact BK148.out⟩, ⟨by repeat (first | (with_reducible first | exact HB.out | apply below_alloc | apply pw_below_drewN | apply below_drew1 | refine below_set ?_ GE143.out | refine below_set ?_ GE148.out) | exact HB.out)⟩⟩
          case round =>
            clear H'
            try clear c1
            try clear c2
            try clear p2
            try clear q2
            try clear hx2
            try clear c3
            try clear c3b0
            try clear c3b1
            try clear p6
            try clear c8
            try clear c15
            try clear c18
            try clear c18b0
            try clear c19
            try clear c19b0
            try clear p20
            try clear q20
            try clear hx20
            try clear c22
            try clear c23
            try clear c25
            try clear c27
            try clear hcz12_0
            try clear hcz12_1
            try clear hcz12_10
            try clear hcz12_11
            try clear hcz12_12
            try clear hcz12_13
            try clear hcz12_14
            try clear hcz12_15
            try clear hcz12_16
            try clear hcz12_17
            try clear hcz12_18
            try clear hcz12_19
            try clear hcz12_2
            try clear hcz12_20
            try clear hcz12_3
            try clear hcz12_4
            try clear hcz12_5
            try clear hcz12_6
            try clear hcz12_7
            try clear hcz12_8
            try clear hcz12_9
            try clear hcz16_0
            try clear hcz16_1
            try clear hcz16_2
            try clear hcz16_3
            try clear hcz24_0
            try clear hcz24_1
            try clear hcz24_2
            try clear hcz24_3
            try clear hcz26_0
            try clear hcz26_1
            try clear hcz26_2
            try clear hcz26_3
            try clear hcz28_0
            try clear hcz28_1
            try clear hcz28_2
            try clear hcz28_3
            try clear hcz5_0
            try clear hcz5_1
            try clear hcz5_10
            try clear hcz5_11
            try clear hcz5_12
            try clear hcz5_13
            try clear hcz5_14
            try clear hcz5_15
            try clear hcz5_16
            try clear hcz5_17
            try clear hcz5_18
            try clear hcz5_19
            try clear hcz5_2
            try clear hcz5_20
            try clear hcz5_3
            try clear hcz5_4
            try clear hcz5_5
            try clear hcz5_6
            try clear hcz5_7
            try clear hcz5_8
            try clear hcz5_9
            try clear hcz9_0
            try clear hcz9_1
            try clear hcz9_2
            try clear hcz9_3
            try clear hfz12_0
            try clear hfz12_1
            try clear hfz12_10
            try clear hfz12_11
            try clear hfz12_12
            try clear hfz12_13
            try clear hfz12_14
            try clear hfz12_15
            try clear hfz12_16
            try clear hfz12_17
            try clear hfz12_18
            try clear hfz12_19
            try clear hfz12_2
            try clear hfz12_20
            try clear hfz12_3
            try clear hfz12_4
            try clear hfz12_5
            try clear hfz12_6
            try clear hfz12_7
            try clear hfz12_8
            try clear hfz12_9
            try clear hfz16_0
            try clear hfz16_1
            try clear hfz16_2
            try clear hfz16_3
            try clear hfz24_0
            try clear hfz24_1
            try clear hfz24_2
            try clear hfz24_3
            try clear hfz26_0
            try clear hfz26_1
            try clear hfz26_2
            try clear hfz26_3
            try clear hfz28_0
            try clear hfz28_1
            try clear hfz28_2
            try clear hfz28_3
            try clear hfz5_0
            try clear hfz5_1
            try clear hfz5_10
            try clear hfz5_11
            try clear hfz5_12
            try clear hfz5_13
            try clear hfz5_14
            try clear hfz5_15
            try clear hfz5_16
            try clear hfz5_17
            try clear hfz5_18
            try clear hfz5_19
            try clear hfz5_2
            try clear hfz5_20
            try clear hfz5_3
            try clear hfz5_4
            try clear hfz5_5
            try clear hfz5_6
            try clear hfz5_7
            try clear hfz5_8
            try clear hfz5_9
            try clear hfz9_0
            try clear hfz9_1
            try clear hfz9_2
            try clear hfz9_3
            try clear p2
            try clear p20
            try clear q20
            obtain ⟨x6_2, rfl, HA, HK2, BK143, BK148, HB⟩ := hrel
            cases gk with
            | zero => exact absurd HA.out (by simp [comptoirref07_Fits.l1])
            | succ k2 =>
              have H := HA.out
              clear HA
              simp only [comptoirref07_Fits.l1] at H
              by_cases c29 : x6_2 < (t149.size : Int)
              · rw [if_pos c29] at H
                have c29b0 : decide (x6_2 < (t149.size : Int)) = true := decide_eq_true c29
                clear c29
                by_cases c30 : t146.size + t147.size ≤ 9223372036854775807
                · rw [if_pos c30] at H
                  have c30b0 := eq_true c30
                  have c30b1 : decide (t146.size + t147.size ≤ 9223372036854775807) = true := decide_eq_true c30
                  try have c30b2 : (9223372036854775807 < t146.size + t147.size) = False := eq_false (Nat.not_lt.2 c30)
                  by_cases c31 : 0 ≤ x6_2
                  · rw [if_pos c31] at H
                    have c31b0 : decide (0 ≤ x6_2) = true := decide_eq_true c31
                    clear c31
                    replace H := Option.bind_eq_some_iff.mp H
                    obtain ⟨t151, A330, H⟩ := H
                    replace H : (if t151 = true then (comptoirref07_Fits.l1 k2 t149 (wrap64 (x6_2 + 1)) a0_0 a0_1 a0_2 a0_3 a0_4 a0_5 a0_6 a0_7 a0_8 a0_9 a0_10 a0_11 a0_12 a0_13 a0_14 a0_15 l0_16 a0_17 a0_18 l0_19 l0_20 t144 t145 t146 t147) else (some 19)) = some r := H
                    have A33 := Aside0.mk A330
                    clear A330
                    by_cases c34 : t151 = true
                    · subst c34
                      have H1 : (comptoirref07_Fits.l1 k2 t149 (wrap64 (x6_2 + 1)) a0_0 a0_1 a0_2 a0_3 a0_4 a0_5 a0_6 a0_7 a0_8 a0_9 a0_10 a0_11 a0_12 a0_13 a0_14 a0_15 l0_16 a0_17 a0_18 l0_19 l0_20 t144 t145 t146 t147) = some r := by rw [if_pos rfl] at H; exact H
                      clear H
                      have H := H1
                      clear H1
                      have H' := Aside0.mk H
                      clear H
                      have hnb35 := NB148_143.out
                      have hnc35 := NB143_148.out
                      have hcz36_0 : wr.cell? ⟨gb148, 0, none⟩ = some (.string t144) := (blk_cell BK148.out 0).trans rfl
                      have hcz36_1 : wr.cell? ⟨gb148, 1, none⟩ = some (.string t145) := (blk_cell BK148.out 1).trans rfl
                      have hcz36_2 : wr.cell? ⟨gb148, 2, none⟩ = some (.string t146) := (blk_cell BK148.out 2).trans rfl
                      have hcz36_3 : wr.cell? ⟨gb148, 3, none⟩ = some (.string t147) := (blk_cell BK148.out 3).trans rfl
                      have hfz36_0 := blk_frozen BK148.out 0
                      have hfz36_1 := blk_frozen BK148.out 1
                      have hfz36_2 := blk_frozen BK148.out 2
                      have hfz36_3 := blk_frozen BK148.out 3
                      have p32 : 0 ≤ (x6_2 : Int) := of_decide_eq_true (by first | (with_reducible assumption) | assumption)
                      have q32 : x6_2 < (t149.size : Int) := of_decide_eq_true (by first | (with_reducible assumption) | assumption)
                      have hx32 := bt_at t149 x6_2
                      replace p32 := eq_true p32
                      replace q32 := eq_true q32
                      go_wp2_with (first | (go_at_call 44; (with_reducible refine (comptoirref07_letter.calls k2 (t146 ++ t147) (bt t149 x6_2) true _ A33.out).mono ?_); rintro e w' ⟨rfl, ⟨nd, rfl⟩⟩; (try first | exact ⟨rfl, _, World.drewN_drewN _ _ _⟩ | exact ⟨rfl, _, Eq.trans (World.drewN_drewN _ _ _) (congrArg (World.drewN _) (Nat.add_assoc _ _ _))⟩)))
                      repeat (go_quiet (first | (go_at_call 44; (with_reducible refine (comptoirref07_letter.calls k2 (t146 ++ t147) (bt t149 x6_2) true _ A33.out).mono ?_); rintro e w' ⟨rfl, ⟨nd, rfl⟩⟩; (try first | exact ⟨rfl, _, World.drewN_drewN _ _ _⟩ | exact ⟨rfl, _, Eq.trans (World.drewN_drewN _ _ _) (congrArg (World.drewN _) (Nat.add_assoc _ _ _))⟩))); try go_wp2_with (first | (go_at_call 44; (with_reducible refine (comptoirref07_letter.calls k2 (t146 ++ t147) (bt t149 x6_2) true _ A33.out).mono ?_); rintro e w' ⟨rfl, ⟨nd, rfl⟩⟩; (try first | exact ⟨rfl, _, World.drewN_drewN _ _ _⟩ | exact ⟨rfl, _, Eq.trans (World.drewN_drewN _ _ _) (congrArg (World.drewN _) (Nat.add_assoc _ _ _))⟩))))
                      go_roundg k2
                      case measure => have := HK1.out; have := HK2.out; omega
                      case rel => exact ⟨(wrap64 (x6_2 + 1)), (by first | rfl | (simp; done) | (simp [*]; done)), H', ⟨by have := HK1.out; have := HK2.out; omega⟩, ⟨by (with_reducible repeat (first | refine blk_drewN ?_ _ | refine blk_drew ?_ | refine blk_alloc ?_ _)); exact BK143.out⟩, ⟨by (with_reducible repeat (first | refine blk_drewN ?_ _ | refine blk_drew ?_ | refine blk_alloc ?_ _)); exact BK148.out⟩, ⟨by repeat (first | (with_reducible first | exact HB.out | apply below_alloc | apply pw_below_drewN | apply below_drew1 | refine below_set ?_ GE143.out | refine below_set ?_ GE148.out) | exact HB.out)⟩⟩
                    · replace c34 := Bool.eq_false_iff.mpr c34
                      subst c34
                      have H1 : (some 19) = some r := by rw [if_neg (show ¬ (false = true) by decide)] at H; exact H
                      clear H
                      have H := H1
                      clear H1
                      obtain rfl := Option.some.inj H
                      simp only [Option.some.injEq, Prod.mk.injEq] at H
                      obtain ⟨rfl⟩ := H
                      have hnb37 := NB148_143.out
                      have hnc37 := NB143_148.out
                      have hcz38_0 : wr.cell? ⟨gb148, 0, none⟩ = some (.string t144) := (blk_cell BK148.out 0).trans rfl
                      have hcz38_1 : wr.cell? ⟨gb148, 1, none⟩ = some (.string t145) := (blk_cell BK148.out 1).trans rfl
                      have hcz38_2 : wr.cell? ⟨gb148, 2, none⟩ = some (.string t146) := (blk_cell BK148.out 2).trans rfl
                      have hcz38_3 : wr.cell? ⟨gb148, 3, none⟩ = some (.string t147) := (blk_cell BK148.out 3).trans rfl
                      have hfz38_0 := blk_frozen BK148.out 0
                      have hfz38_1 := blk_frozen BK148.out 1
                      have hfz38_2 := blk_frozen BK148.out 2
                      have hfz38_3 := blk_frozen BK148.out 3
                      have p32 : 0 ≤ (x6_2 : Int) := of_decide_eq_true (by first | (with_reducible assumption) | assumption)
                      have q32 : x6_2 < (t149.size : Int) := of_decide_eq_true (by first | (with_reducible assumption) | assumption)
                      have hx32 := bt_at t149 x6_2
                      replace p32 := eq_true p32
                      replace q32 := eq_true q32
                      go_wp2_with (first | (go_at_call 44; (with_reducible refine (comptoirref07_letter.calls k2 (t146 ++ t147) (bt t149 x6_2) false _ A33.out).mono ?_); rintro e w' ⟨rfl, ⟨nd, rfl⟩⟩; (try first | exact ⟨rfl, _, World.drewN_drewN _ _ _⟩ | exact ⟨rfl, _, Eq.trans (World.drewN_drewN _ _ _) (congrArg (World.drewN _) (Nat.add_assoc _ _ _))⟩)))
                      repeat (go_quiet (first | (go_at_call 44; (with_reducible refine (comptoirref07_letter.calls k2 (t146 ++ t147) (bt t149 x6_2) false _ A33.out).mono ?_); rintro e w' ⟨rfl, ⟨nd, rfl⟩⟩; (try first | exact ⟨rfl, _, World.drewN_drewN _ _ _⟩ | exact ⟨rfl, _, Eq.trans (World.drewN_drewN _ _ _) (congrArg (World.drewN _) (Nat.add_assoc _ _ _))⟩))); try go_wp2_with (first | (go_at_call 44; (with_reducible refine (comptoirref07_letter.calls k2 (t146 ++ t147) (bt t149 x6_2) false _ A33.out).mono ?_); rintro e w' ⟨rfl, ⟨nd, rfl⟩⟩; (try first | exact ⟨rfl, _, World.drewN_drewN _ _ _⟩ | exact ⟨rfl, _, Eq.trans (World.drewN_drewN _ _ _) (congrArg (World.drewN _) (Nat.add_assoc _ _ _))⟩))))
                      go_ret
                      exact ⟨by first | rfl | (simp [errW_none, errW_some] <;> rfl) | (simp [*, errW_none, errW_some] <;> rfl), by repeat (first | (with_reducible first | exact HB.out | apply below_alloc | apply pw_below_drewN | apply below_drew1 | refine below_set ?_ GE143.out | refine below_set ?_ GE148.out) | exact HB.out)⟩
                  · rw [if_neg c31] at H
                    exact absurd H (by simp)
                · rw [if_neg c30] at H
                  exact absurd H (by simp)
              · rw [if_neg c29] at H
                have c29b0 : decide (x6_2 < (t149.size : Int)) = false := decide_eq_false c29
                clear c29
                by_cases c39 : a0_5.toList = ([] : List UInt8)
                · rw [if_pos c39] at H
                  have c39b0 : (a0_5.toList == ([] : List UInt8)) = true := beq_iff_eq.mpr c39
                  have c39b1 : (a0_5.toList != ([] : List UInt8)) = false := bne_eq_false_iff_eq.mpr c39
                  clear c39
                  by_cases c40 : a0_6 = 0
                  · rw [if_pos c40] at H
                    have c40b0 : (a0_6 == 0) = true := beq_iff_eq.mpr c40
                    have c40b1 : (a0_6 != 0) = false := bne_eq_false_iff_eq.mpr c40
                    clear c40
                    by_cases c41 : a0_15.toList = ([] : List UInt8)
                    · rw [if_pos c41] at H
                      have c41b0 : (a0_15.toList == ([] : List UInt8)) = true := beq_iff_eq.mpr c41
                      have c41b1 : (a0_15.toList != ([] : List UInt8)) = false := bne_eq_false_iff_eq.mpr c41
                      clear c41
                      by_cases c42 : a0_14 = 0
                      · rw [if_pos c42] at H
                        have c42b0 : (a0_14 == 0) = true := beq_iff_eq.mpr c42
                        have c42b1 : (a0_14 != 0) = false := bne_eq_false_iff_eq.mpr c42
                        clear c42
                        obtain rfl := Option.some.inj H
                        simp only [Option.some.injEq, Prod.mk.injEq] at H
                        obtain ⟨rfl⟩ := H
                        have hnb43 := NB143_148.out
                        have hnc43 := NB148_143.out
                        have hcz44_0 : wr.cell? ⟨gb143, 0, none⟩ = some (.int .i64 a0_0) := (blk_cell BK143.out 0).trans rfl
                        have hcz44_1 : wr.cell? ⟨gb143, 1, none⟩ = some (.int .i64 a0_1) := (blk_cell BK143.out 1).trans rfl
                        have hcz44_2 : wr.cell? ⟨gb143, 2, none⟩ = some (.string a0_2) := (blk_cell BK143.out 2).trans rfl
                        have hcz44_3 : wr.cell? ⟨gb143, 3, none⟩ = some (.string a0_3) := (blk_cell BK143.out 3).trans rfl
                        have hcz44_4 : wr.cell? ⟨gb143, 4, none⟩ = some (.string a0_4) := (blk_cell BK143.out 4).trans rfl
                        have hcz44_5 : wr.cell? ⟨gb143, 5, none⟩ = some (.string a0_5) := (blk_cell BK143.out 5).trans rfl
                        have hcz44_6 : wr.cell? ⟨gb143, 6, none⟩ = some (.int .u64 a0_6) := (blk_cell BK143.out 6).trans rfl
                        have hcz44_7 : wr.cell? ⟨gb143, 7, none⟩ = some (.string a0_7) := (blk_cell BK143.out 7).trans rfl
                        have hcz44_8 : wr.cell? ⟨gb143, 8, none⟩ = some (.string a0_8) := (blk_cell BK143.out 8).trans rfl
                        have hcz44_9 : wr.cell? ⟨gb143, 9, none⟩ = some (.string a0_9) := (blk_cell BK143.out 9).trans rfl
                        have hcz44_10 : wr.cell? ⟨gb143, 10, none⟩ = some (.string a0_10) := (blk_cell BK143.out 10).trans rfl
                        have hcz44_11 : wr.cell? ⟨gb143, 11, none⟩ = some (.int .i64 a0_11) := (blk_cell BK143.out 11).trans rfl
                        have hcz44_12 : wr.cell? ⟨gb143, 12, none⟩ = some (.string a0_12) := (blk_cell BK143.out 12).trans rfl
                        have hcz44_13 : wr.cell? ⟨gb143, 13, none⟩ = some (.string a0_13) := (blk_cell BK143.out 13).trans rfl
                        have hcz44_14 : wr.cell? ⟨gb143, 14, none⟩ = some (.int .i64 a0_14) := (blk_cell BK143.out 14).trans rfl
                        have hcz44_15 : wr.cell? ⟨gb143, 15, none⟩ = some (.string a0_15) := (blk_cell BK143.out 15).trans rfl
                        have hcz44_16 : wr.cell? ⟨gb143, 16, none⟩ = some (.slice A0_16 l0_16.length c0_16) := (blk_cell BK143.out 16).trans rfl
                        have hcz44_17 : wr.cell? ⟨gb143, 17, none⟩ = some (.string a0_17) := (blk_cell BK143.out 17).trans rfl
                        have hcz44_18 : wr.cell? ⟨gb143, 18, none⟩ = some (.string a0_18) := (blk_cell BK143.out 18).trans rfl
                        have hcz44_19 : wr.cell? ⟨gb143, 19, none⟩ = some (.slice A0_19 l0_19.length c0_19) := (blk_cell BK143.out 19).trans rfl
                        have hcz44_20 : wr.cell? ⟨gb143, 20, none⟩ = some (.slice A0_20 l0_20.length c0_20) := (blk_cell BK143.out 20).trans rfl
                        have hfz44_0 := blk_frozen BK143.out 0
                        have hfz44_1 := blk_frozen BK143.out 1
                        have hfz44_2 := blk_frozen BK143.out 2
                        have hfz44_3 := blk_frozen BK143.out 3
                        have hfz44_4 := blk_frozen BK143.out 4
                        have hfz44_5 := blk_frozen BK143.out 5
                        have hfz44_6 := blk_frozen BK143.out 6
                        have hfz44_7 := blk_frozen BK143.out 7
                        have hfz44_8 := blk_frozen BK143.out 8
                        have hfz44_9 := blk_frozen BK143.out 9
                        have hfz44_10 := blk_frozen BK143.out 10
                        have hfz44_11 := blk_frozen BK143.out 11
                        have hfz44_12 := blk_frozen BK143.out 12
                        have hfz44_13 := blk_frozen BK143.out 13
                        have hfz44_14 := blk_frozen BK143.out 14
                        have hfz44_15 := blk_frozen BK143.out 15
                        have hfz44_16 := blk_frozen BK143.out 16
                        have hfz44_17 := blk_frozen BK143.out 17
                        have hfz44_18 := blk_frozen BK143.out 18
                        have hfz44_19 := blk_frozen BK143.out 19
                        have hfz44_20 := blk_frozen BK143.out 20
                        go_wp2
                        repeat (go_quiet (fail); try go_wp2)
                        go_ret
                        exact ⟨by first | rfl | (simp [errW_none, errW_some] <;> rfl) | (simp [*, errW_none, errW_some] <;> rfl), by repeat (first | (with_reducible first | exact HB.out | apply below_alloc | apply pw_below_drewN | apply below_drew1 | refine below_set ?_ GE143.out | refine below_set ?_ GE148.out) | exact HB.out)⟩
                      · rw [if_neg c42] at H
                        have c42b0 : (a0_14 == 0) = false := beq_eq_false_iff_ne.mpr c42
                        have c42b1 : (a0_14 != 0) = true := bne_iff_ne.mpr c42
                        obtain rfl := Option.some.inj H
                        simp only [Option.some.injEq, Prod.mk.injEq] at H
                        obtain ⟨rfl⟩ := H
                        have hnb45 := NB143_148.out
                        have hnc45 := NB148_143.out
                        have hcz46_0 : wr.cell? ⟨gb143, 0, none⟩ = some (.int .i64 a0_0) := (blk_cell BK143.out 0).trans rfl
                        have hcz46_1 : wr.cell? ⟨gb143, 1, none⟩ = some (.int .i64 a0_1) := (blk_cell BK143.out 1).trans rfl
                        have hcz46_2 : wr.cell? ⟨gb143, 2, none⟩ = some (.string a0_2) := (blk_cell BK143.out 2).trans rfl
                        have hcz46_3 : wr.cell? ⟨gb143, 3, none⟩ = some (.string a0_3) := (blk_cell BK143.out 3).trans rfl
                        have hcz46_4 : wr.cell? ⟨gb143, 4, none⟩ = some (.string a0_4) := (blk_cell BK143.out 4).trans rfl
                        have hcz46_5 : wr.cell? ⟨gb143, 5, none⟩ = some (.string a0_5) := (blk_cell BK143.out 5).trans rfl
                        have hcz46_6 : wr.cell? ⟨gb143, 6, none⟩ = some (.int .u64 a0_6) := (blk_cell BK143.out 6).trans rfl
                        have hcz46_7 : wr.cell? ⟨gb143, 7, none⟩ = some (.string a0_7) := (blk_cell BK143.out 7).trans rfl
                        have hcz46_8 : wr.cell? ⟨gb143, 8, none⟩ = some (.string a0_8) := (blk_cell BK143.out 8).trans rfl
                        have hcz46_9 : wr.cell? ⟨gb143, 9, none⟩ = some (.string a0_9) := (blk_cell BK143.out 9).trans rfl
                        have hcz46_10 : wr.cell? ⟨gb143, 10, none⟩ = some (.string a0_10) := (blk_cell BK143.out 10).trans rfl
                        have hcz46_11 : wr.cell? ⟨gb143, 11, none⟩ = some (.int .i64 a0_11) := (blk_cell BK143.out 11).trans rfl
                        have hcz46_12 : wr.cell? ⟨gb143, 12, none⟩ = some (.string a0_12) := (blk_cell BK143.out 12).trans rfl
                        have hcz46_13 : wr.cell? ⟨gb143, 13, none⟩ = some (.string a0_13) := (blk_cell BK143.out 13).trans rfl
                        have hcz46_14 : wr.cell? ⟨gb143, 14, none⟩ = some (.int .i64 a0_14) := (blk_cell BK143.out 14).trans rfl
                        have hcz46_15 : wr.cell? ⟨gb143, 15, none⟩ = some (.string a0_15) := (blk_cell BK143.out 15).trans rfl
                        have hcz46_16 : wr.cell? ⟨gb143, 16, none⟩ = some (.slice A0_16 l0_16.length c0_16) := (blk_cell BK143.out 16).trans rfl
                        have hcz46_17 : wr.cell? ⟨gb143, 17, none⟩ = some (.string a0_17) := (blk_cell BK143.out 17).trans rfl
                        have hcz46_18 : wr.cell? ⟨gb143, 18, none⟩ = some (.string a0_18) := (blk_cell BK143.out 18).trans rfl
                        have hcz46_19 : wr.cell? ⟨gb143, 19, none⟩ = some (.slice A0_19 l0_19.length c0_19) := (blk_cell BK143.out 19).trans rfl
                        have hcz46_20 : wr.cell? ⟨gb143, 20, none⟩ = some (.slice A0_20 l0_20.length c0_20) := (blk_cell BK143.out 20).trans rfl
                        have hfz46_0 := blk_frozen BK143.out 0
                        have hfz46_1 := blk_frozen BK143.out 1
                        have hfz46_2 := blk_frozen BK143.out 2
                        have hfz46_3 := blk_frozen BK143.out 3
                        have hfz46_4 := blk_frozen BK143.out 4
                        have hfz46_5 := blk_frozen BK143.out 5
                        have hfz46_6 := blk_frozen BK143.out 6
                        have hfz46_7 := blk_frozen BK143.out 7
                        have hfz46_8 := blk_frozen BK143.out 8
                        have hfz46_9 := blk_frozen BK143.out 9
                        have hfz46_10 := blk_frozen BK143.out 10
                        have hfz46_11 := blk_frozen BK143.out 11
                        have hfz46_12 := blk_frozen BK143.out 12
                        have hfz46_13 := blk_frozen BK143.out 13
                        have hfz46_14 := blk_frozen BK143.out 14
                        have hfz46_15 := blk_frozen BK143.out 15
                        have hfz46_16 := blk_frozen BK143.out 16
                        have hfz46_17 := blk_frozen BK143.out 17
                        have hfz46_18 := blk_frozen BK143.out 18
                        have hfz46_19 := blk_frozen BK143.out 19
                        have hfz46_20 := blk_frozen BK143.out 20
                        go_wp2
                        repeat (go_quiet (fail); try go_wp2)
                        go_ret
                        exact ⟨by first | rfl | (simp [errW_none, errW_some] <;> rfl) | (simp [*, errW_none, errW_some] <;> rfl), by repeat (first | (with_reducible first | exact HB.out | apply below_alloc | apply pw_below_drewN | apply below_drew1 | refine below_set ?_ GE143.out | refine below_set ?_ GE148.out) | exact HB.out)⟩
                    · rw [if_neg c41] at H
                      have c41b0 : (a0_15.toList == ([] : List UInt8)) = false := beq_eq_false_iff_ne.mpr c41
                      have c41b1 : (a0_15.toList != ([] : List UInt8)) = true := bne_iff_ne.mpr c41
                      obtain rfl := Option.some.inj H
                      simp only [Option.some.injEq, Prod.mk.injEq] at H
                      obtain ⟨rfl⟩ := H
                      have hnb47 := NB143_148.out
                      have hnc47 := NB148_143.out
                      have hcz48_0 : wr.cell? ⟨gb143, 0, none⟩ = some (.int .i64 a0_0) := (blk_cell BK143.out 0).trans rfl
                      have hcz48_1 : wr.cell? ⟨gb143, 1, none⟩ = some (.int .i64 a0_1) := (blk_cell BK143.out 1).trans rfl
                      have hcz48_2 : wr.cell? ⟨gb143, 2, none⟩ = some (.string a0_2) := (blk_cell BK143.out 2).trans rfl
                      have hcz48_3 : wr.cell? ⟨gb143, 3, none⟩ = some (.string a0_3) := (blk_cell BK143.out 3).trans rfl
                      have hcz48_4 : wr.cell? ⟨gb143, 4, none⟩ = some (.string a0_4) := (blk_cell BK143.out 4).trans rfl
                      have hcz48_5 : wr.cell? ⟨gb143, 5, none⟩ = some (.string a0_5) := (blk_cell BK143.out 5).trans rfl
                      have hcz48_6 : wr.cell? ⟨gb143, 6, none⟩ = some (.int .u64 a0_6) := (blk_cell BK143.out 6).trans rfl
                      have hcz48_7 : wr.cell? ⟨gb143, 7, none⟩ = some (.string a0_7) := (blk_cell BK143.out 7).trans rfl
                      have hcz48_8 : wr.cell? ⟨gb143, 8, none⟩ = some (.string a0_8) := (blk_cell BK143.out 8).trans rfl
                      have hcz48_9 : wr.cell? ⟨gb143, 9, none⟩ = some (.string a0_9) := (blk_cell BK143.out 9).trans rfl
                      have hcz48_10 : wr.cell? ⟨gb143, 10, none⟩ = some (.string a0_10) := (blk_cell BK143.out 10).trans rfl
                      have hcz48_11 : wr.cell? ⟨gb143, 11, none⟩ = some (.int .i64 a0_11) := (blk_cell BK143.out 11).trans rfl
                      have hcz48_12 : wr.cell? ⟨gb143, 12, none⟩ = some (.string a0_12) := (blk_cell BK143.out 12).trans rfl
                      have hcz48_13 : wr.cell? ⟨gb143, 13, none⟩ = some (.string a0_13) := (blk_cell BK143.out 13).trans rfl
                      have hcz48_14 : wr.cell? ⟨gb143, 14, none⟩ = some (.int .i64 a0_14) := (blk_cell BK143.out 14).trans rfl
                      have hcz48_15 : wr.cell? ⟨gb143, 15, none⟩ = some (.string a0_15) := (blk_cell BK143.out 15).trans rfl
                      have hcz48_16 : wr.cell? ⟨gb143, 16, none⟩ = some (.slice A0_16 l0_16.length c0_16) := (blk_cell BK143.out 16).trans rfl
                      have hcz48_17 : wr.cell? ⟨gb143, 17, none⟩ = some (.string a0_17) := (blk_cell BK143.out 17).trans rfl
                      have hcz48_18 : wr.cell? ⟨gb143, 18, none⟩ = some (.string a0_18) := (blk_cell BK143.out 18).trans rfl
                      have hcz48_19 : wr.cell? ⟨gb143, 19, none⟩ = some (.slice A0_19 l0_19.length c0_19) := (blk_cell BK143.out 19).trans rfl
                      have hcz48_20 : wr.cell? ⟨gb143, 20, none⟩ = some (.slice A0_20 l0_20.length c0_20) := (blk_cell BK143.out 20).trans rfl
                      have hfz48_0 := blk_frozen BK143.out 0
                      have hfz48_1 := blk_frozen BK143.out 1
                      have hfz48_2 := blk_frozen BK143.out 2
                      have hfz48_3 := blk_frozen BK143.out 3
                      have hfz48_4 := blk_frozen BK143.out 4
                      have hfz48_5 := blk_frozen BK143.out 5
                      have hfz48_6 := blk_frozen BK143.out 6
                      have hfz48_7 := blk_frozen BK143.out 7
                      have hfz48_8 := blk_frozen BK143.out 8
                      have hfz48_9 := blk_frozen BK143.out 9
                      have hfz48_10 := blk_frozen BK143.out 10
                      have hfz48_11 := blk_frozen BK143.out 11
                      have hfz48_12 := blk_frozen BK143.out 12
                      have hfz48_13 := blk_frozen BK143.out 13
                      have hfz48_14 := blk_frozen BK143.out 14
                      have hfz48_15 := blk_frozen BK143.out 15
                      have hfz48_16 := blk_frozen BK143.out 16
                      have hfz48_17 := blk_frozen BK143.out 17
                      have hfz48_18 := blk_frozen BK143.out 18
                      have hfz48_19 := blk_frozen BK143.out 19
                      have hfz48_20 := blk_frozen BK143.out 20
                      go_wp2
                      repeat (go_quiet (fail); try go_wp2)
                      go_ret
                      exact ⟨by first | rfl | (simp [errW_none, errW_some] <;> rfl) | (simp [*, errW_none, errW_some] <;> rfl), by repeat (first | (with_reducible first | exact HB.out | apply below_alloc | apply pw_below_drewN | apply below_drew1 | refine below_set ?_ GE143.out | refine below_set ?_ GE148.out) | exact HB.out)⟩
                  · rw [if_neg c40] at H
                    have c40b0 : (a0_6 == 0) = false := beq_eq_false_iff_ne.mpr c40
                    have c40b1 : (a0_6 != 0) = true := bne_iff_ne.mpr c40
                    obtain rfl := Option.some.inj H
                    simp only [Option.some.injEq, Prod.mk.injEq] at H
                    obtain ⟨rfl⟩ := H
                    have hnb49 := NB143_148.out
                    have hnc49 := NB148_143.out
                    have hcz50_0 : wr.cell? ⟨gb143, 0, none⟩ = some (.int .i64 a0_0) := (blk_cell BK143.out 0).trans rfl
                    have hcz50_1 : wr.cell? ⟨gb143, 1, none⟩ = some (.int .i64 a0_1) := (blk_cell BK143.out 1).trans rfl
                    have hcz50_2 : wr.cell? ⟨gb143, 2, none⟩ = some (.string a0_2) := (blk_cell BK143.out 2).trans rfl
                    have hcz50_3 : wr.cell? ⟨gb143, 3, none⟩ = some (.string a0_3) := (blk_cell BK143.out 3).trans rfl
                    have hcz50_4 : wr.cell? ⟨gb143, 4, none⟩ = some (.string a0_4) := (blk_cell BK143.out 4).trans rfl
                    have hcz50_5 : wr.cell? ⟨gb143, 5, none⟩ = some (.string a0_5) := (blk_cell BK143.out 5).trans rfl
                    have hcz50_6 : wr.cell? ⟨gb143, 6, none⟩ = some (.int .u64 a0_6) := (blk_cell BK143.out 6).trans rfl
                    have hcz50_7 : wr.cell? ⟨gb143, 7, none⟩ = some (.string a0_7) := (blk_cell BK143.out 7).trans rfl
                    have hcz50_8 : wr.cell? ⟨gb143, 8, none⟩ = some (.string a0_8) := (blk_cell BK143.out 8).trans rfl
                    have hcz50_9 : wr.cell? ⟨gb143, 9, none⟩ = some (.string a0_9) := (blk_cell BK143.out 9).trans rfl
                    have hcz50_10 : wr.cell? ⟨gb143, 10, none⟩ = some (.string a0_10) := (blk_cell BK143.out 10).trans rfl
                    have hcz50_11 : wr.cell? ⟨gb143, 11, none⟩ = some (.int .i64 a0_11) := (blk_cell BK143.out 11).trans rfl
                    have hcz50_12 : wr.cell? ⟨gb143, 12, none⟩ = some (.string a0_12) := (blk_cell BK143.out 12).trans rfl
                    have hcz50_13 : wr.cell? ⟨gb143, 13, none⟩ = some (.string a0_13) := (blk_cell BK143.out 13).trans rfl
                    have hcz50_14 : wr.cell? ⟨gb143, 14, none⟩ = some (.int .i64 a0_14) := (blk_cell BK143.out 14).trans rfl
                    have hcz50_15 : wr.cell? ⟨gb143, 15, none⟩ = some (.string a0_15) := (blk_cell BK143.out 15).trans rfl
                    have hcz50_16 : wr.cell? ⟨gb143, 16, none⟩ = some (.slice A0_16 l0_16.length c0_16) := (blk_cell BK143.out 16).trans rfl
                    have hcz50_17 : wr.cell? ⟨gb143, 17, none⟩ = some (.string a0_17) := (blk_cell BK143.out 17).trans rfl
                    have hcz50_18 : wr.cell? ⟨gb143, 18, none⟩ = some (.string a0_18) := (blk_cell BK143.out 18).trans rfl
                    have hcz50_19 : wr.cell? ⟨gb143, 19, none⟩ = some (.slice A0_19 l0_19.length c0_19) := (blk_cell BK143.out 19).trans rfl
                    have hcz50_20 : wr.cell? ⟨gb143, 20, none⟩ = some (.slice A0_20 l0_20.length c0_20) := (blk_cell BK143.out 20).trans rfl
                    have hfz50_0 := blk_frozen BK143.out 0
                    have hfz50_1 := blk_frozen BK143.out 1
                    have hfz50_2 := blk_frozen BK143.out 2
                    have hfz50_3 := blk_frozen BK143.out 3
                    have hfz50_4 := blk_frozen BK143.out 4
                    have hfz50_5 := blk_frozen BK143.out 5
                    have hfz50_6 := blk_frozen BK143.out 6
                    have hfz50_7 := blk_frozen BK143.out 7
                    have hfz50_8 := blk_frozen BK143.out 8
                    have hfz50_9 := blk_frozen BK143.out 9
                    have hfz50_10 := blk_frozen BK143.out 10
                    have hfz50_11 := blk_frozen BK143.out 11
                    have hfz50_12 := blk_frozen BK143.out 12
                    have hfz50_13 := blk_frozen BK143.out 13
                    have hfz50_14 := blk_frozen BK143.out 14
                    have hfz50_15 := blk_frozen BK143.out 15
                    have hfz50_16 := blk_frozen BK143.out 16
                    have hfz50_17 := blk_frozen BK143.out 17
                    have hfz50_18 := blk_frozen BK143.out 18
                    have hfz50_19 := blk_frozen BK143.out 19
                    have hfz50_20 := blk_frozen BK143.out 20
                    go_wp2
                    repeat (go_quiet (fail); try go_wp2)
                    go_ret
                    exact ⟨by first | rfl | (simp [errW_none, errW_some] <;> rfl) | (simp [*, errW_none, errW_some] <;> rfl), by repeat (first | (with_reducible first | exact HB.out | apply below_alloc | apply pw_below_drewN | apply below_drew1 | refine below_set ?_ GE143.out | refine below_set ?_ GE148.out) | exact HB.out)⟩
                · rw [if_neg c39] at H
                  have c39b0 : (a0_5.toList == ([] : List UInt8)) = false := beq_eq_false_iff_ne.mpr c39
                  have c39b1 : (a0_5.toList != ([] : List UInt8)) = true := bne_iff_ne.mpr c39
                  by_cases c51 : a0_15.toList = ([] : List UInt8)
                  · rw [if_pos c51] at H
                    have c51b0 : (a0_15.toList == ([] : List UInt8)) = true := beq_iff_eq.mpr c51
                    have c51b1 : (a0_15.toList != ([] : List UInt8)) = false := bne_eq_false_iff_eq.mpr c51
                    clear c51
                    by_cases c52 : a0_14 = 0
                    · rw [if_pos c52] at H
                      have c52b0 : (a0_14 == 0) = true := beq_iff_eq.mpr c52
                      have c52b1 : (a0_14 != 0) = false := bne_eq_false_iff_eq.mpr c52
                      clear c52
                      obtain rfl := Option.some.inj H
                      simp only [Option.some.injEq, Prod.mk.injEq] at H
                      obtain ⟨rfl⟩ := H
                      have hnb53 := NB143_148.out
                      have hnc53 := NB148_143.out
                      have hcz54_0 : wr.cell? ⟨gb143, 0, none⟩ = some (.int .i64 a0_0) := (blk_cell BK143.out 0).trans rfl
                      have hcz54_1 : wr.cell? ⟨gb143, 1, none⟩ = some (.int .i64 a0_1) := (blk_cell BK143.out 1).trans rfl
                      have hcz54_2 : wr.cell? ⟨gb143, 2, none⟩ = some (.string a0_2) := (blk_cell BK143.out 2).trans rfl
                      have hcz54_3 : wr.cell? ⟨gb143, 3, none⟩ = some (.string a0_3) := (blk_cell BK143.out 3).trans rfl
                      have hcz54_4 : wr.cell? ⟨gb143, 4, none⟩ = some (.string a0_4) := (blk_cell BK143.out 4).trans rfl
                      have hcz54_5 : wr.cell? ⟨gb143, 5, none⟩ = some (.string a0_5) := (blk_cell BK143.out 5).trans rfl
                      have hcz54_6 : wr.cell? ⟨gb143, 6, none⟩ = some (.int .u64 a0_6) := (blk_cell BK143.out 6).trans rfl
                      have hcz54_7 : wr.cell? ⟨gb143, 7, none⟩ = some (.string a0_7) := (blk_cell BK143.out 7).trans rfl
                      have hcz54_8 : wr.cell? ⟨gb143, 8, none⟩ = some (.string a0_8) := (blk_cell BK143.out 8).trans rfl
                      have hcz54_9 : wr.cell? ⟨gb143, 9, none⟩ = some (.string a0_9) := (blk_cell BK143.out 9).trans rfl
                      have hcz54_10 : wr.cell? ⟨gb143, 10, none⟩ = some (.string a0_10) := (blk_cell BK143.out 10).trans rfl
                      have hcz54_11 : wr.cell? ⟨gb143, 11, none⟩ = some (.int .i64 a0_11) := (blk_cell BK143.out 11).trans rfl
                      have hcz54_12 : wr.cell? ⟨gb143, 12, none⟩ = some (.string a0_12) := (blk_cell BK143.out 12).trans rfl
                      have hcz54_13 : wr.cell? ⟨gb143, 13, none⟩ = some (.string a0_13) := (blk_cell BK143.out 13).trans rfl
                      have hcz54_14 : wr.cell? ⟨gb143, 14, none⟩ = some (.int .i64 a0_14) := (blk_cell BK143.out 14).trans rfl
                      have hcz54_15 : wr.cell? ⟨gb143, 15, none⟩ = some (.string a0_15) := (blk_cell BK143.out 15).trans rfl
                      have hcz54_16 : wr.cell? ⟨gb143, 16, none⟩ = some (.slice A0_16 l0_16.length c0_16) := (blk_cell BK143.out 16).trans rfl
                      have hcz54_17 : wr.cell? ⟨gb143, 17, none⟩ = some (.string a0_17) := (blk_cell BK143.out 17).trans rfl
                      have hcz54_18 : wr.cell? ⟨gb143, 18, none⟩ = some (.string a0_18) := (blk_cell BK143.out 18).trans rfl
                      have hcz54_19 : wr.cell? ⟨gb143, 19, none⟩ = some (.slice A0_19 l0_19.length c0_19) := (blk_cell BK143.out 19).trans rfl
                      have hcz54_20 : wr.cell? ⟨gb143, 20, none⟩ = some (.slice A0_20 l0_20.length c0_20) := (blk_cell BK143.out 20).trans rfl
                      have hfz54_0 := blk_frozen BK143.out 0
                      have hfz54_1 := blk_frozen BK143.out 1
                      have hfz54_2 := blk_frozen BK143.out 2
                      have hfz54_3 := blk_frozen BK143.out 3
                      have hfz54_4 := blk_frozen BK143.out 4
                      have hfz54_5 := blk_frozen BK143.out 5
                      have hfz54_6 := blk_frozen BK143.out 6
                      have hfz54_7 := blk_frozen BK143.out 7
                      have hfz54_8 := blk_frozen BK143.out 8
                      have hfz54_9 := blk_frozen BK143.out 9
                      have hfz54_10 := blk_frozen BK143.out 10
                      have hfz54_11 := blk_frozen BK143.out 11
                      have hfz54_12 := blk_frozen BK143.out 12
                      have hfz54_13 := blk_frozen BK143.out 13
                      have hfz54_14 := blk_frozen BK143.out 14
                      have hfz54_15 := blk_frozen BK143.out 15
                      have hfz54_16 := blk_frozen BK143.out 16
                      have hfz54_17 := blk_frozen BK143.out 17
                      have hfz54_18 := blk_frozen BK143.out 18
                      have hfz54_19 := blk_frozen BK143.out 19
                      have hfz54_20 := blk_frozen BK143.out 20
                      go_wp2
                      repeat (go_quiet (fail); try go_wp2)
                      go_ret
                      exact ⟨by first | rfl | (simp [errW_none, errW_some] <;> rfl) | (simp [*, errW_none, errW_some] <;> rfl), by repeat (first | (with_reducible first | exact HB.out | apply below_alloc | apply pw_below_drewN | apply below_drew1 | refine below_set ?_ GE143.out | refine below_set ?_ GE148.out) | exact HB.out)⟩
                    · rw [if_neg c52] at H
                      have c52b0 : (a0_14 == 0) = false := beq_eq_false_iff_ne.mpr c52
                      have c52b1 : (a0_14 != 0) = true := bne_iff_ne.mpr c52
                      obtain rfl := Option.some.inj H
                      simp only [Option.some.injEq, Prod.mk.injEq] at H
                      obtain ⟨rfl⟩ := H
                      have hnb55 := NB143_148.out
                      have hnc55 := NB148_143.out
                      have hcz56_0 : wr.cell? ⟨gb143, 0, none⟩ = some (.int .i64 a0_0) := (blk_cell BK143.out 0).trans rfl
                      have hcz56_1 : wr.cell? ⟨gb143, 1, none⟩ = some (.int .i64 a0_1) := (blk_cell BK143.out 1).trans rfl
                      have hcz56_2 : wr.cell? ⟨gb143, 2, none⟩ = some (.string a0_2) := (blk_cell BK143.out 2).trans rfl
                      have hcz56_3 : wr.cell? ⟨gb143, 3, none⟩ = some (.string a0_3) := (blk_cell BK143.out 3).trans rfl
                      have hcz56_4 : wr.cell? ⟨gb143, 4, none⟩ = some (.string a0_4) := (blk_cell BK143.out 4).trans rfl
                      have hcz56_5 : wr.cell? ⟨gb143, 5, none⟩ = some (.string a0_5) := (blk_cell BK143.out 5).trans rfl
                      have hcz56_6 : wr.cell? ⟨gb143, 6, none⟩ = some (.int .u64 a0_6) := (blk_cell BK143.out 6).trans rfl
                      have hcz56_7 : wr.cell? ⟨gb143, 7, none⟩ = some (.string a0_7) := (blk_cell BK143.out 7).trans rfl
                      have hcz56_8 : wr.cell? ⟨gb143, 8, none⟩ = some (.string a0_8) := (blk_cell BK143.out 8).trans rfl
                      have hcz56_9 : wr.cell? ⟨gb143, 9, none⟩ = some (.string a0_9) := (blk_cell BK143.out 9).trans rfl
                      have hcz56_10 : wr.cell? ⟨gb143, 10, none⟩ = some (.string a0_10) := (blk_cell BK143.out 10).trans rfl
                      have hcz56_11 : wr.cell? ⟨gb143, 11, none⟩ = some (.int .i64 a0_11) := (blk_cell BK143.out 11).trans rfl
                      have hcz56_12 : wr.cell? ⟨gb143, 12, none⟩ = some (.string a0_12) := (blk_cell BK143.out 12).trans rfl
                      have hcz56_13 : wr.cell? ⟨gb143, 13, none⟩ = some (.string a0_13) := (blk_cell BK143.out 13).trans rfl
                      have hcz56_14 : wr.cell? ⟨gb143, 14, none⟩ = some (.int .i64 a0_14) := (blk_cell BK143.out 14).trans rfl
                      have hcz56_15 : wr.cell? ⟨gb143, 15, none⟩ = some (.string a0_15) := (blk_cell BK143.out 15).trans rfl
                      have hcz56_16 : wr.cell? ⟨gb143, 16, none⟩ = some (.slice A0_16 l0_16.length c0_16) := (blk_cell BK143.out 16).trans rfl
                      have hcz56_17 : wr.cell? ⟨gb143, 17, none⟩ = some (.string a0_17) := (blk_cell BK143.out 17).trans rfl
                      have hcz56_18 : wr.cell? ⟨gb143, 18, none⟩ = some (.string a0_18) := (blk_cell BK143.out 18).trans rfl
                      have hcz56_19 : wr.cell? ⟨gb143, 19, none⟩ = some (.slice A0_19 l0_19.length c0_19) := (blk_cell BK143.out 19).trans rfl
                      have hcz56_20 : wr.cell? ⟨gb143, 20, none⟩ = some (.slice A0_20 l0_20.length c0_20) := (blk_cell BK143.out 20).trans rfl
                      have hfz56_0 := blk_frozen BK143.out 0
                      have hfz56_1 := blk_frozen BK143.out 1
                      have hfz56_2 := blk_frozen BK143.out 2
                      have hfz56_3 := blk_frozen BK143.out 3
                      have hfz56_4 := blk_frozen BK143.out 4
                      have hfz56_5 := blk_frozen BK143.out 5
                      have hfz56_6 := blk_frozen BK143.out 6
                      have hfz56_7 := blk_frozen BK143.out 7
                      have hfz56_8 := blk_frozen BK143.out 8
                      have hfz56_9 := blk_frozen BK143.out 9
                      have hfz56_10 := blk_frozen BK143.out 10
                      have hfz56_11 := blk_frozen BK143.out 11
                      have hfz56_12 := blk_frozen BK143.out 12
                      have hfz56_13 := blk_frozen BK143.out 13
                      have hfz56_14 := blk_frozen BK143.out 14
                      have hfz56_15 := blk_frozen BK143.out 15
                      have hfz56_16 := blk_frozen BK143.out 16
                      have hfz56_17 := blk_frozen BK143.out 17
                      have hfz56_18 := blk_frozen BK143.out 18
                      have hfz56_19 := blk_frozen BK143.out 19
                      have hfz56_20 := blk_frozen BK143.out 20
                      go_wp2
                      repeat (go_quiet (fail); try go_wp2)
                      go_ret
                      exact ⟨by first | rfl | (simp [errW_none, errW_some] <;> rfl) | (simp [*, errW_none, errW_some] <;> rfl), by repeat (first | (with_reducible first | exact HB.out | apply below_alloc | apply pw_below_drewN | apply below_drew1 | refine below_set ?_ GE143.out | refine below_set ?_ GE148.out) | exact HB.out)⟩
                  · rw [if_neg c51] at H
                    have c51b0 : (a0_15.toList == ([] : List UInt8)) = false := beq_eq_false_iff_ne.mpr c51
                    have c51b1 : (a0_15.toList != ([] : List UInt8)) = true := bne_iff_ne.mpr c51
                    obtain rfl := Option.some.inj H
                    simp only [Option.some.injEq, Prod.mk.injEq] at H
                    obtain ⟨rfl⟩ := H
                    have hnb57 := NB143_148.out
                    have hnc57 := NB148_143.out
                    have hcz58_0 : wr.cell? ⟨gb143, 0, none⟩ = some (.int .i64 a0_0) := (blk_cell BK143.out 0).trans rfl
                    have hcz58_1 : wr.cell? ⟨gb143, 1, none⟩ = some (.int .i64 a0_1) := (blk_cell BK143.out 1).trans rfl
                    have hcz58_2 : wr.cell? ⟨gb143, 2, none⟩ = some (.string a0_2) := (blk_cell BK143.out 2).trans rfl
                    have hcz58_3 : wr.cell? ⟨gb143, 3, none⟩ = some (.string a0_3) := (blk_cell BK143.out 3).trans rfl
                    have hcz58_4 : wr.cell? ⟨gb143, 4, none⟩ = some (.string a0_4) := (blk_cell BK143.out 4).trans rfl
                    have hcz58_5 : wr.cell? ⟨gb143, 5, none⟩ = some (.string a0_5) := (blk_cell BK143.out 5).trans rfl
                    have hcz58_6 : wr.cell? ⟨gb143, 6, none⟩ = some (.int .u64 a0_6) := (blk_cell BK143.out 6).trans rfl
                    have hcz58_7 : wr.cell? ⟨gb143, 7, none⟩ = some (.string a0_7) := (blk_cell BK143.out 7).trans rfl
                    have hcz58_8 : wr.cell? ⟨gb143, 8, none⟩ = some (.string a0_8) := (blk_cell BK143.out 8).trans rfl
                    have hcz58_9 : wr.cell? ⟨gb143, 9, none⟩ = some (.string a0_9) := (blk_cell BK143.out 9).trans rfl
                    have hcz58_10 : wr.cell? ⟨gb143, 10, none⟩ = some (.string a0_10) := (blk_cell BK143.out 10).trans rfl
                    have hcz58_11 : wr.cell? ⟨gb143, 11, none⟩ = some (.int .i64 a0_11) := (blk_cell BK143.out 11).trans rfl
                    have hcz58_12 : wr.cell? ⟨gb143, 12, none⟩ = some (.string a0_12) := (blk_cell BK143.out 12).trans rfl
                    have hcz58_13 : wr.cell? ⟨gb143, 13, none⟩ = some (.string a0_13) := (blk_cell BK143.out 13).trans rfl
                    have hcz58_14 : wr.cell? ⟨gb143, 14, none⟩ = some (.int .i64 a0_14) := (blk_cell BK143.out 14).trans rfl
                    have hcz58_15 : wr.cell? ⟨gb143, 15, none⟩ = some (.string a0_15) := (blk_cell BK143.out 15).trans rfl
                    have hcz58_16 : wr.cell? ⟨gb143, 16, none⟩ = some (.slice A0_16 l0_16.length c0_16) := (blk_cell BK143.out 16).trans rfl
                    have hcz58_17 : wr.cell? ⟨gb143, 17, none⟩ = some (.string a0_17) := (blk_cell BK143.out 17).trans rfl
                    have hcz58_18 : wr.cell? ⟨gb143, 18, none⟩ = some (.string a0_18) := (blk_cell BK143.out 18).trans rfl
                    have hcz58_19 : wr.cell? ⟨gb143, 19, none⟩ = some (.slice A0_19 l0_19.length c0_19) := (blk_cell BK143.out 19).trans rfl
                    have hcz58_20 : wr.cell? ⟨gb143, 20, none⟩ = some (.slice A0_20 l0_20.length c0_20) := (blk_cell BK143.out 20).trans rfl
                    have hfz58_0 := blk_frozen BK143.out 0
                    have hfz58_1 := blk_frozen BK143.out 1
                    have hfz58_2 := blk_frozen BK143.out 2
                    have hfz58_3 := blk_frozen BK143.out 3
                    have hfz58_4 := blk_frozen BK143.out 4
                    have hfz58_5 := blk_frozen BK143.out 5
                    have hfz58_6 := blk_frozen BK143.out 6
                    have hfz58_7 := blk_frozen BK143.out 7
                    have hfz58_8 := blk_frozen BK143.out 8
                    have hfz58_9 := blk_frozen BK143.out 9
                    have hfz58_10 := blk_frozen BK143.out 10
                    have hfz58_11 := blk_frozen BK143.out 11
                    have hfz58_12 := blk_frozen BK143.out 12
                    have hfz58_13 := blk_frozen BK143.out 13
                    have hfz58_14 := blk_frozen BK143.out 14
                    have hfz58_15 := blk_frozen BK143.out 15
                    have hfz58_16 := blk_frozen BK143.out 16
                    have hfz58_17 := blk_frozen BK143.out 17
                    have hfz58_18 := blk_frozen BK143.out 18
                    have hfz58_19 := blk_frozen BK143.out 19
                    have hfz58_20 := blk_frozen BK143.out 20
                    go_wp2
                    repeat (go_quiet (fail); try go_wp2)
                    go_ret
                    exact ⟨by first | rfl | (simp [errW_none, errW_some] <;> rfl) | (simp [*, errW_none, errW_some] <;> rfl), by repeat (first | (with_reducible first | exact HB.out | apply below_alloc | apply pw_below_drewN | apply below_drew1 | refine below_set ?_ GE143.out | refine below_set ?_ GE148.out) | exact HB.out)⟩

end Go.Proofs.Ythdjodamdakjbaa.MK
