-- laid by wip/tools/mixprint.py over the kit's print (functions of function values by hand)
import Derived.Test.YthdjodamdakjbaaMKx0
namespace Go.Proofs.Ythdjodamdakjbaa.MK
open Go.RowKit Go.Proofs.YthdjodamdakjbaaW.PrintWords Go.Proofs.YthdjodamdakjbaaW.PrintLast Go.Proofs.YthdjodamdakjbaaW.PrintMore
attribute [local go_sem] max2_int min2_int max_two min_two max_three min_three max_four min_four   -- for this text's walks alone
set_option linter.unusedVariables false
set_option linter.unusedSimpArgs false

/-! ### comptoirplay_Small: function 8 -/
mutual
def comptoirplay_Small.l0 : Nat → Int → Int → Int → Int → ByteArray → ByteArray → ByteArray → ByteArray → Int → ByteArray → ByteArray → ByteArray → ByteArray → Int → ByteArray → ByteArray → Int → ByteArray → List (S51) → ByteArray → ByteArray → List (S53) → List (S55) → Option (Bool)
  | 0, _, _, _, _, _, _, _, _, _, _, _, _, _, _, _, _, _, _, _, _, _, _, _ => none
  | k + 1, x3, x4, x204000, x204001, x204002, x204003, x204004, x204005, x204006, x204007, x204008, x204009, x204010, x204011, x204012, x204013, x204014, x204015, x204016, x204017, x204018, x204019, x204020 => if x4 < (x204016.length : Int) then (if 0 ≤ x4 then (comptoirplay_Small.l0 k (wrap64 ((wrap64 (x3 + 4)) + (((rd_T51 x204016 x4).f1).length : Int))) (wrap64 (x4 + 1)) x204000 x204001 x204002 x204003 x204004 x204005 x204006 x204007 x204008 x204009 x204010 x204011 x204012 x204013 x204014 x204015 x204016 x204017 x204018 x204019 x204020) else (none)) else (comptoirplay_Small.l1 k x3 0 x204000 x204001 x204002 x204003 x204004 x204005 x204006 x204007 x204008 x204009 x204010 x204011 x204012 x204013 x204014 x204015 x204016 x204017 x204018 x204019 x204020)
def comptoirplay_Small.l1 : Nat → Int → Int → Int → Int → ByteArray → ByteArray → ByteArray → ByteArray → Int → ByteArray → ByteArray → ByteArray → ByteArray → Int → ByteArray → ByteArray → Int → ByteArray → List (S51) → ByteArray → ByteArray → List (S53) → List (S55) → Option (Bool)
  | 0, _, _, _, _, _, _, _, _, _, _, _, _, _, _, _, _, _, _, _, _, _, _, _ => none
  | k + 1, x3, x5, x204000, x204001, x204002, x204003, x204004, x204005, x204006, x204007, x204008, x204009, x204010, x204011, x204012, x204013, x204014, x204015, x204016, x204017, x204018, x204019, x204020 => if x5 < (x204019.length : Int) then (if 0 ≤ x5 then (comptoirplay_Small.l1 k (wrap64 ((wrap64 ((wrap64 (x3 + 4)) + (((rd_T53 x204019 x5).f0).size : Int))) + (((rd_T53 x204019 x5).f1).size : Int))) (wrap64 (x5 + 1)) x204000 x204001 x204002 x204003 x204004 x204005 x204006 x204007 x204008 x204009 x204010 x204011 x204012 x204013 x204014 x204015 x204016 x204017 x204018 x204019 x204020) else (none)) else (comptoirplay_Small.l2 k x3 0 x204000 x204001 x204002 x204003 x204004 x204005 x204006 x204007 x204008 x204009 x204010 x204011 x204012 x204013 x204014 x204015 x204016 x204017 x204018 x204019 x204020)
def comptoirplay_Small.l2 : Nat → Int → Int → Int → Int → ByteArray → ByteArray → ByteArray → ByteArray → Int → ByteArray → ByteArray → ByteArray → ByteArray → Int → ByteArray → ByteArray → Int → ByteArray → List (S51) → ByteArray → ByteArray → List (S53) → List (S55) → Option (Bool)
  | 0, _, _, _, _, _, _, _, _, _, _, _, _, _, _, _, _, _, _, _, _, _, _, _ => none
  | k + 1, x3, x6, x204000, x204001, x204002, x204003, x204004, x204005, x204006, x204007, x204008, x204009, x204010, x204011, x204012, x204013, x204014, x204015, x204016, x204017, x204018, x204019, x204020 => if x6 < (x204020.length : Int) then (if 0 ≤ x6 then (comptoirplay_Small.l2 k (wrap64 ((wrap64 (x3 + 4)) + (((rd_T55 x204020 x6).f1).length : Int))) (wrap64 (x6 + 1)) x204000 x204001 x204002 x204003 x204004 x204005 x204006 x204007 x204008 x204009 x204010 x204011 x204012 x204013 x204014 x204015 x204016 x204017 x204018 x204019 x204020) else (none)) else (some (decide (x3 ≤ 4000)))
end
def comptoirplay_Small.f (k : Nat) (a0_0 : Int) (a0_1 : Int) (a0_2 : ByteArray) (a0_3 : ByteArray) (a0_4 : ByteArray) (a0_5 : ByteArray) (a0_6 : Int) (a0_7 : ByteArray) (a0_8 : ByteArray) (a0_9 : ByteArray) (a0_10 : ByteArray) (a0_11 : Int) (a0_12 : ByteArray) (a0_13 : ByteArray) (a0_14 : Int) (a0_15 : ByteArray) (l0_16 : List (S51)) (a0_17 : ByteArray) (a0_18 : ByteArray) (l0_19 : List (S53)) (l0_20 : List (S55)) : Option (Bool) := comptoirplay_Small.l0 k (wrap64 ((wrap64 ((wrap64 ((wrap64 ((wrap64 ((wrap64 ((wrap64 ((wrap64 ((wrap64 ((wrap64 ((wrap64 ((wrap64 ((a0_2.size : Int) + (a0_3.size : Int))) + (a0_4.size : Int))) + (a0_5.size : Int))) + (a0_7.size : Int))) + (a0_8.size : Int))) + (a0_9.size : Int))) + (a0_10.size : Int))) + (a0_12.size : Int))) + (a0_13.size : Int))) + (a0_15.size : Int))) + (a0_17.size : Int))) + (a0_18.size : Int))) 0 a0_0 a0_1 a0_2 a0_3 a0_4 a0_5 a0_6 a0_7 a0_8 a0_9 a0_10 a0_11 a0_12 a0_13 a0_14 a0_15 l0_16 a0_17 a0_18 l0_19 l0_20
theorem comptoirplay_Small.mono_l : ∀ k, (∀ y0 y1 y2 y3 y4 y5 y6 y7 y8 y9 y10 y11 y12 y13 y14 y15 y16 y17 y18 y19 y20 y21 y22, LeO (comptoirplay_Small.l0 k y0 y1 y2 y3 y4 y5 y6 y7 y8 y9 y10 y11 y12 y13 y14 y15 y16 y17 y18 y19 y20 y21 y22) (comptoirplay_Small.l0 (k + 1) y0 y1 y2 y3 y4 y5 y6 y7 y8 y9 y10 y11 y12 y13 y14 y15 y16 y17 y18 y19 y20 y21 y22)) ∧ (∀ y0 y1 y2 y3 y4 y5 y6 y7 y8 y9 y10 y11 y12 y13 y14 y15 y16 y17 y18 y19 y20 y21 y22, LeO (comptoirplay_Small.l1 k y0 y1 y2 y3 y4 y5 y6 y7 y8 y9 y10 y11 y12 y13 y14 y15 y16 y17 y18 y19 y20 y21 y22) (comptoirplay_Small.l1 (k + 1) y0 y1 y2 y3 y4 y5 y6 y7 y8 y9 y10 y11 y12 y13 y14 y15 y16 y17 y18 y19 y20 y21 y22)) ∧ (∀ y0 y1 y2 y3 y4 y5 y6 y7 y8 y9 y10 y11 y12 y13 y14 y15 y16 y17 y18 y19 y20 y21 y22, LeO (comptoirplay_Small.l2 k y0 y1 y2 y3 y4 y5 y6 y7 y8 y9 y10 y11 y12 y13 y14 y15 y16 y17 y18 y19 y20 y21 y22) (comptoirplay_Small.l2 (k + 1) y0 y1 y2 y3 y4 y5 y6 y7 y8 y9 y10 y11 y12 y13 y14 y15 y16 y17 y18 y19 y20 y21 y22))
  | 0 => ⟨fun _ _ _ _ _ _ _ _ _ _ _ _ _ _ _ _ _ _ _ _ _ _ _ r h => by simp [comptoirplay_Small.l0] at h, fun _ _ _ _ _ _ _ _ _ _ _ _ _ _ _ _ _ _ _ _ _ _ _ r h => by simp [comptoirplay_Small.l1] at h, fun _ _ _ _ _ _ _ _ _ _ _ _ _ _ _ _ _ _ _ _ _ _ _ r h => by simp [comptoirplay_Small.l2] at h⟩
  | k + 1 => by
    obtain ⟨ih0, ih1, ih2⟩ := comptoirplay_Small.mono_l k
    refine ⟨?_, ?_, ?_⟩
    · intro y0 y1 y2 y3 y4 y5 y6 y7 y8 y9 y10 y11 y12 y13 y14 y15 y16 y17 y18 y19 y20 y21 y22
      unfold comptoirplay_Small.l0
      repeat' first
      | (with_reducible exact ih0 _ _ _ _ _ _ _ _ _ _ _ _ _ _ _ _ _ _ _ _ _ _ _)
      | (with_reducible exact ih1 _ _ _ _ _ _ _ _ _ _ _ _ _ _ _ _ _ _ _ _ _ _ _)
      | (with_reducible exact ih2 _ _ _ _ _ _ _ _ _ _ _ _ _ _ _ _ _ _ _ _ _ _ _)
      | (with_reducible exact LeO.refl _)
      | (with_reducible exact LeO.none _)
      | (with_reducible refine LeO.ite ?_ ?_)
      | (with_reducible refine LeO.bind ?_ (fun _ => ?_))
      | exact ih0 _ _ _ _ _ _ _ _ _ _ _ _ _ _ _ _ _ _ _ _ _ _ _
      | exact ih1 _ _ _ _ _ _ _ _ _ _ _ _ _ _ _ _ _ _ _ _ _ _ _
      | exact ih2 _ _ _ _ _ _ _ _ _ _ _ _ _ _ _ _ _ _ _ _ _ _ _
      | exact LeO.none _
      | refine LeO.ite ?_ ?_
      | refine LeO.bind ?_ (fun _ => ?_)
    · intro y0 y1 y2 y3 y4 y5 y6 y7 y8 y9 y10 y11 y12 y13 y14 y15 y16 y17 y18 y19 y20 y21 y22
      unfold comptoirplay_Small.l1
      repeat' first
      | (with_reducible exact ih0 _ _ _ _ _ _ _ _ _ _ _ _ _ _ _ _ _ _ _ _ _ _ _)
      | (with_reducible exact ih1 _ _ _ _ _ _ _ _ _ _ _ _ _ _ _ _ _ _ _ _ _ _ _)
      | (with_reducible exact ih2 _ _ _ _ _ _ _ _ _ _ _ _ _ _ _ _ _ _ _ _ _ _ _)
      | (with_reducible exact LeO.refl _)
      | (with_reducible exact LeO.none _)
      | (with_reducible refine LeO.ite ?_ ?_)
      | (with_reducible refine LeO.bind ?_ (fun _ => ?_))
      | exact ih0 _ _ _ _ _ _ _ _ _ _ _ _ _ _ _ _ _ _ _ _ _ _ _
      | exact ih1 _ _ _ _ _ _ _ _ _ _ _ _ _ _ _ _ _ _ _ _ _ _ _
      | exact ih2 _ _ _ _ _ _ _ _ _ _ _ _ _ _ _ _ _ _ _ _ _ _ _
      | exact LeO.none _
      | refine LeO.ite ?_ ?_
      | refine LeO.bind ?_ (fun _ => ?_)
    · intro y0 y1 y2 y3 y4 y5 y6 y7 y8 y9 y10 y11 y12 y13 y14 y15 y16 y17 y18 y19 y20 y21 y22
      unfold comptoirplay_Small.l2
      repeat' first
      | (with_reducible exact ih0 _ _ _ _ _ _ _ _ _ _ _ _ _ _ _ _ _ _ _ _ _ _ _)
      | (with_reducible exact ih1 _ _ _ _ _ _ _ _ _ _ _ _ _ _ _ _ _ _ _ _ _ _ _)
      | (with_reducible exact ih2 _ _ _ _ _ _ _ _ _ _ _ _ _ _ _ _ _ _ _ _ _ _ _)
      | (with_reducible exact LeO.refl _)
      | (with_reducible exact LeO.none _)
      | (with_reducible refine LeO.ite ?_ ?_)
      | (with_reducible refine LeO.bind ?_ (fun _ => ?_))
      | exact ih0 _ _ _ _ _ _ _ _ _ _ _ _ _ _ _ _ _ _ _ _ _ _ _
      | exact ih1 _ _ _ _ _ _ _ _ _ _ _ _ _ _ _ _ _ _ _ _ _ _ _
      | exact ih2 _ _ _ _ _ _ _ _ _ _ _ _ _ _ _ _ _ _ _ _ _ _ _
      | exact LeO.none _
      | refine LeO.ite ?_ ?_
      | refine LeO.bind ?_ (fun _ => ?_)
theorem comptoirplay_Small.mono : ∀ a0 a1 a2 a3 a4 a5 a6 a7 a8 a9 a10 a11 a12 a13 a14 a15 a16 a17 a18 a19 a20 k, LeO (comptoirplay_Small.f k a0 a1 a2 a3 a4 a5 a6 a7 a8 a9 a10 a11 a12 a13 a14 a15 a16 a17 a18 a19 a20) (comptoirplay_Small.f (k + 1) a0 a1 a2 a3 a4 a5 a6 a7 a8 a9 a10 a11 a12 a13 a14 a15 a16 a17 a18 a19 a20) := by
  intro a0 a1 a2 a3 a4 a5 a6 a7 a8 a9 a10 a11 a12 a13 a14 a15 a16 a17 a18 a19 a20 k
  obtain ⟨ih0, ih1, ih2⟩ := comptoirplay_Small.mono_l k
  unfold comptoirplay_Small.f
  repeat' first
      | (with_reducible exact ih0 _ _ _ _ _ _ _ _ _ _ _ _ _ _ _ _ _ _ _ _ _ _ _)
      | (with_reducible exact ih1 _ _ _ _ _ _ _ _ _ _ _ _ _ _ _ _ _ _ _ _ _ _ _)
      | (with_reducible exact ih2 _ _ _ _ _ _ _ _ _ _ _ _ _ _ _ _ _ _ _ _ _ _ _)
      | (with_reducible exact LeO.refl _)
      | (with_reducible exact LeO.none _)
      | (with_reducible refine LeO.ite ?_ ?_)
      | (with_reducible refine LeO.bind ?_ (fun _ => ?_))
      | exact ih0 _ _ _ _ _ _ _ _ _ _ _ _ _ _ _ _ _ _ _ _ _ _ _
      | exact ih1 _ _ _ _ _ _ _ _ _ _ _ _ _ _ _ _ _ _ _ _ _ _ _
      | exact ih2 _ _ _ _ _ _ _ _ _ _ _ _ _ _ _ _ _ _ _ _ _ _ _
      | exact LeO.none _
      | refine LeO.ite ?_ ?_
      | refine LeO.bind ?_ (fun _ => ?_)
set_option maxHeartbeats 8000000 in
set_option maxRecDepth 100000 in
theorem comptoirplay_Small.calls (k : Nat) (a0_0 : Int) (a0_1 : Int) (a0_2 : ByteArray) (a0_3 : ByteArray) (a0_4 : ByteArray) (a0_5 : ByteArray) (a0_6 : Int) (a0_7 : ByteArray) (a0_8 : ByteArray) (a0_9 : ByteArray) (a0_10 : ByteArray) (a0_11 : Int) (a0_12 : ByteArray) (a0_13 : ByteArray) (a0_14 : Int) (a0_15 : ByteArray) (A0_16 : Option Addr) (c0_16 : Nat) (l0_16 : List (S51)) (a0_17 : ByteArray) (a0_18 : ByteArray) (A0_19 : Option Addr) (c0_19 : Nat) (l0_19 : List (S53)) (A0_20 : Option Addr) (c0_20 : Nat) (l0_20 : List (S55)) (r : Bool) (w : World) (hr0_16 : Kd.C k51 w A0_16 l0_16.length l0_16) (hc0_16 : l0_16.length ≤ c0_16) (hr0_19 : Kd.C k53 w A0_19 l0_19.length l0_19) (hc0_19 : l0_19.length ≤ c0_19) (hr0_20 : Kd.C k55 w A0_20 l0_20.length l0_20) (hc0_20 : l0_20.length ≤ c0_20) (h : comptoirplay_Small.f k a0_0 a0_1 a0_2 a0_3 a0_4 a0_5 a0_6 a0_7 a0_8 a0_9 a0_10 a0_11 a0_12 a0_13 a0_14 a0_15 l0_16 a0_17 a0_18 l0_19 l0_20 = some r) :
    Calls Try.prog 8 #[.agg #[.int .i64 a0_0, .int .i64 a0_1, .string a0_2, .string a0_3, .string a0_4, .string a0_5, .int .u64 a0_6, .string a0_7, .string a0_8, .string a0_9, .string a0_10, .int .i64 a0_11, .string a0_12, .string a0_13, .int .i64 a0_14, .string a0_15, .slice A0_16 l0_16.length c0_16, .string a0_17, .string a0_18, .slice A0_19 l0_19.length c0_19, .slice A0_20 l0_20.length c0_20]] w fun e w' => e = .returned (.bool r) ∧ Below w.heap.size w w' := by
  have hu29 := Try.underlying29
  have hu24 := Try.underlying24
  have hu51 := Try.underlying51
  have hu53 := Try.underlying53
  have hu55 := Try.underlying55
  have HR0_16 := Aside0.mk hr0_16
  have HC0_16 := Aside0.mk hc0_16
  clear hr0_16 hc0_16
  have HR0_19 := Aside0.mk hr0_19
  have HC0_19 := Aside0.mk hc0_19
  clear hr0_19 hc0_19
  have HR0_20 := Aside0.mk hr0_20
  have HC0_20 := Aside0.mk hc0_20
  clear hr0_20 hc0_20
  have HB := Aside0.mk (Below.refl w.heap.size w)
  have H : (comptoirplay_Small.l0 k (wrap64 ((wrap64 ((wrap64 ((wrap64 ((wrap64 ((wrap64 ((wrap64 ((wrap64 ((wrap64 ((wrap64 ((wrap64 ((wrap64 ((a0_2.size : Int) + (a0_3.size : Int))) + (a0_4.size : Int))) + (a0_5.size : Int))) + (a0_7.size : Int))) + (a0_8.size : Int))) + (a0_9.size : Int))) + (a0_10.size : Int))) + (a0_12.size : Int))) + (a0_13.size : Int))) + (a0_15.size : Int))) + (a0_17.size : Int))) + (a0_18.size : Int))) 0 a0_0 a0_1 a0_2 a0_3 a0_4 a0_5 a0_6 a0_7 a0_8 a0_9 a0_10 a0_11 a0_12 a0_13 a0_14 a0_15 l0_16 a0_17 a0_18 l0_19 l0_20) = some r := h
  clear h
  have H' := Aside0.mk H
  clear H
  go_enter Try.func8, Try.ntmps8
  go_wp2_with (first | ((with_reducible refine gate_dst (N := 1) rfl ?_); refine box_event ?hg (N := 1) ?hd (cs := #[.int .i64 a0_0, .int .i64 a0_1, .string a0_2, .string a0_3, .string a0_4, .string a0_5, .int .u64 a0_6, .string a0_7, .string a0_8, .string a0_9, .string a0_10, .int .i64 a0_11, .string a0_12, .string a0_13, .int .i64 a0_14, .string a0_15, .slice A0_16 l0_16.length c0_16, .string a0_17, .string a0_18, .slice A0_19 l0_19.length c0_19, .slice A0_20 l0_20.length c0_20]) (t := 29) ?hr ?_; (case hd => rfl); (case hg => rfl); (case hr => first | (go_simp; done) | (go_simp; rfl) | (go_simp; simp only [show ∀ l_ : List UInt8, (l_ != []) = !l_.isEmpty from fun l_ => by cases l_ <;> rfl]; done)); intro gb203 hg w2 hbox hb; have n0_ := Aside0.mk (below_step (by repeat (first | (with_reducible first | exact HB.out | apply below_alloc | apply pw_below_drewN | apply below_drew1) | exact HB.out)) hb); have n1_ := Aside0.mk (hbox); have n2_ := Aside0.mk ((by rw [hg]; exact (below_size (by repeat (first | (with_reducible first | exact HB.out | apply below_alloc | apply pw_below_drewN | apply below_drew1) | exact HB.out))) : w.heap.size ≤ gb203)); have n3_ := Aside0.mk ((by rw [hg]; exact (below_size (by repeat (first | (with_reducible first | exact HB.out | apply below_alloc | apply pw_below_drewN | apply below_drew1) | exact HB.out))) : w.heap.size ≤ gb203)); clear HB; have HB := n0_; have BK203 := n1_; have GW203 := n2_; have GE203 := n3_; clear n0_ n1_ n2_ n3_; clear hb hbox hg; have hcz3_0 : w2.cell? ⟨gb203, 0, none⟩ = some (.int .i64 a0_0) := (blk_cell BK203.out 0).trans rfl; have hcz3_1 : w2.cell? ⟨gb203, 1, none⟩ = some (.int .i64 a0_1) := (blk_cell BK203.out 1).trans rfl; have hcz3_2 : w2.cell? ⟨gb203, 2, none⟩ = some (.string a0_2) := (blk_cell BK203.out 2).trans rfl; have hcz3_3 : w2.cell? ⟨gb203, 3, none⟩ = some (.string a0_3) := (blk_cell BK203.out 3).trans rfl; have hcz3_4 : w2.cell? ⟨gb203, 4, none⟩ = some (.string a0_4) := (blk_cell BK203.out 4).trans rfl; have hcz3_5 : w2.cell? ⟨gb203, 5, none⟩ = some (.string a0_5) := (blk_cell BK203.out 5).trans rfl; have hcz3_6 : w2.cell? ⟨gb203, 6, none⟩ = some (.int .u64 a0_6) := (blk_cell BK203.out 6).trans rfl; have hcz3_7 : w2.cell? ⟨gb203, 7, none⟩ = some (.string a0_7) := (blk_cell BK203.out 7).trans rfl; have hcz3_8 : w2.cell? ⟨gb203, 8, none⟩ = some (.string a0_8) := (blk_cell BK203.out 8).trans rfl; have hcz3_9 : w2.cell? ⟨gb203, 9, none⟩ = some (.string a0_9) := (blk_cell BK203.out 9).trans rfl; have hcz3_10 : w2.cell? ⟨gb203, 10, none⟩ = some (.string a0_10) := (blk_cell BK203.out 10).trans rfl; have hcz3_11 : w2.cell? ⟨gb203, 11, none⟩ = some (.int .i64 a0_11) := (blk_cell BK203.out 11).trans rfl; have hcz3_12 : w2.cell? ⟨gb203, 12, none⟩ = some (.string a0_12) := (blk_cell BK203.out 12).trans rfl; have hcz3_13 : w2.cell? ⟨gb203, 13, none⟩ = some (.string a0_13) := (blk_cell BK203.out 13).trans rfl; have hcz3_14 : w2.cell? ⟨gb203, 14, none⟩ = some (.int .i64 a0_14) := (blk_cell BK203.out 14).trans rfl; have hcz3_15 : w2.cell? ⟨gb203, 15, none⟩ = some (.string a0_15) := (blk_cell BK203.out 15).trans rfl; have hcz3_16 : w2.cell? ⟨gb203, 16, none⟩ = some (.slice A0_16 l0_16.length c0_16) := (blk_cell BK203.out 16).trans rfl; have hcz3_17 : w2.cell? ⟨gb203, 17, none⟩ = some (.string a0_17) := (blk_cell BK203.out 17).trans rfl; have hcz3_18 : w2.cell? ⟨gb203, 18, none⟩ = some (.string a0_18) := (blk_cell BK203.out 18).trans rfl; have hcz3_19 : w2.cell? ⟨gb203, 19, none⟩ = some (.slice A0_19 l0_19.length c0_19) := (blk_cell BK203.out 19).trans rfl; have hcz3_20 : w2.cell? ⟨gb203, 20, none⟩ = some (.slice A0_20 l0_20.length c0_20) := (blk_cell BK203.out 20).trans rfl; have hfz3_0 := blk_frozen BK203.out 0; have hfz3_1 := blk_frozen BK203.out 1; have hfz3_2 := blk_frozen BK203.out 2; have hfz3_3 := blk_frozen BK203.out 3; have hfz3_4 := blk_frozen BK203.out 4; have hfz3_5 := blk_frozen BK203.out 5; have hfz3_6 := blk_frozen BK203.out 6; have hfz3_7 := blk_frozen BK203.out 7; have hfz3_8 := blk_frozen BK203.out 8; have hfz3_9 := blk_frozen BK203.out 9; have hfz3_10 := blk_frozen BK203.out 10; have hfz3_11 := blk_frozen BK203.out 11; have hfz3_12 := blk_frozen BK203.out 12; have hfz3_13 := blk_frozen BK203.out 13; have hfz3_14 := blk_frozen BK203.out 14; have hfz3_15 := blk_frozen BK203.out 15; have hfz3_16 := blk_frozen BK203.out 16; have hfz3_17 := blk_frozen BK203.out 17; have hfz3_18 := blk_frozen BK203.out 18; have hfz3_19 := blk_frozen BK203.out 19; have hfz3_20 := blk_frozen BK203.out 20))
  repeat (go_quiet (first | ((with_reducible refine gate_dst (N := 1) rfl ?_); refine box_event ?hg (N := 1) ?hd (cs := #[.int .i64 a0_0, .int .i64 a0_1, .string a0_2, .string a0_3, .string a0_4, .string a0_5, .int .u64 a0_6, .string a0_7, .string a0_8, .string a0_9, .string a0_10, .int .i64 a0_11, .string a0_12, .string a0_13, .int .i64 a0_14, .string a0_15, .slice A0_16 l0_16.length c0_16, .string a0_17, .string a0_18, .slice A0_19 l0_19.length c0_19, .slice A0_20 l0_20.length c0_20]) (t := 29) ?hr ?_; (case hd => rfl); (case hg => rfl); (case hr => first | (go_simp; done) | (go_simp; rfl) | (go_simp; simp only [show ∀ l_ : List UInt8, (l_ != []) = !l_.isEmpty from fun l_ => by cases l_ <;> rfl]; done)); intro gb203 hg w2 hbox hb; have n0_ := Aside0.mk (below_step (by repeat (first | (with_reducible first | exact HB.out | apply below_alloc | apply pw_below_drewN | apply below_drew1) | exact HB.out)) hb); have n1_ := Aside0.mk (hbox); have n2_ := Aside0.mk ((by rw [hg]; exact (below_size (by repeat (first | (with_reducible first | exact HB.out | apply below_alloc | apply pw_below_drewN | apply below_drew1) | exact HB.out))) : w.heap.size ≤ gb203)); have n3_ := Aside0.mk ((by rw [hg]; exact (below_size (by repeat (first | (with_reducible first | exact HB.out | apply below_alloc | apply pw_below_drewN | apply below_drew1) | exact HB.out))) : w.heap.size ≤ gb203)); clear HB; have HB := n0_; have BK203 := n1_; have GW203 := n2_; have GE203 := n3_; clear n0_ n1_ n2_ n3_; clear hb hbox hg; have hcz3_0 : w2.cell? ⟨gb203, 0, none⟩ = some (.int .i64 a0_0) := (blk_cell BK203.out 0).trans rfl; have hcz3_1 : w2.cell? ⟨gb203, 1, none⟩ = some (.int .i64 a0_1) := (blk_cell BK203.out 1).trans rfl; have hcz3_2 : w2.cell? ⟨gb203, 2, none⟩ = some (.string a0_2) := (blk_cell BK203.out 2).trans rfl; have hcz3_3 : w2.cell? ⟨gb203, 3, none⟩ = some (.string a0_3) := (blk_cell BK203.out 3).trans rfl; have hcz3_4 : w2.cell? ⟨gb203, 4, none⟩ = some (.string a0_4) := (blk_cell BK203.out 4).trans rfl; have hcz3_5 : w2.cell? ⟨gb203, 5, none⟩ = some (.string a0_5) := (blk_cell BK203.out 5).trans rfl; have hcz3_6 : w2.cell? ⟨gb203, 6, none⟩ = some (.int .u64 a0_6) := (blk_cell BK203.out 6).trans rfl; have hcz3_7 : w2.cell? ⟨gb203, 7, none⟩ = some (.string a0_7) := (blk_cell BK203.out 7).trans rfl; have hcz3_8 : w2.cell? ⟨gb203, 8, none⟩ = some (.string a0_8) := (blk_cell BK203.out 8).trans rfl; have hcz3_9 : w2.cell? ⟨gb203, 9, none⟩ = some (.string a0_9) := (blk_cell BK203.out 9).trans rfl; have hcz3_10 : w2.cell? ⟨gb203, 10, none⟩ = some (.string a0_10) := (blk_cell BK203.out 10).trans rfl; have hcz3_11 : w2.cell? ⟨gb203, 11, none⟩ = some (.int .i64 a0_11) := (blk_cell BK203.out 11).trans rfl; have hcz3_12 : w2.cell? ⟨gb203, 12, none⟩ = some (.string a0_12) := (blk_cell BK203.out 12).trans rfl; have hcz3_13 : w2.cell? ⟨gb203, 13, none⟩ = some (.string a0_13) := (blk_cell BK203.out 13).trans rfl; have hcz3_14 : w2.cell? ⟨gb203, 14, none⟩ = some (.int .i64 a0_14) := (blk_cell BK203.out 14).trans rfl; have hcz3_15 : w2.cell? ⟨gb203, 15, none⟩ = some (.string a0_15) := (blk_cell BK203.out 15).trans rfl; have hcz3_16 : w2.cell? ⟨gb203, 16, none⟩ = some (.slice A0_16 l0_16.length c0_16) := (blk_cell BK203.out 16).trans rfl; have hcz3_17 : w2.cell? ⟨gb203, 17, none⟩ = some (.string a0_17) := (blk_cell BK203.out 17).trans rfl; have hcz3_18 : w2.cell? ⟨gb203, 18, none⟩ = some (.string a0_18) := (blk_cell BK203.out 18).trans rfl; have hcz3_19 : w2.cell? ⟨gb203, 19, none⟩ = some (.slice A0_19 l0_19.length c0_19) := (blk_cell BK203.out 19).trans rfl; have hcz3_20 : w2.cell? ⟨gb203, 20, none⟩ = some (.slice A0_20 l0_20.length c0_20) := (blk_cell BK203.out 20).trans rfl; have hfz3_0 := blk_frozen BK203.out 0; have hfz3_1 := blk_frozen BK203.out 1; have hfz3_2 := blk_frozen BK203.out 2; have hfz3_3 := blk_frozen BK203.out 3; have hfz3_4 := blk_frozen BK203.out 4; have hfz3_5 := blk_frozen BK203.out 5; have hfz3_6 := blk_frozen BK203.out 6; have hfz3_7 := blk_frozen BK203.out 7; have hfz3_8 := blk_frozen BK203.out 8; have hfz3_9 := blk_frozen BK203.out 9; have hfz3_10 := blk_frozen BK203.out 10; have hfz3_11 := blk_frozen BK203.out 11; have hfz3_12 := blk_frozen BK203.out 12; have hfz3_13 := blk_frozen BK203.out 13; have hfz3_14 := blk_frozen BK203.out 14; have hfz3_15 := blk_frozen BK203.out 15; have hfz3_16 := blk_frozen BK203.out 16; have hfz3_17 := blk_frozen BK203.out 17; have hfz3_18 := blk_frozen BK203.out 18; have hfz3_19 := blk_frozen BK203.out 19; have hfz3_20 := blk_frozen BK203.out 20)); try go_wp2_with (first | ((with_reducible refine gate_dst (N := 1) rfl ?_); refine box_event ?hg (N := 1) ?hd (cs := #[.int .i64 a0_0, .int .i64 a0_1, .string a0_2, .string a0_3, .string a0_4, .string a0_5, .int .u64 a0_6, .string a0_7, .string a0_8, .string a0_9, .string a0_10, .int .i64 a0_11, .string a0_12, .string a0_13, .int .i64 a0_14, .string a0_15, .slice A0_16 l0_16.length c0_16, .string a0_17, .string a0_18, .slice A0_19 l0_19.length c0_19, .slice A0_20 l0_20.length c0_20]) (t := 29) ?hr ?_; (case hd => rfl); (case hg => rfl); (case hr => first | (go_simp; done) | (go_simp; rfl) | (go_simp; simp only [show ∀ l_ : List UInt8, (l_ != []) = !l_.isEmpty from fun l_ => by cases l_ <;> rfl]; done)); intro gb203 hg w2 hbox hb; have n0_ := Aside0.mk (below_step (by repeat (first | (with_reducible first | exact HB.out | apply below_alloc | apply pw_below_drewN | apply below_drew1) | exact HB.out)) hb); have n1_ := Aside0.mk (hbox); have n2_ := Aside0.mk ((by rw [hg]; exact (below_size (by repeat (first | (with_reducible first | exact HB.out | apply below_alloc | apply pw_below_drewN | apply below_drew1) | exact HB.out))) : w.heap.size ≤ gb203)); have n3_ := Aside0.mk ((by rw [hg]; exact (below_size (by repeat (first | (with_reducible first | exact HB.out | apply below_alloc | apply pw_below_drewN | apply below_drew1) | exact HB.out))) : w.heap.size ≤ gb203)); clear HB; have HB := n0_; have BK203 := n1_; have GW203 := n2_; have GE203 := n3_; clear n0_ n1_ n2_ n3_; clear hb hbox hg; have hcz3_0 : w2.cell? ⟨gb203, 0, none⟩ = some (.int .i64 a0_0) := (blk_cell BK203.out 0).trans rfl; have hcz3_1 : w2.cell? ⟨gb203, 1, none⟩ = some (.int .i64 a0_1) := (blk_cell BK203.out 1).trans rfl; have hcz3_2 : w2.cell? ⟨gb203, 2, none⟩ = some (.string a0_2) := (blk_cell BK203.out 2).trans rfl; have hcz3_3 : w2.cell? ⟨gb203, 3, none⟩ = some (.string a0_3) := (blk_cell BK203.out 3).trans rfl; have hcz3_4 : w2.cell? ⟨gb203, 4, none⟩ = some (.string a0_4) := (blk_cell BK203.out 4).trans rfl; have hcz3_5 : w2.cell? ⟨gb203, 5, none⟩ = some (.string a0_5) := (blk_cell BK203.out 5).trans rfl; have hcz3_6 : w2.cell? ⟨gb203, 6, none⟩ = some (.int .u64 a0_6) := (blk_cell BK203.out 6).trans rfl; have hcz3_7 : w2.cell? ⟨gb203, 7, none⟩ = some (.string a0_7) := (blk_cell BK203.out 7).trans rfl; have hcz3_8 : w2.cell? ⟨gb203, 8, none⟩ = some (.string a0_8) := (blk_cell BK203.out 8).trans rfl; have hcz3_9 : w2.cell? ⟨gb203, 9, none⟩ = some (.string a0_9) := (blk_cell BK203.out 9).trans rfl; have hcz3_10 : w2.cell? ⟨gb203, 10, none⟩ = some (.string a0_10) := (blk_cell BK203.out 10).trans rfl; have hcz3_11 : w2.cell? ⟨gb203, 11, none⟩ = some (.int .i64 a0_11) := (blk_cell BK203.out 11).trans rfl; have hcz3_12 : w2.cell? ⟨gb203, 12, none⟩ = some (.string a0_12) := (blk_cell BK203.out 12).trans rfl; have hcz3_13 : w2.cell? ⟨gb203, 13, none⟩ = some (.string a0_13) := (blk_cell BK203.out 13).trans rfl; have hcz3_14 : w2.cell? ⟨gb203, 14, none⟩ = some (.int .i64 a0_14) := (blk_cell BK203.out 14).trans rfl; have hcz3_15 : w2.cell? ⟨gb203, 15, none⟩ = some (.string a0_15) := (blk_cell BK203.out 15).trans rfl; have hcz3_16 : w2.cell? ⟨gb203, 16, none⟩ = some (.slice A0_16 l0_16.length c0_16) := (blk_cell BK203.out 16).trans rfl; have hcz3_17 : w2.cell? ⟨gb203, 17, none⟩ = some (.string a0_17) := (blk_cell BK203.out 17).trans rfl; have hcz3_18 : w2.cell? ⟨gb203, 18, none⟩ = some (.string a0_18) := (blk_cell BK203.out 18).trans rfl; have hcz3_19 : w2.cell? ⟨gb203, 19, none⟩ = some (.slice A0_19 l0_19.length c0_19) := (blk_cell BK203.out 19).trans rfl; have hcz3_20 : w2.cell? ⟨gb203, 20, none⟩ = some (.slice A0_20 l0_20.length c0_20) := (blk_cell BK203.out 20).trans rfl; have hfz3_0 := blk_frozen BK203.out 0; have hfz3_1 := blk_frozen BK203.out 1; have hfz3_2 := blk_frozen BK203.out 2; have hfz3_3 := blk_frozen BK203.out 3; have hfz3_4 := blk_frozen BK203.out 4; have hfz3_5 := blk_frozen BK203.out 5; have hfz3_6 := blk_frozen BK203.out 6; have hfz3_7 := blk_frozen BK203.out 7; have hfz3_8 := blk_frozen BK203.out 8; have hfz3_9 := blk_frozen BK203.out 9; have hfz3_10 := blk_frozen BK203.out 10; have hfz3_11 := blk_frozen BK203.out 11; have hfz3_12 := blk_frozen BK203.out 12; have hfz3_13 := blk_frozen BK203.out 13; have hfz3_14 := blk_frozen BK203.out 14; have hfz3_15 := blk_frozen BK203.out 15; have hfz3_16 := blk_frozen BK203.out 16; have hfz3_17 := blk_frozen BK203.out 17; have hfz3_18 := blk_frozen BK203.out 18; have hfz3_19 := blk_frozen BK203.out 19; have hfz3_20 := blk_frozen BK203.out 20)))
  go_loopg [3, 4] k (fun kq v3 v4 w' => ∃ (x3_1 : Int) (x4_1 : Int), v3 = .int .i64 x3_1 ∧ v4 = .int .i64 x4_1 ∧ Aside0 (comptoirplay_Small.l0 kq x3_1 x4_1 a0_0 a0_1 a0_2 a0_3 a0_4 a0_5 a0_6 a0_7 a0_8 a0_9 a0_10 a0_11 a0_12 a0_13 a0_14 a0_15 l0_16 a0_17 a0_18 l0_19 l0_20 = some r) ∧ Aside0 (kq ≤ k) ∧ Aside0 (w'.heap[gb203]? = some (.cells #[.int .i64 a0_0, .int .i64 a0_1, .string a0_2, .string a0_3, .string a0_4, .string a0_5, .int .u64 a0_6, .string a0_7, .string a0_8, .string a0_9, .string a0_10, .int .i64 a0_11, .string a0_12, .string a0_13, .int .i64 a0_14, .string a0_15, (.slice A0_16 l0_16.length c0_16), .string a0_17, .string a0_18, (.slice A0_19 l0_19.length c0_19), (.slice A0_20 l0_20.length c0_20)] 29 (0, 0))) ∧ Aside0 (Below w.heap.size w w'))
  case atStart => exact ⟨(wrap64 ((wrap64 ((wrap64 ((wrap64 ((wrap64 ((wrap64 ((wrap64 ((wrap64 ((wrap64 ((wrap64 ((wrap64 ((wrap64 ((a0_2.size : Int) + (a0_3.size : Int))) + (a0_4.size : Int))) + (a0_5.size : Int))) + (a0_7.size : Int))) + (a0_8.size : Int))) + (a0_9.size : Int))) + (a0_10.size : Int))) + (a0_12.size : Int))) + (a0_13.size : Int))) + (a0_15.size : Int))) + (a0_17.size : Int))) + (a0_18.size : Int))), (0), (by first | rfl | (simp; done) | (simp [*]; done)), (by first | rfl | (simp; done) | (simp [*]; done)), H', ⟨Nat.le_refl _⟩, ⟨by (with_reducible repeat (first | refine blk_drewN ?_ _ | refine blk_drew ?_ | refine blk_alloc ?_ _)); exact BK203.out⟩, ⟨by repeat (first | (with_reducible first | exact HB.out | apply below_alloc | apply pw_below_drewN | apply below_drew1 | refine below_set ?_ GE203.out) | exact HB.out)⟩⟩
  case round =>
    clear H'
    try clear p2
    try clear hcz3_0
    try clear hcz3_1
    try clear hcz3_10
    try clear hcz3_11
    try clear hcz3_12
    try clear hcz3_13
    try clear hcz3_14
    try clear hcz3_15
    try clear hcz3_16
    try clear hcz3_17
    try clear hcz3_18
    try clear hcz3_19
    try clear hcz3_2
    try clear hcz3_20
    try clear hcz3_3
    try clear hcz3_4
    try clear hcz3_5
    try clear hcz3_6
    try clear hcz3_7
    try clear hcz3_8
    try clear hcz3_9
    try clear hfz3_0
    try clear hfz3_1
    try clear hfz3_10
    try clear hfz3_11
    try clear hfz3_12
    try clear hfz3_13
    try clear hfz3_14
    try clear hfz3_15
    try clear hfz3_16
    try clear hfz3_17
    try clear hfz3_18
    try clear hfz3_19
    try clear hfz3_2
    try clear hfz3_20
    try clear hfz3_3
    try clear hfz3_4
    try clear hfz3_5
    try clear hfz3_6
    try clear hfz3_7
    try clear hfz3_8
    try clear hfz3_9
    obtain ⟨x3_1, x4_1, rfl, rfl, HA, HK1, BK203, HB⟩ := hrel
    cases gk with
    | zero => exact absurd HA.out (by simp [comptoirplay_Small.l0])
    | succ k1 =>
      have H := HA.out
      clear HA
      simp only [comptoirplay_Small.l0] at H
      by_cases c4 : x4_1 < (l0_16.length : Int)
      · rw [if_pos c4] at H
        have c4b0 : decide (x4_1 < (l0_16.length : Int)) = true := decide_eq_true c4
        clear c4
        by_cases c5 : 0 ≤ x4_1
        · rw [if_pos c5] at H
          have c5b0 : decide (0 ≤ x4_1) = true := decide_eq_true c5
          clear c5
          have H' := Aside0.mk H
          clear H
          have hcz6_0 : wr.cell? ⟨gb203, 0, none⟩ = some (.int .i64 a0_0) := (blk_cell BK203.out 0).trans rfl
          have hcz6_1 : wr.cell? ⟨gb203, 1, none⟩ = some (.int .i64 a0_1) := (blk_cell BK203.out 1).trans rfl
          have hcz6_2 : wr.cell? ⟨gb203, 2, none⟩ = some (.string a0_2) := (blk_cell BK203.out 2).trans rfl
          have hcz6_3 : wr.cell? ⟨gb203, 3, none⟩ = some (.string a0_3) := (blk_cell BK203.out 3).trans rfl
          have hcz6_4 : wr.cell? ⟨gb203, 4, none⟩ = some (.string a0_4) := (blk_cell BK203.out 4).trans rfl
          have hcz6_5 : wr.cell? ⟨gb203, 5, none⟩ = some (.string a0_5) := (blk_cell BK203.out 5).trans rfl
          have hcz6_6 : wr.cell? ⟨gb203, 6, none⟩ = some (.int .u64 a0_6) := (blk_cell BK203.out 6).trans rfl
          have hcz6_7 : wr.cell? ⟨gb203, 7, none⟩ = some (.string a0_7) := (blk_cell BK203.out 7).trans rfl
          have hcz6_8 : wr.cell? ⟨gb203, 8, none⟩ = some (.string a0_8) := (blk_cell BK203.out 8).trans rfl
          have hcz6_9 : wr.cell? ⟨gb203, 9, none⟩ = some (.string a0_9) := (blk_cell BK203.out 9).trans rfl
          have hcz6_10 : wr.cell? ⟨gb203, 10, none⟩ = some (.string a0_10) := (blk_cell BK203.out 10).trans rfl
          have hcz6_11 : wr.cell? ⟨gb203, 11, none⟩ = some (.int .i64 a0_11) := (blk_cell BK203.out 11).trans rfl
          have hcz6_12 : wr.cell? ⟨gb203, 12, none⟩ = some (.string a0_12) := (blk_cell BK203.out 12).trans rfl
          have hcz6_13 : wr.cell? ⟨gb203, 13, none⟩ = some (.string a0_13) := (blk_cell BK203.out 13).trans rfl
          have hcz6_14 : wr.cell? ⟨gb203, 14, none⟩ = some (.int .i64 a0_14) := (blk_cell BK203.out 14).trans rfl
          have hcz6_15 : wr.cell? ⟨gb203, 15, none⟩ = some (.string a0_15) := (blk_cell BK203.out 15).trans rfl
          have hcz6_16 : wr.cell? ⟨gb203, 16, none⟩ = some (.slice A0_16 l0_16.length c0_16) := (blk_cell BK203.out 16).trans rfl
          have hcz6_17 : wr.cell? ⟨gb203, 17, none⟩ = some (.string a0_17) := (blk_cell BK203.out 17).trans rfl
          have hcz6_18 : wr.cell? ⟨gb203, 18, none⟩ = some (.string a0_18) := (blk_cell BK203.out 18).trans rfl
          have hcz6_19 : wr.cell? ⟨gb203, 19, none⟩ = some (.slice A0_19 l0_19.length c0_19) := (blk_cell BK203.out 19).trans rfl
          have hcz6_20 : wr.cell? ⟨gb203, 20, none⟩ = some (.slice A0_20 l0_20.length c0_20) := (blk_cell BK203.out 20).trans rfl
          have hfz6_0 := blk_frozen BK203.out 0
          have hfz6_1 := blk_frozen BK203.out 1
          have hfz6_2 := blk_frozen BK203.out 2
          have hfz6_3 := blk_frozen BK203.out 3
          have hfz6_4 := blk_frozen BK203.out 4
          have hfz6_5 := blk_frozen BK203.out 5
          have hfz6_6 := blk_frozen BK203.out 6
          have hfz6_7 := blk_frozen BK203.out 7
          have hfz6_8 := blk_frozen BK203.out 8
          have hfz6_9 := blk_frozen BK203.out 9
          have hfz6_10 := blk_frozen BK203.out 10
          have hfz6_11 := blk_frozen BK203.out 11
          have hfz6_12 := blk_frozen BK203.out 12
          have hfz6_13 := blk_frozen BK203.out 13
          have hfz6_14 := blk_frozen BK203.out 14
          have hfz6_15 := blk_frozen BK203.out 15
          have hfz6_16 := blk_frozen BK203.out 16
          have hfz6_17 := blk_frozen BK203.out 17
          have hfz6_18 := blk_frozen BK203.out 18
          have hfz6_19 := blk_frozen BK203.out 19
          have hfz6_20 := blk_frozen BK203.out 20
          have p204 : 0 ≤ (x4_1 : Int) := of_decide_eq_true (by first | (with_reducible assumption) | assumption)
          have q204 : x4_1 < (l0_16.length : Int) := of_decide_eq_true (by first | (with_reducible assumption) | assumption)
          obtain ⟨ad204, A204_1, c204_1, e204, hx204_0, hx204_1, hl204_1, hi204_1⟩ := at_T51 HR0_16.out x4_1 p204 q204
          cases e204
          replace hx204_0 := (HB.out.cell (World.block_lt_of_cell? w _ hx204_0)).trans hx204_0
          replace hx204_1 := (HB.out.cell (World.block_lt_of_cell? w _ hx204_1)).trans hx204_1
          have HR204_1 := Aside0.mk hi204_1
          have HC204_1 := Aside0.mk hl204_1
          clear hi204_1 hl204_1
          replace p204 := eq_true p204
          replace q204 := eq_true q204
          go_wp2
          repeat (go_quiet (fail); try go_wp2)
          go_roundg k1
          case measure => have := HK1.out; omega
          case rel => exact ⟨(wrap64 ((wrap64 (x3_1 + 4)) + (((rd_T51 l0_16 x4_1).f1).length : Int))), (wrap64 (x4_1 + 1)), (by first | rfl | (simp; done) | (simp [*]; done)), (by first | rfl | (simp; done) | (simp [*]; done)), H', ⟨by have := HK1.out; omega⟩, ⟨by (with_reducible repeat (first | refine blk_drewN ?_ _ | refine blk_drew ?_ | refine blk_alloc ?_ _)); exact BK203.out⟩, ⟨by repeat (first | (with_reducible first | exact HB.out | apply below_alloc | apply pw_below_drewN | apply below_drew1 | refine below_set ?_ GE203.out) | exact HB.out)⟩⟩
        · rw [if_neg c5] at H
          exact absurd H (by simp)
      · rw [if_neg c4] at H
        have c4b0 : decide (x4_1 < (l0_16.length : Int)) = false := decide_eq_false c4
        clear c4
        have H' := Aside0.mk H
        clear H
        have hcz7_0 : wr.cell? ⟨gb203, 0, none⟩ = some (.int .i64 a0_0) := (blk_cell BK203.out 0).trans rfl
        have hcz7_1 : wr.cell? ⟨gb203, 1, none⟩ = some (.int .i64 a0_1) := (blk_cell BK203.out 1).trans rfl
        have hcz7_2 : wr.cell? ⟨gb203, 2, none⟩ = some (.string a0_2) := (blk_cell BK203.out 2).trans rfl
        have hcz7_3 : wr.cell? ⟨gb203, 3, none⟩ = some (.string a0_3) := (blk_cell BK203.out 3).trans rfl
        have hcz7_4 : wr.cell? ⟨gb203, 4, none⟩ = some (.string a0_4) := (blk_cell BK203.out 4).trans rfl
        have hcz7_5 : wr.cell? ⟨gb203, 5, none⟩ = some (.string a0_5) := (blk_cell BK203.out 5).trans rfl
        have hcz7_6 : wr.cell? ⟨gb203, 6, none⟩ = some (.int .u64 a0_6) := (blk_cell BK203.out 6).trans rfl
        have hcz7_7 : wr.cell? ⟨gb203, 7, none⟩ = some (.string a0_7) := (blk_cell BK203.out 7).trans rfl
        have hcz7_8 : wr.cell? ⟨gb203, 8, none⟩ = some (.string a0_8) := (blk_cell BK203.out 8).trans rfl
        have hcz7_9 : wr.cell? ⟨gb203, 9, none⟩ = some (.string a0_9) := (blk_cell BK203.out 9).trans rfl
        have hcz7_10 : wr.cell? ⟨gb203, 10, none⟩ = some (.string a0_10) := (blk_cell BK203.out 10).trans rfl
        have hcz7_11 : wr.cell? ⟨gb203, 11, none⟩ = some (.int .i64 a0_11) := (blk_cell BK203.out 11).trans rfl
        have hcz7_12 : wr.cell? ⟨gb203, 12, none⟩ = some (.string a0_12) := (blk_cell BK203.out 12).trans rfl
        have hcz7_13 : wr.cell? ⟨gb203, 13, none⟩ = some (.string a0_13) := (blk_cell BK203.out 13).trans rfl
        have hcz7_14 : wr.cell? ⟨gb203, 14, none⟩ = some (.int .i64 a0_14) := (blk_cell BK203.out 14).trans rfl
        have hcz7_15 : wr.cell? ⟨gb203, 15, none⟩ = some (.string a0_15) := (blk_cell BK203.out 15).trans rfl
        have hcz7_16 : wr.cell? ⟨gb203, 16, none⟩ = some (.slice A0_16 l0_16.length c0_16) := (blk_cell BK203.out 16).trans rfl
        have hcz7_17 : wr.cell? ⟨gb203, 17, none⟩ = some (.string a0_17) := (blk_cell BK203.out 17).trans rfl
        have hcz7_18 : wr.cell? ⟨gb203, 18, none⟩ = some (.string a0_18) := (blk_cell BK203.out 18).trans rfl
        have hcz7_19 : wr.cell? ⟨gb203, 19, none⟩ = some (.slice A0_19 l0_19.length c0_19) := (blk_cell BK203.out 19).trans rfl
        have hcz7_20 : wr.cell? ⟨gb203, 20, none⟩ = some (.slice A0_20 l0_20.length c0_20) := (blk_cell BK203.out 20).trans rfl
        have hfz7_0 := blk_frozen BK203.out 0
        have hfz7_1 := blk_frozen BK203.out 1
        have hfz7_2 := blk_frozen BK203.out 2
        have hfz7_3 := blk_frozen BK203.out 3
        have hfz7_4 := blk_frozen BK203.out 4
        have hfz7_5 := blk_frozen BK203.out 5
        have hfz7_6 := blk_frozen BK203.out 6
        have hfz7_7 := blk_frozen BK203.out 7
        have hfz7_8 := blk_frozen BK203.out 8
        have hfz7_9 := blk_frozen BK203.out 9
        have hfz7_10 := blk_frozen BK203.out 10
        have hfz7_11 := blk_frozen BK203.out 11
        have hfz7_12 := blk_frozen BK203.out 12
        have hfz7_13 := blk_frozen BK203.out 13
        have hfz7_14 := blk_frozen BK203.out 14
        have hfz7_15 := blk_frozen BK203.out 15
        have hfz7_16 := blk_frozen BK203.out 16
        have hfz7_17 := blk_frozen BK203.out 17
        have hfz7_18 := blk_frozen BK203.out 18
        have hfz7_19 := blk_frozen BK203.out 19
        have hfz7_20 := blk_frozen BK203.out 20
        go_wp2
        repeat (go_quiet (fail); try go_wp2)
        go_loopg [3, 5] k1 (fun kq v3 v5 w' => ∃ (x3_2 : Int) (x5_2 : Int), v3 = .int .i64 x3_2 ∧ v5 = .int .i64 x5_2 ∧ Aside0 (comptoirplay_Small.l1 kq x3_2 x5_2 a0_0 a0_1 a0_2 a0_3 a0_4 a0_5 a0_6 a0_7 a0_8 a0_9 a0_10 a0_11 a0_12 a0_13 a0_14 a0_15 l0_16 a0_17 a0_18 l0_19 l0_20 = some r) ∧ Aside0 (kq ≤ k1) ∧ Aside0 (w'.heap[gb203]? = some (.cells #[.int .i64 a0_0, .int .i64 a0_1, .string a0_2, .string a0_3, .string a0_4, .string a0_5, .int .u64 a0_6, .string a0_7, .string a0_8, .string a0_9, .string a0_10, .int .i64 a0_11, .string a0_12, .string a0_13, .int .i64 a0_14, .string a0_15, (.slice A0_16 l0_16.length c0_16), .string a0_17, .string a0_18, (.slice A0_19 l0_19.length c0_19), (.slice A0_20 l0_20.length c0_20)] 29 (0, 0))) ∧ Aside0 (Below w.heap.size w w'))
        case atStart => exact ⟨(x3_1), (0), (by first | rfl | (simp; done) | (simp [*]; done)), (by first | rfl | (simp; done) | (simp [*]; done)), H', ⟨Nat.le_refl _⟩, ⟨by (with_reducible repeat (first | refine blk_drewN ?_ _ | refine blk_drew ?_ | refine blk_alloc ?_ _)); exact BK203.out⟩, ⟨by repeat (first | (with_reducible first | exact HB.out | apply below_alloc | apply pw_below_drewN | apply below_drew1 | refine below_set ?_ GE203.out) | exact HB.out)⟩⟩
        case round =>
          clear H'
          try clear c2
          try clear p2
          try clear q2
          try clear hx2
          try clear c4
          try clear c4b0
          try clear c5
          try clear c5b0
          try clear p6
          try clear hcz3_0
          try clear hcz3_1
          try clear hcz3_10
          try clear hcz3_11
          try clear hcz3_12
          try clear hcz3_13
          try clear hcz3_14
          try clear hcz3_15
          try clear hcz3_16
          try clear hcz3_17
          try clear hcz3_18
          try clear hcz3_19
          try clear hcz3_2
          try clear hcz3_20
          try clear hcz3_3
          try clear hcz3_4
          try clear hcz3_5
          try clear hcz3_6
          try clear hcz3_7
          try clear hcz3_8
          try clear hcz3_9
          try clear hcz6_0
          try clear hcz6_1
          try clear hcz6_10
          try clear hcz6_11
          try clear hcz6_12
          try clear hcz6_13
          try clear hcz6_14
          try clear hcz6_15
          try clear hcz6_16
          try clear hcz6_17
          try clear hcz6_18
          try clear hcz6_19
          try clear hcz6_2
          try clear hcz6_20
          try clear hcz6_3
          try clear hcz6_4
          try clear hcz6_5
          try clear hcz6_6
          try clear hcz6_7
          try clear hcz6_8
          try clear hcz6_9
          try clear hcz7_0
          try clear hcz7_1
          try clear hcz7_10
          try clear hcz7_11
          try clear hcz7_12
          try clear hcz7_13
          try clear hcz7_14
          try clear hcz7_15
          try clear hcz7_16
          try clear hcz7_17
          try clear hcz7_18
          try clear hcz7_19
          try clear hcz7_2
          try clear hcz7_20
          try clear hcz7_3
          try clear hcz7_4
          try clear hcz7_5
          try clear hcz7_6
          try clear hcz7_7
          try clear hcz7_8
          try clear hcz7_9
          try clear hfz3_0
          try clear hfz3_1
          try clear hfz3_10
          try clear hfz3_11
          try clear hfz3_12
          try clear hfz3_13
          try clear hfz3_14
          try clear hfz3_15
          try clear hfz3_16
          try clear hfz3_17
          try clear hfz3_18
          try clear hfz3_19
          try clear hfz3_2
          try clear hfz3_20
          try clear hfz3_3
          try clear hfz3_4
          try clear hfz3_5
          try clear hfz3_6
          try clear hfz3_7
          try clear hfz3_8
          try clear hfz3_9
          try clear hfz6_0
          try clear hfz6_1
          try clear hfz6_10
          try clear hfz6_11
          try clear hfz6_12
          try clear hfz6_13
          try clear hfz6_14
          try clear hfz6_15
          try clear hfz6_16
          try clear hfz6_17
          try clear hfz6_18
          try clear hfz6_19
          try clear hfz6_2
          try clear hfz6_20
          try clear hfz6_3
          try clear hfz6_4
          try clear hfz6_5
          try clear hfz6_6
          try clear hfz6_7
          try clear hfz6_8
          try clear hfz6_9
          try clear hfz7_0
          try clear hfz7_1
          try clear hfz7_10
          try clear hfz7_11
          try clear hfz7_12
          try clear hfz7_13
          try clear hfz7_14
          try clear hfz7_15
          try clear hfz7_16
          try clear hfz7_17
          try clear hfz7_18
          try clear hfz7_19
          try clear hfz7_2
          try clear hfz7_20
          try clear hfz7_3
          try clear hfz7_4
          try clear hfz7_5
          try clear hfz7_6
          try clear hfz7_7
          try clear hfz7_8
          try clear hfz7_9
          try clear hx204_0
          try clear hx204_1
          try clear p2
          try clear p204
          try clear q204
          obtain ⟨x3_2, x5_2, rfl, rfl, HA, HK2, BK203, HB⟩ := hrel
          cases gk with
          | zero => exact absurd HA.out (by simp [comptoirplay_Small.l1])
          | succ k2 =>
            have H := HA.out
            clear HA
            simp only [comptoirplay_Small.l1] at H
            by_cases c8 : x5_2 < (l0_19.length : Int)
            · rw [if_pos c8] at H
              have c8b0 : decide (x5_2 < (l0_19.length : Int)) = true := decide_eq_true c8
              clear c8
              by_cases c9 : 0 ≤ x5_2
              · rw [if_pos c9] at H
                have c9b0 : decide (0 ≤ x5_2) = true := decide_eq_true c9
                clear c9
                have H' := Aside0.mk H
                clear H
                have hcz10_0 : wr.cell? ⟨gb203, 0, none⟩ = some (.int .i64 a0_0) := (blk_cell BK203.out 0).trans rfl
                have hcz10_1 : wr.cell? ⟨gb203, 1, none⟩ = some (.int .i64 a0_1) := (blk_cell BK203.out 1).trans rfl
                have hcz10_2 : wr.cell? ⟨gb203, 2, none⟩ = some (.string a0_2) := (blk_cell BK203.out 2).trans rfl
                have hcz10_3 : wr.cell? ⟨gb203, 3, none⟩ = some (.string a0_3) := (blk_cell BK203.out 3).trans rfl
                have hcz10_4 : wr.cell? ⟨gb203, 4, none⟩ = some (.string a0_4) := (blk_cell BK203.out 4).trans rfl
                have hcz10_5 : wr.cell? ⟨gb203, 5, none⟩ = some (.string a0_5) := (blk_cell BK203.out 5).trans rfl
                have hcz10_6 : wr.cell? ⟨gb203, 6, none⟩ = some (.int .u64 a0_6) := (blk_cell BK203.out 6).trans rfl
                have hcz10_7 : wr.cell? ⟨gb203, 7, none⟩ = some (.string a0_7) := (blk_cell BK203.out 7).trans rfl
                have hcz10_8 : wr.cell? ⟨gb203, 8, none⟩ = some (.string a0_8) := (blk_cell BK203.out 8).trans rfl
                have hcz10_9 : wr.cell? ⟨gb203, 9, none⟩ = some (.string a0_9) := (blk_cell BK203.out 9).trans rfl
                have hcz10_10 : wr.cell? ⟨gb203, 10, none⟩ = some (.string a0_10) := (blk_cell BK203.out 10).trans rfl
                have hcz10_11 : wr.cell? ⟨gb203, 11, none⟩ = some (.int .i64 a0_11) := (blk_cell BK203.out 11).trans rfl
                have hcz10_12 : wr.cell? ⟨gb203, 12, none⟩ = some (.string a0_12) := (blk_cell BK203.out 12).trans rfl
                have hcz10_13 : wr.cell? ⟨gb203, 13, none⟩ = some (.string a0_13) := (blk_cell BK203.out 13).trans rfl
                have hcz10_14 : wr.cell? ⟨gb203, 14, none⟩ = some (.int .i64 a0_14) := (blk_cell BK203.out 14).trans rfl
                have hcz10_15 : wr.cell? ⟨gb203, 15, none⟩ = some (.string a0_15) := (blk_cell BK203.out 15).trans rfl
                have hcz10_16 : wr.cell? ⟨gb203, 16, none⟩ = some (.slice A0_16 l0_16.length c0_16) := (blk_cell BK203.out 16).trans rfl
                have hcz10_17 : wr.cell? ⟨gb203, 17, none⟩ = some (.string a0_17) := (blk_cell BK203.out 17).trans rfl
                have hcz10_18 : wr.cell? ⟨gb203, 18, none⟩ = some (.string a0_18) := (blk_cell BK203.out 18).trans rfl
                have hcz10_19 : wr.cell? ⟨gb203, 19, none⟩ = some (.slice A0_19 l0_19.length c0_19) := (blk_cell BK203.out 19).trans rfl
                have hcz10_20 : wr.cell? ⟨gb203, 20, none⟩ = some (.slice A0_20 l0_20.length c0_20) := (blk_cell BK203.out 20).trans rfl
                have hfz10_0 := blk_frozen BK203.out 0
                have hfz10_1 := blk_frozen BK203.out 1
                have hfz10_2 := blk_frozen BK203.out 2
                have hfz10_3 := blk_frozen BK203.out 3
                have hfz10_4 := blk_frozen BK203.out 4
                have hfz10_5 := blk_frozen BK203.out 5
                have hfz10_6 := blk_frozen BK203.out 6
                have hfz10_7 := blk_frozen BK203.out 7
                have hfz10_8 := blk_frozen BK203.out 8
                have hfz10_9 := blk_frozen BK203.out 9
                have hfz10_10 := blk_frozen BK203.out 10
                have hfz10_11 := blk_frozen BK203.out 11
                have hfz10_12 := blk_frozen BK203.out 12
                have hfz10_13 := blk_frozen BK203.out 13
                have hfz10_14 := blk_frozen BK203.out 14
                have hfz10_15 := blk_frozen BK203.out 15
                have hfz10_16 := blk_frozen BK203.out 16
                have hfz10_17 := blk_frozen BK203.out 17
                have hfz10_18 := blk_frozen BK203.out 18
                have hfz10_19 := blk_frozen BK203.out 19
                have hfz10_20 := blk_frozen BK203.out 20
                have p205 : 0 ≤ (x5_2 : Int) := of_decide_eq_true (by first | (with_reducible assumption) | assumption)
                have q205 : x5_2 < (l0_19.length : Int) := of_decide_eq_true (by first | (with_reducible assumption) | assumption)
                obtain ⟨ad205, e205, hx205_0, hx205_1⟩ := at_T53 HR0_19.out x5_2 p205 q205
                cases e205
                replace hx205_0 := (HB.out.cell (World.block_lt_of_cell? w _ hx205_0)).trans hx205_0
                replace hx205_1 := (HB.out.cell (World.block_lt_of_cell? w _ hx205_1)).trans hx205_1
                replace p205 := eq_true p205
                replace q205 := eq_true q205
                have p206 : 0 ≤ (x5_2 : Int) := of_decide_eq_true (by first | (with_reducible assumption) | assumption)
                have q206 : x5_2 < (l0_19.length : Int) := of_decide_eq_true (by first | (with_reducible assumption) | assumption)
                obtain ⟨ad206, e206, hx206_0, hx206_1⟩ := at_T53 HR0_19.out x5_2 p206 q206
                obtain rfl : ad205 = ad206 := (by injection e206)
                replace hx206_0 := (HB.out.cell (World.block_lt_of_cell? w _ hx206_0)).trans hx206_0
                replace hx206_1 := (HB.out.cell (World.block_lt_of_cell? w _ hx206_1)).trans hx206_1
                replace p206 := eq_true p206
                replace q206 := eq_true q206
                go_wp2
                repeat (go_quiet (fail); try go_wp2)
                go_roundg k2
                case measure => have := HK1.out; have := HK2.out; omega
                case rel => exact ⟨(wrap64 ((wrap64 ((wrap64 (x3_2 + 4)) + (((rd_T53 l0_19 x5_2).f0).size : Int))) + (((rd_T53 l0_19 x5_2).f1).size : Int))), (wrap64 (x5_2 + 1)), (by first | rfl | (simp; done) | (simp [*]; done)), (by first | rfl | (simp; done) | (simp [*]; done)), H', ⟨by have := HK1.out; have := HK2.out; omega⟩, ⟨by (with_reducible repeat (first | refine blk_drewN ?_ _ | refine blk_drew ?_ | refine blk_alloc ?_ _)); exact BK203.out⟩, ⟨by repeat (first | (with_reducible first | exact HB.out | apply below_alloc | apply pw_below_drewN | apply below_drew1 | refine below_set ?_ GE203.out) | exact HB.out)⟩⟩
              · rw [if_neg c9] at H
                exact absurd H (by simp)
            · rw [if_neg c8] at H
              have c8b0 : decide (x5_2 < (l0_19.length : Int)) = false := decide_eq_false c8
              clear c8
              have H' := Aside0.mk H
              clear H
              have hcz11_0 : wr.cell? ⟨gb203, 0, none⟩ = some (.int .i64 a0_0) := (blk_cell BK203.out 0).trans rfl
              have hcz11_1 : wr.cell? ⟨gb203, 1, none⟩ = some (.int .i64 a0_1) := (blk_cell BK203.out 1).trans rfl
              have hcz11_2 : wr.cell? ⟨gb203, 2, none⟩ = some (.string a0_2) := (blk_cell BK203.out 2).trans rfl
              have hcz11_3 : wr.cell? ⟨gb203, 3, none⟩ = some (.string a0_3) := (blk_cell BK203.out 3).trans rfl
              have hcz11_4 : wr.cell? ⟨gb203, 4, none⟩ = some (.string a0_4) := (blk_cell BK203.out 4).trans rfl
              have hcz11_5 : wr.cell? ⟨gb203, 5, none⟩ = some (.string a0_5) := (blk_cell BK203.out 5).trans rfl
              have hcz11_6 : wr.cell? ⟨gb203, 6, none⟩ = some (.int .u64 a0_6) := (blk_cell BK203.out 6).trans rfl
              have hcz11_7 : wr.cell? ⟨gb203, 7, none⟩ = some (.string a0_7) := (blk_cell BK203.out 7).trans rfl
              have hcz11_8 : wr.cell? ⟨gb203, 8, none⟩ = some (.string a0_8) := (blk_cell BK203.out 8).trans rfl
              have hcz11_9 : wr.cell? ⟨gb203, 9, none⟩ = some (.string a0_9) := (blk_cell BK203.out 9).trans rfl
              have hcz11_10 : wr.cell? ⟨gb203, 10, none⟩ = some (.string a0_10) := (blk_cell BK203.out 10).trans rfl
              have hcz11_11 : wr.cell? ⟨gb203, 11, none⟩ = some (.int .i64 a0_11) := (blk_cell BK203.out 11).trans rfl
              have hcz11_12 : wr.cell? ⟨gb203, 12, none⟩ = some (.string a0_12) := (blk_cell BK203.out 12).trans rfl
              have hcz11_13 : wr.cell? ⟨gb203, 13, none⟩ = some (.string a0_13) := (blk_cell BK203.out 13).trans rfl
              have hcz11_14 : wr.cell? ⟨gb203, 14, none⟩ = some (.int .i64 a0_14) := (blk_cell BK203.out 14).trans rfl
              have hcz11_15 : wr.cell? ⟨gb203, 15, none⟩ = some (.string a0_15) := (blk_cell BK203.out 15).trans rfl
              have hcz11_16 : wr.cell? ⟨gb203, 16, none⟩ = some (.slice A0_16 l0_16.length c0_16) := (blk_cell BK203.out 16).trans rfl
              have hcz11_17 : wr.cell? ⟨gb203, 17, none⟩ = some (.string a0_17) := (blk_cell BK203.out 17).trans rfl
              have hcz11_18 : wr.cell? ⟨gb203, 18, none⟩ = some (.string a0_18) := (blk_cell BK203.out 18).trans rfl
              have hcz11_19 : wr.cell? ⟨gb203, 19, none⟩ = some (.slice A0_19 l0_19.length c0_19) := (blk_cell BK203.out 19).trans rfl
              have hcz11_20 : wr.cell? ⟨gb203, 20, none⟩ = some (.slice A0_20 l0_20.length c0_20) := (blk_cell BK203.out 20).trans rfl
              have hfz11_0 := blk_frozen BK203.out 0
              have hfz11_1 := blk_frozen BK203.out 1
              have hfz11_2 := blk_frozen BK203.out 2
              have hfz11_3 := blk_frozen BK203.out 3
              have hfz11_4 := blk_frozen BK203.out 4
              have hfz11_5 := blk_frozen BK203.out 5
              have hfz11_6 := blk_frozen BK203.out 6
              have hfz11_7 := blk_frozen BK203.out 7
              have hfz11_8 := blk_frozen BK203.out 8
              have hfz11_9 := blk_frozen BK203.out 9
              have hfz11_10 := blk_frozen BK203.out 10
              have hfz11_11 := blk_frozen BK203.out 11
              have hfz11_12 := blk_frozen BK203.out 12
              have hfz11_13 := blk_frozen BK203.out 13
              have hfz11_14 := blk_frozen BK203.out 14
              have hfz11_15 := blk_frozen BK203.out 15
              have hfz11_16 := blk_frozen BK203.out 16
              have hfz11_17 := blk_frozen BK203.out 17
              have hfz11_18 := blk_frozen BK203.out 18
              have hfz11_19 := blk_frozen BK203.out 19
              have hfz11_20 := blk_frozen BK203.out 20
              go_wp2
              repeat (go_quiet (fail); try go_wp2)
              go_loopg [3, 6] k2 (fun kq v3 v6 w' => ∃ (x3_3 : Int) (x6_3 : Int), v3 = .int .i64 x3_3 ∧ v6 = .int .i64 x6_3 ∧ Aside0 (comptoirplay_Small.l2 kq x3_3 x6_3 a0_0 a0_1 a0_2 a0_3 a0_4 a0_5 a0_6 a0_7 a0_8 a0_9 a0_10 a0_11 a0_12 a0_13 a0_14 a0_15 l0_16 a0_17 a0_18 l0_19 l0_20 = some r) ∧ Aside0 (kq ≤ k2) ∧ Aside0 (w'.heap[gb203]? = some (.cells #[.int .i64 a0_0, .int .i64 a0_1, .string a0_2, .string a0_3, .string a0_4, .string a0_5, .int .u64 a0_6, .string a0_7, .string a0_8, .string a0_9, .string a0_10, .int .i64 a0_11, .string a0_12, .string a0_13, .int .i64 a0_14, .string a0_15, (.slice A0_16 l0_16.length c0_16), .string a0_17, .string a0_18, (.slice A0_19 l0_19.length c0_19), (.slice A0_20 l0_20.length c0_20)] 29 (0, 0))) ∧ Aside0 (Below w.heap.size w w'))
              case atStart => exact ⟨(x3_2), (0), (by first | rfl | (simp; done) | (simp [*]; done)), (by first | rfl | (simp; done) | (simp [*]; done)), H', ⟨Nat.le_refl _⟩, ⟨by (with_reducible repeat (first | refine blk_drewN ?_ _ | refine blk_drew ?_ | refine blk_alloc ?_ _)); exact BK203.out⟩, ⟨by repeat (first | (with_reducible first | exact HB.out | apply below_alloc | apply pw_below_drewN | apply below_drew1 | refine below_set ?_ GE203.out) | exact HB.out)⟩⟩
              case round =>
                clear H'
                try clear c2
                try clear p2
                try clear q2
                try clear hx2
                try clear c4
                try clear c4b0
                try clear c5
                try clear c5b0
                try clear p6
                try clear c8
                try clear c8b0
                try clear c9
                try clear c9b0
                try clear hcz10_0
                try clear hcz10_1
                try clear hcz10_10
                try clear hcz10_11
                try clear hcz10_12
                try clear hcz10_13
                try clear hcz10_14
                try clear hcz10_15
                try clear hcz10_16
                try clear hcz10_17
                try clear hcz10_18
                try clear hcz10_19
                try clear hcz10_2
                try clear hcz10_20
                try clear hcz10_3
                try clear hcz10_4
                try clear hcz10_5
                try clear hcz10_6
                try clear hcz10_7
                try clear hcz10_8
                try clear hcz10_9
                try clear hcz11_0
                try clear hcz11_1
                try clear hcz11_10
                try clear hcz11_11
                try clear hcz11_12
                try clear hcz11_13
                try clear hcz11_14
                try clear hcz11_15
                try clear hcz11_16
                try clear hcz11_17
                try clear hcz11_18
                try clear hcz11_19
                try clear hcz11_2
                try clear hcz11_20
                try clear hcz11_3
                try clear hcz11_4
                try clear hcz11_5
                try clear hcz11_6
                try clear hcz11_7
                try clear hcz11_8
                try clear hcz11_9
                try clear hcz3_0
                try clear hcz3_1
                try clear hcz3_10
                try clear hcz3_11
                try clear hcz3_12
                try clear hcz3_13
                try clear hcz3_14
                try clear hcz3_15
                try clear hcz3_16
                try clear hcz3_17
                try clear hcz3_18
                try clear hcz3_19
                try clear hcz3_2
                try clear hcz3_20
                try clear hcz3_3
                try clear hcz3_4
                try clear hcz3_5
                try clear hcz3_6
                try clear hcz3_7
                try clear hcz3_8
                try clear hcz3_9
                try clear hcz6_0
                try clear hcz6_1
                try clear hcz6_10
                try clear hcz6_11
                try clear hcz6_12
                try clear hcz6_13
                try clear hcz6_14
                try clear hcz6_15
                try clear hcz6_16
                try clear hcz6_17
                try clear hcz6_18
                try clear hcz6_19
                try clear hcz6_2
                try clear hcz6_20
                try clear hcz6_3
                try clear hcz6_4
                try clear hcz6_5
                try clear hcz6_6
                try clear hcz6_7
                try clear hcz6_8
                try clear hcz6_9
                try clear hcz7_0
                try clear hcz7_1
                try clear hcz7_10
                try clear hcz7_11
                try clear hcz7_12
                try clear hcz7_13
                try clear hcz7_14
                try clear hcz7_15
                try clear hcz7_16
                try clear hcz7_17
                try clear hcz7_18
                try clear hcz7_19
                try clear hcz7_2
                try clear hcz7_20
                try clear hcz7_3
                try clear hcz7_4
                try clear hcz7_5
                try clear hcz7_6
                try clear hcz7_7
                try clear hcz7_8
                try clear hcz7_9
                try clear hfz10_0
                try clear hfz10_1
                try clear hfz10_10
                try clear hfz10_11
                try clear hfz10_12
                try clear hfz10_13
                try clear hfz10_14
                try clear hfz10_15
                try clear hfz10_16
                try clear hfz10_17
                try clear hfz10_18
                try clear hfz10_19
                try clear hfz10_2
                try clear hfz10_20
                try clear hfz10_3
                try clear hfz10_4
                try clear hfz10_5
                try clear hfz10_6
                try clear hfz10_7
                try clear hfz10_8
                try clear hfz10_9
                try clear hfz11_0
                try clear hfz11_1
                try clear hfz11_10
                try clear hfz11_11
                try clear hfz11_12
                try clear hfz11_13
                try clear hfz11_14
                try clear hfz11_15
                try clear hfz11_16
                try clear hfz11_17
                try clear hfz11_18
                try clear hfz11_19
                try clear hfz11_2
                try clear hfz11_20
                try clear hfz11_3
                try clear hfz11_4
                try clear hfz11_5
                try clear hfz11_6
                try clear hfz11_7
                try clear hfz11_8
                try clear hfz11_9
                try clear hfz3_0
                try clear hfz3_1
                try clear hfz3_10
                try clear hfz3_11
                try clear hfz3_12
                try clear hfz3_13
                try clear hfz3_14
                try clear hfz3_15
                try clear hfz3_16
                try clear hfz3_17
                try clear hfz3_18
                try clear hfz3_19
                try clear hfz3_2
                try clear hfz3_20
                try clear hfz3_3
                try clear hfz3_4
                try clear hfz3_5
                try clear hfz3_6
                try clear hfz3_7
                try clear hfz3_8
                try clear hfz3_9
                try clear hfz6_0
                try clear hfz6_1
                try clear hfz6_10
                try clear hfz6_11
                try clear hfz6_12
                try clear hfz6_13
                try clear hfz6_14
                try clear hfz6_15
                try clear hfz6_16
                try clear hfz6_17
                try clear hfz6_18
                try clear hfz6_19
                try clear hfz6_2
                try clear hfz6_20
                try clear hfz6_3
                try clear hfz6_4
                try clear hfz6_5
                try clear hfz6_6
                try clear hfz6_7
                try clear hfz6_8
                try clear hfz6_9
                try clear hfz7_0
                try clear hfz7_1
                try clear hfz7_10
                try clear hfz7_11
                try clear hfz7_12
                try clear hfz7_13
                try clear hfz7_14
                try clear hfz7_15
                try clear hfz7_16
                try clear hfz7_17
                try clear hfz7_18
                try clear hfz7_19
                try clear hfz7_2
                try clear hfz7_20
                try clear hfz7_3
                try clear hfz7_4
                try clear hfz7_5
                try clear hfz7_6
                try clear hfz7_7
                try clear hfz7_8
                try clear hfz7_9
                try clear hx204_0
                try clear hx204_1
                try clear hx205_0
                try clear hx205_1
                try clear hx206_0
                try clear hx206_1
                try clear p2
                try clear p204
                try clear p205
                try clear p206
                try clear p6
                try clear q2
                try clear q204
                try clear q205
                try clear q206
                obtain ⟨x3_3, x6_3, rfl, rfl, HA, HK3, BK203, HB⟩ := hrel
                cases gk with
                | zero => exact absurd HA.out (by simp [comptoirplay_Small.l2])
                | succ k3 =>
                  have H := HA.out
                  clear HA
                  simp only [comptoirplay_Small.l2] at H
                  by_cases c12 : x6_3 < (l0_20.length : Int)
                  · rw [if_pos c12] at H
                    have c12b0 : decide (x6_3 < (l0_20.length : Int)) = true := decide_eq_true c12
                    clear c12
                    by_cases c13 : 0 ≤ x6_3
                    · rw [if_pos c13] at H
                      have c13b0 : decide (0 ≤ x6_3) = true := decide_eq_true c13
                      clear c13
                      have H' := Aside0.mk H
                      clear H
                      have hcz14_0 : wr.cell? ⟨gb203, 0, none⟩ = some (.int .i64 a0_0) := (blk_cell BK203.out 0).trans rfl
                      have hcz14_1 : wr.cell? ⟨gb203, 1, none⟩ = some (.int .i64 a0_1) := (blk_cell BK203.out 1).trans rfl
                      have hcz14_2 : wr.cell? ⟨gb203, 2, none⟩ = some (.string a0_2) := (blk_cell BK203.out 2).trans rfl
                      have hcz14_3 : wr.cell? ⟨gb203, 3, none⟩ = some (.string a0_3) := (blk_cell BK203.out 3).trans rfl
                      have hcz14_4 : wr.cell? ⟨gb203, 4, none⟩ = some (.string a0_4) := (blk_cell BK203.out 4).trans rfl
                      have hcz14_5 : wr.cell? ⟨gb203, 5, none⟩ = some (.string a0_5) := (blk_cell BK203.out 5).trans rfl
                      have hcz14_6 : wr.cell? ⟨gb203, 6, none⟩ = some (.int .u64 a0_6) := (blk_cell BK203.out 6).trans rfl
                      have hcz14_7 : wr.cell? ⟨gb203, 7, none⟩ = some (.string a0_7) := (blk_cell BK203.out 7).trans rfl
                      have hcz14_8 : wr.cell? ⟨gb203, 8, none⟩ = some (.string a0_8) := (blk_cell BK203.out 8).trans rfl
                      have hcz14_9 : wr.cell? ⟨gb203, 9, none⟩ = some (.string a0_9) := (blk_cell BK203.out 9).trans rfl
                      have hcz14_10 : wr.cell? ⟨gb203, 10, none⟩ = some (.string a0_10) := (blk_cell BK203.out 10).trans rfl
                      have hcz14_11 : wr.cell? ⟨gb203, 11, none⟩ = some (.int .i64 a0_11) := (blk_cell BK203.out 11).trans rfl
                      have hcz14_12 : wr.cell? ⟨gb203, 12, none⟩ = some (.string a0_12) := (blk_cell BK203.out 12).trans rfl
                      have hcz14_13 : wr.cell? ⟨gb203, 13, none⟩ = some (.string a0_13) := (blk_cell BK203.out 13).trans rfl
                      have hcz14_14 : wr.cell? ⟨gb203, 14, none⟩ = some (.int .i64 a0_14) := (blk_cell BK203.out 14).trans rfl
                      have hcz14_15 : wr.cell? ⟨gb203, 15, none⟩ = some (.string a0_15) := (blk_cell BK203.out 15).trans rfl
                      have hcz14_16 : wr.cell? ⟨gb203, 16, none⟩ = some (.slice A0_16 l0_16.length c0_16) := (blk_cell BK203.out 16).trans rfl
                      have hcz14_17 : wr.cell? ⟨gb203, 17, none⟩ = some (.string a0_17) := (blk_cell BK203.out 17).trans rfl
                      have hcz14_18 : wr.cell? ⟨gb203, 18, none⟩ = some (.string a0_18) := (blk_cell BK203.out 18).trans rfl
                      have hcz14_19 : wr.cell? ⟨gb203, 19, none⟩ = some (.slice A0_19 l0_19.length c0_19) := (blk_cell BK203.out 19).trans rfl
                      have hcz14_20 : wr.cell? ⟨gb203, 20, none⟩ = some (.slice A0_20 l0_20.length c0_20) := (blk_cell BK203.out 20).trans rfl
                      have hfz14_0 := blk_frozen BK203.out 0
                      have hfz14_1 := blk_frozen BK203.out 1
                      have hfz14_2 := blk_frozen BK203.out 2
                      have hfz14_3 := blk_frozen BK203.out 3
                      have hfz14_4 := blk_frozen BK203.out 4
                      have hfz14_5 := blk_frozen BK203.out 5
                      have hfz14_6 := blk_frozen BK203.out 6
                      have hfz14_7 := blk_frozen BK203.out 7
                      have hfz14_8 := blk_frozen BK203.out 8
                      have hfz14_9 := blk_frozen BK203.out 9
                      have hfz14_10 := blk_frozen BK203.out 10
                      have hfz14_11 := blk_frozen BK203.out 11
                      have hfz14_12 := blk_frozen BK203.out 12
                      have hfz14_13 := blk_frozen BK203.out 13
                      have hfz14_14 := blk_frozen BK203.out 14
                      have hfz14_15 := blk_frozen BK203.out 15
                      have hfz14_16 := blk_frozen BK203.out 16
                      have hfz14_17 := blk_frozen BK203.out 17
                      have hfz14_18 := blk_frozen BK203.out 18
                      have hfz14_19 := blk_frozen BK203.out 19
                      have hfz14_20 := blk_frozen BK203.out 20
                      have p207 : 0 ≤ (x6_3 : Int) := of_decide_eq_true (by first | (with_reducible assumption) | assumption)
                      have q207 : x6_3 < (l0_20.length : Int) := of_decide_eq_true (by first | (with_reducible assumption) | assumption)
                      obtain ⟨ad207, A207_1, c207_1, e207, hx207_0, hx207_1, hl207_1, hi207_1⟩ := at_T55 HR0_20.out x6_3 p207 q207
                      cases e207
                      replace hx207_0 := (HB.out.cell (World.block_lt_of_cell? w _ hx207_0)).trans hx207_0
                      replace hx207_1 := (HB.out.cell (World.block_lt_of_cell? w _ hx207_1)).trans hx207_1
                      have HR207_1 := Aside0.mk hi207_1
                      have HC207_1 := Aside0.mk hl207_1
                      clear hi207_1 hl207_1
                      replace p207 := eq_true p207
                      replace q207 := eq_true q207
                      go_wp2
                      repeat (go_quiet (fail); try go_wp2)
                      go_roundg k3
                      case measure => have := HK1.out; have := HK2.out; have := HK3.out; omega
                      case rel => exact ⟨(wrap64 ((wrap64 (x3_3 + 4)) + (((rd_T55 l0_20 x6_3).f1).length : Int))), (wrap64 (x6_3 + 1)), (by first | rfl | (simp; done) | (simp [*]; done)), (by first | rfl | (simp; done) | (simp [*]; done)), H', ⟨by have := HK1.out; have := HK2.out; have := HK3.out; omega⟩, ⟨by (with_reducible repeat (first | refine blk_drewN ?_ _ | refine blk_drew ?_ | refine blk_alloc ?_ _)); exact BK203.out⟩, ⟨by repeat (first | (with_reducible first | exact HB.out | apply below_alloc | apply pw_below_drewN | apply below_drew1 | refine below_set ?_ GE203.out) | exact HB.out)⟩⟩
                    · rw [if_neg c13] at H
                      exact absurd H (by simp)
                  · rw [if_neg c12] at H
                    have c12b0 : decide (x6_3 < (l0_20.length : Int)) = false := decide_eq_false c12
                    clear c12
                    obtain rfl := Option.some.inj H
                    simp only [Option.some.injEq, Prod.mk.injEq] at H
                    obtain ⟨rfl⟩ := H
                    have hcz15_0 : wr.cell? ⟨gb203, 0, none⟩ = some (.int .i64 a0_0) := (blk_cell BK203.out 0).trans rfl
                    have hcz15_1 : wr.cell? ⟨gb203, 1, none⟩ = some (.int .i64 a0_1) := (blk_cell BK203.out 1).trans rfl
                    have hcz15_2 : wr.cell? ⟨gb203, 2, none⟩ = some (.string a0_2) := (blk_cell BK203.out 2).trans rfl
                    have hcz15_3 : wr.cell? ⟨gb203, 3, none⟩ = some (.string a0_3) := (blk_cell BK203.out 3).trans rfl
                    have hcz15_4 : wr.cell? ⟨gb203, 4, none⟩ = some (.string a0_4) := (blk_cell BK203.out 4).trans rfl
                    have hcz15_5 : wr.cell? ⟨gb203, 5, none⟩ = some (.string a0_5) := (blk_cell BK203.out 5).trans rfl
                    have hcz15_6 : wr.cell? ⟨gb203, 6, none⟩ = some (.int .u64 a0_6) := (blk_cell BK203.out 6).trans rfl
                    have hcz15_7 : wr.cell? ⟨gb203, 7, none⟩ = some (.string a0_7) := (blk_cell BK203.out 7).trans rfl
                    have hcz15_8 : wr.cell? ⟨gb203, 8, none⟩ = some (.string a0_8) := (blk_cell BK203.out 8).trans rfl
                    have hcz15_9 : wr.cell? ⟨gb203, 9, none⟩ = some (.string a0_9) := (blk_cell BK203.out 9).trans rfl
                    have hcz15_10 : wr.cell? ⟨gb203, 10, none⟩ = some (.string a0_10) := (blk_cell BK203.out 10).trans rfl
                    have hcz15_11 : wr.cell? ⟨gb203, 11, none⟩ = some (.int .i64 a0_11) := (blk_cell BK203.out 11).trans rfl
                    have hcz15_12 : wr.cell? ⟨gb203, 12, none⟩ = some (.string a0_12) := (blk_cell BK203.out 12).trans rfl
                    have hcz15_13 : wr.cell? ⟨gb203, 13, none⟩ = some (.string a0_13) := (blk_cell BK203.out 13).trans rfl
                    have hcz15_14 : wr.cell? ⟨gb203, 14, none⟩ = some (.int .i64 a0_14) := (blk_cell BK203.out 14).trans rfl
                    have hcz15_15 : wr.cell? ⟨gb203, 15, none⟩ = some (.string a0_15) := (blk_cell BK203.out 15).trans rfl
                    have hcz15_16 : wr.cell? ⟨gb203, 16, none⟩ = some (.slice A0_16 l0_16.length c0_16) := (blk_cell BK203.out 16).trans rfl
                    have hcz15_17 : wr.cell? ⟨gb203, 17, none⟩ = some (.string a0_17) := (blk_cell BK203.out 17).trans rfl
                    have hcz15_18 : wr.cell? ⟨gb203, 18, none⟩ = some (.string a0_18) := (blk_cell BK203.out 18).trans rfl
                    have hcz15_19 : wr.cell? ⟨gb203, 19, none⟩ = some (.slice A0_19 l0_19.length c0_19) := (blk_cell BK203.out 19).trans rfl
                    have hcz15_20 : wr.cell? ⟨gb203, 20, none⟩ = some (.slice A0_20 l0_20.length c0_20) := (blk_cell BK203.out 20).trans rfl
                    have hfz15_0 := blk_frozen BK203.out 0
                    have hfz15_1 := blk_frozen BK203.out 1
                    have hfz15_2 := blk_frozen BK203.out 2
                    have hfz15_3 := blk_frozen BK203.out 3
                    have hfz15_4 := blk_frozen BK203.out 4
                    have hfz15_5 := blk_frozen BK203.out 5
                    have hfz15_6 := blk_frozen BK203.out 6
                    have hfz15_7 := blk_frozen BK203.out 7
                    have hfz15_8 := blk_frozen BK203.out 8
                    have hfz15_9 := blk_frozen BK203.out 9
                    have hfz15_10 := blk_frozen BK203.out 10
                    have hfz15_11 := blk_frozen BK203.out 11
                    have hfz15_12 := blk_frozen BK203.out 12
                    have hfz15_13 := blk_frozen BK203.out 13
                    have hfz15_14 := blk_frozen BK203.out 14
                    have hfz15_15 := blk_frozen BK203.out 15
                    have hfz15_16 := blk_frozen BK203.out 16
                    have hfz15_17 := blk_frozen BK203.out 17
                    have hfz15_18 := blk_frozen BK203.out 18
                    have hfz15_19 := blk_frozen BK203.out 19
                    have hfz15_20 := blk_frozen BK203.out 20
                    go_wp2
                    repeat (go_quiet (fail); try go_wp2)
                    go_ret
                    exact ⟨by first | rfl | (simp [errW_none, errW_some] <;> rfl) | (simp [*, errW_none, errW_some] <;> rfl), by repeat (first | (with_reducible first | exact HB.out | apply below_alloc | apply pw_below_drewN | apply below_drew1 | refine below_set ?_ GE203.out) | exact HB.out)⟩

end Go.Proofs.Ythdjodamdakjbaa.MK
