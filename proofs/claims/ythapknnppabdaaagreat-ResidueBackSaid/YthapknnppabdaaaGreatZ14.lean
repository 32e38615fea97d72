/- ResidueBack: part 14 of its proof. -/
import Derived.Test.YthapknnppabdaaaGreatZ02
import Derived.Test.YthapknnppabdaaaGreatZ13
namespace Go.Proofs.YthapknnppabdaaaGreat.MQ
open Go.RowKit Go.Proofs.YthapknnppabdaaaGreatW.PrintWords Go.Proofs.YthapknnppabdaaaGreatW.PrintLast Go.Proofs.YthapknnppabdaaaGreatW.PrintMore
attribute [local go_sem] max2_int min2_int max_two min_two max_three min_three max_four min_four   -- for this text's walks alone
set_option linter.unusedVariables false
set_option linter.unusedSimpArgs false

def comptoirref07_has.l0 : Nat → ByteArray → List Bool → Int → Option (ByteArray)
  | 0, _, _, _ => none
  | k + 1, x3, x4, x5 => if x5 < (x4.length : Int) then (if 0 ≤ x5 then (if rdOf false x4 x5 = true then (if x5 ≤ (wrap64 (x5 + 1)) then (if (wrap64 (x5 + 1)) ≤ 11 then (if x3.size + ((⟨#[80, 67, 82, 77, 84, 65, 69, 68, 78, 79, 71]⟩ : ByteArray).extract (x5 : Int).toNat ((wrap64 (x5 + 1)) : Int).toNat).size ≤ 9223372036854775807 then (comptoirref07_has.l0 k (x3 ++ ((⟨#[80, 67, 82, 77, 84, 65, 69, 68, 78, 79, 71]⟩ : ByteArray).extract (x5 : Int).toNat ((wrap64 (x5 + 1)) : Int).toNat)) x4 (wrap64 (x5 + 1))) else (none)) else (none)) else (none)) else (comptoirref07_has.l0 k x3 x4 (wrap64 (x5 + 1)))) else (none)) else (some x3)
def comptoirref07_has.f (k : Nat) (a0_0 : Int) (a0_1 : Int) (a0_2 : ByteArray) (a0_3 : ByteArray) (a0_4 : ByteArray) (a0_5 : ByteArray) (a0_6 : Int) (a0_7 : ByteArray) (a0_8 : ByteArray) (a0_9 : ByteArray) (a0_10 : ByteArray) (a0_11 : Int) (a0_12 : ByteArray) (a0_13 : ByteArray) (a0_14 : Int) (a0_15 : ByteArray) (l0_16 : List (S46)) (a0_17 : ByteArray) (a0_18 : ByteArray) (l0_19 : List (S48)) (l0_20 : List (S50)) : Option (ByteArray) := comptoirref07_has.l0 k (⟨#[]⟩ : ByteArray) (([(a0_4.toList != ([] : List UInt8)), (a0_5.toList != ([] : List UInt8)), (a0_7.toList != ([] : List UInt8)), (a0_8.toList != ([] : List UInt8)), (a0_9.toList != ([] : List UInt8)), (a0_10.toList != ([] : List UInt8)), (a0_11 != 0), (a0_12.toList != ([] : List UInt8)), (a0_13.toList != ([] : List UInt8)), (a0_15.toList != ([] : List UInt8)), decide ((l0_16.length : Int) > 0)] : List Bool)) 0
set_option maxHeartbeats 8000000 in
set_option maxRecDepth 100000 in
theorem comptoirref07_has.calls (k : Nat) (a0_0 : Int) (a0_1 : Int) (a0_2 : ByteArray) (a0_3 : ByteArray) (a0_4 : ByteArray) (a0_5 : ByteArray) (a0_6 : Int) (a0_7 : ByteArray) (a0_8 : ByteArray) (a0_9 : ByteArray) (a0_10 : ByteArray) (a0_11 : Int) (a0_12 : ByteArray) (a0_13 : ByteArray) (a0_14 : Int) (a0_15 : ByteArray) (A0_16 : Option Addr) (c0_16 : Nat) (l0_16 : List (S46)) (a0_17 : ByteArray) (a0_18 : ByteArray) (A0_19 : Option Addr) (c0_19 : Nat) (l0_19 : List (S48)) (A0_20 : Option Addr) (c0_20 : Nat) (l0_20 : List (S50)) (r : ByteArray) (w : World) (hr0_16 : Kd.C k46 w A0_16 l0_16.length l0_16) (hc0_16 : l0_16.length ≤ c0_16) (hr0_19 : Kd.C k48 w A0_19 l0_19.length l0_19) (hc0_19 : l0_19.length ≤ c0_19) (hr0_20 : Kd.C k50 w A0_20 l0_20.length l0_20) (hc0_20 : l0_20.length ≤ c0_20) (h : comptoirref07_has.f k a0_0 a0_1 a0_2 a0_3 a0_4 a0_5 a0_6 a0_7 a0_8 a0_9 a0_10 a0_11 a0_12 a0_13 a0_14 a0_15 l0_16 a0_17 a0_18 l0_19 l0_20 = some r) :
    Calls Tryz.prog 79 #[.agg #[.int .i64 a0_0, .int .i64 a0_1, .string a0_2, .string a0_3, .string a0_4, .string a0_5, .int .u64 a0_6, .string a0_7, .string a0_8, .string a0_9, .string a0_10, .int .i64 a0_11, .string a0_12, .string a0_13, .int .i64 a0_14, .string a0_15, .slice A0_16 l0_16.length c0_16, .string a0_17, .string a0_18, .slice A0_19 l0_19.length c0_19, .slice A0_20 l0_20.length c0_20]] w fun e w' => e = .returned (.string r) ∧ Below w.heap.size w w' := by
  have hu29 := Tryz.underlying29
  have hu24 := Tryz.underlying24
  have HR0_16 := Aside0.mk hr0_16
  have HC0_16 := Aside0.mk hc0_16
  clear hr0_16 hc0_16
  have HR0_19 := Aside0.mk hr0_19
  have HC0_19 := Aside0.mk hc0_19
  clear hr0_19 hc0_19
  have HR0_20 := Aside0.mk hr0_20
  have HC0_20 := Aside0.mk hc0_20
  clear hr0_20 hc0_20
  have HB := Aside0.mk (Below.refl w.heap.size w)
  have H : (comptoirref07_has.l0 k (⟨#[]⟩ : ByteArray) (([(a0_4.toList != ([] : List UInt8)), (a0_5.toList != ([] : List UInt8)), (a0_7.toList != ([] : List UInt8)), (a0_8.toList != ([] : List UInt8)), (a0_9.toList != ([] : List UInt8)), (a0_10.toList != ([] : List UInt8)), (a0_11 != 0), (a0_12.toList != ([] : List UInt8)), (a0_13.toList != ([] : List UInt8)), (a0_15.toList != ([] : List UInt8)), decide ((l0_16.length : Int) > 0)] : List Bool)) 0) = some r := h
  clear h
  obtain ⟨y560, hy560⟩ : ∃ y_ : List Bool, y_ = (([(a0_4.toList != ([] : List UInt8)), (a0_5.toList != ([] : List UInt8)), (a0_7.toList != ([] : List UInt8)), (a0_8.toList != ([] : List UInt8)), (a0_9.toList != ([] : List UInt8)), (a0_10.toList != ([] : List UInt8)), (a0_11 != 0), (a0_12.toList != ([] : List UInt8)), (a0_13.toList != ([] : List UInt8)), (a0_15.toList != ([] : List UInt8)), decide ((l0_16.length : Int) > 0)] : List Bool)) := ⟨_, rfl⟩
  replace H : (comptoirref07_has.l0 k (⟨#[]⟩ : ByteArray) y560 0) = some r := by first | (rw [hy560]; with_reducible exact H) | (have H2_ := (Option.bind_some _ _).symm.trans H; rw [hy560]; with_reducible exact H2_) | (have H2_ := (Option.bind_some _ _).symm.trans H; with_reducible exact H2_) | with_reducible exact H | (rw [hy560]; exact H) | exact H
  have Ny560 := Aside0.mk hy560
  clear hy560
  have H' := Aside0.mk H
  clear H
  go_enter Tryz.func79, Tryz.ntmps79
  go_wp2_with (first | ((with_reducible refine gate_dst (N := 1) rfl ?_); refine box_event ?hg (N := 1) ?hd (cs := #[.int .i64 a0_0, .int .i64 a0_1, .string a0_2, .string a0_3, .string a0_4, .string a0_5, .int .u64 a0_6, .string a0_7, .string a0_8, .string a0_9, .string a0_10, .int .i64 a0_11, .string a0_12, .string a0_13, .int .i64 a0_14, .string a0_15, .slice A0_16 l0_16.length c0_16, .string a0_17, .string a0_18, .slice A0_19 l0_19.length c0_19, .slice A0_20 l0_20.length c0_20]) (t := 29) ?hr ?_; (case hd => rfl); (case hg => rfl); (case hr => first | (go_simp; done) | (go_simp; rfl) | (go_simp; simp only [show ∀ l_ : List UInt8, (l_ != []) = !l_.isEmpty from fun l_ => by cases l_ <;> rfl]; done)); intro gb559 hg w2 hbox hb; have n0_ := Aside0.mk (below_step (by repeat (first | (with_reducible first | exact HB.out | apply below_alloc | apply pw_below_drewN | apply below_drew1) | exact HB.out)) hb); have n1_ := Aside0.mk (hbox); have n2_ := Aside0.mk ((by rw [hg]; exact (below_size (by repeat (first | (with_reducible first | exact HB.out | apply below_alloc | apply pw_below_drewN | apply below_drew1) | exact HB.out))) : w.heap.size ≤ gb559)); have n3_ := Aside0.mk ((by rw [hg]; exact (below_size (by repeat (first | (with_reducible first | exact HB.out | apply below_alloc | apply pw_below_drewN | apply below_drew1) | exact HB.out))) : w.heap.size ≤ gb559)); clear HB; have HB := n0_; have BK559 := n1_; have GW559 := n2_; have GE559 := n3_; clear n0_ n1_ n2_ n3_; clear hb hbox hg; have hcz3_0 : w2.cell? ⟨gb559, 0, none⟩ = some (.int .i64 a0_0) := (blk_cell BK559.out 0).trans rfl; have hcz3_1 : w2.cell? ⟨gb559, 1, none⟩ = some (.int .i64 a0_1) := (blk_cell BK559.out 1).trans rfl; have hcz3_2 : w2.cell? ⟨gb559, 2, none⟩ = some (.string a0_2) := (blk_cell BK559.out 2).trans rfl; have hcz3_3 : w2.cell? ⟨gb559, 3, none⟩ = some (.string a0_3) := (blk_cell BK559.out 3).trans rfl; have hcz3_4 : w2.cell? ⟨gb559, 4, none⟩ = some (.string a0_4) := (blk_cell BK559.out 4).trans rfl; have hcz3_5 : w2.cell? ⟨gb559, 5, none⟩ = some (.string a0_5) := (blk_cell BK559.out 5).trans rfl; have hcz3_6 : w2.cell? ⟨gb559, 6, none⟩ = some (.int .u64 a0_6) := (blk_cell BK559.out 6).trans rfl; have hcz3_7 : w2.cell? ⟨gb559, 7, none⟩ = some (.string a0_7) := (blk_cell BK559.out 7).trans rfl; have hcz3_8 : w2.cell? ⟨gb559, 8, none⟩ = some (.string a0_8) := (blk_cell BK559.out 8).trans rfl; have hcz3_9 : w2.cell? ⟨gb559, 9, none⟩ = some (.string a0_9) := (blk_cell BK559.out 9).trans rfl; have hcz3_10 : w2.cell? ⟨gb559, 10, none⟩ = some (.string a0_10) := (blk_cell BK559.out 10).trans rfl; have hcz3_11 : w2.cell? ⟨gb559, 11, none⟩ = some (.int .i64 a0_11) := (blk_cell BK559.out 11).trans rfl; have hcz3_12 : w2.cell? ⟨gb559, 12, none⟩ = some (.string a0_12) := (blk_cell BK559.out 12).trans rfl; have hcz3_13 : w2.cell? ⟨gb559, 13, none⟩ = some (.string a0_13) := (blk_cell BK559.out 13).trans rfl; have hcz3_14 : w2.cell? ⟨gb559, 14, none⟩ = some (.int .i64 a0_14) := (blk_cell BK559.out 14).trans rfl; have hcz3_15 : w2.cell? ⟨gb559, 15, none⟩ = some (.string a0_15) := (blk_cell BK559.out 15).trans rfl; have hcz3_16 : w2.cell? ⟨gb559, 16, none⟩ = some (.slice A0_16 l0_16.length c0_16) := (blk_cell BK559.out 16).trans rfl; have hcz3_17 : w2.cell? ⟨gb559, 17, none⟩ = some (.string a0_17) := (blk_cell BK559.out 17).trans rfl; have hcz3_18 : w2.cell? ⟨gb559, 18, none⟩ = some (.string a0_18) := (blk_cell BK559.out 18).trans rfl; have hcz3_19 : w2.cell? ⟨gb559, 19, none⟩ = some (.slice A0_19 l0_19.length c0_19) := (blk_cell BK559.out 19).trans rfl; have hcz3_20 : w2.cell? ⟨gb559, 20, none⟩ = some (.slice A0_20 l0_20.length c0_20) := (blk_cell BK559.out 20).trans rfl; have hfz3_0 := blk_frozen BK559.out 0; have hfz3_1 := blk_frozen BK559.out 1; have hfz3_2 := blk_frozen BK559.out 2; have hfz3_3 := blk_frozen BK559.out 3; have hfz3_4 := blk_frozen BK559.out 4; have hfz3_5 := blk_frozen BK559.out 5; have hfz3_6 := blk_frozen BK559.out 6; have hfz3_7 := blk_frozen BK559.out 7; have hfz3_8 := blk_frozen BK559.out 8; have hfz3_9 := blk_frozen BK559.out 9; have hfz3_10 := blk_frozen BK559.out 10; have hfz3_11 := blk_frozen BK559.out 11; have hfz3_12 := blk_frozen BK559.out 12; have hfz3_13 := blk_frozen BK559.out 13; have hfz3_14 := blk_frozen BK559.out 14; have hfz3_15 := blk_frozen BK559.out 15; have hfz3_16 := blk_frozen BK559.out 16; have hfz3_17 := blk_frozen BK559.out 17; have hfz3_18 := blk_frozen BK559.out 18; have hfz3_19 := blk_frozen BK559.out 19; have hfz3_20 := blk_frozen BK559.out 20) | ((with_reducible refine gate_dst (N := 41) rfl ?_); refine Kd.R_lit Kd.bool _ 4 ?hg (N := 41) ?hd (xs := ([(a0_4.toList != ([] : List UInt8)), (a0_5.toList != ([] : List UInt8)), (a0_7.toList != ([] : List UInt8)), (a0_8.toList != ([] : List UInt8)), (a0_9.toList != ([] : List UInt8)), (a0_10.toList != ([] : List UInt8)), (a0_11 != 0), (a0_12.toList != ([] : List UInt8)), (a0_13.toList != ([] : List UInt8)), (a0_15.toList != ([] : List UInt8)), decide ((l0_16.length : Int) > 0)] : List Bool)) (inner := [.bool (a0_4.toList != ([] : List UInt8)), .bool (a0_5.toList != ([] : List UInt8)), .bool (a0_7.toList != ([] : List UInt8)), .bool (a0_8.toList != ([] : List UInt8)), .bool (a0_9.toList != ([] : List UInt8)), .bool (a0_10.toList != ([] : List UInt8)), .bool (a0_11 != 0), .bool (a0_12.toList != ([] : List UInt8)), .bool (a0_13.toList != ([] : List UInt8)), .bool (a0_15.toList != ([] : List UInt8)), .bool (decide ((l0_16.length : Int) > 0))]) (ok := fun _ => True) (okp := fun _ => True) ?hr ?hp (fun _ hk => hk) trivial (Below.refl _ _) (Nat.le_refl _) (by simp) ?_; (case hd => rfl); (case hg => rfl); (case hr => first | (go_simp; done) | (go_simp; rfl) | (go_simp; simp only [show ∀ l_ : List UInt8, (l_ != []) = !l_.isEmpty from fun l_ => by cases l_ <;> rfl]; done)); (case hp => exact (Reps.one (show Kd.M Kd.bool _ _ _ (a0_4.toList != ([] : List UInt8)) [.bool (a0_4.toList != ([] : List UInt8))] from rfl) (Reps.one (show Kd.M Kd.bool _ _ _ (a0_5.toList != ([] : List UInt8)) [.bool (a0_5.toList != ([] : List UInt8))] from rfl) (Reps.one (show Kd.M Kd.bool _ _ _ (a0_7.toList != ([] : List UInt8)) [.bool (a0_7.toList != ([] : List UInt8))] from rfl) (Reps.one (show Kd.M Kd.bool _ _ _ (a0_8.toList != ([] : List UInt8)) [.bool (a0_8.toList != ([] : List UInt8))] from rfl) (Reps.one (show Kd.M Kd.bool _ _ _ (a0_9.toList != ([] : List UInt8)) [.bool (a0_9.toList != ([] : List UInt8))] from rfl) (Reps.one (show Kd.M Kd.bool _ _ _ (a0_10.toList != ([] : List UInt8)) [.bool (a0_10.toList != ([] : List UInt8))] from rfl) (Reps.one (show Kd.M Kd.bool _ _ _ (a0_11 != 0) [.bool (a0_11 != 0)] from rfl) (Reps.one (show Kd.M Kd.bool _ _ _ (a0_12.toList != ([] : List UInt8)) [.bool (a0_12.toList != ([] : List UInt8))] from rfl) (Reps.one (show Kd.M Kd.bool _ _ _ (a0_13.toList != ([] : List UInt8)) [.bool (a0_13.toList != ([] : List UInt8))] from rfl) (Reps.one (show Kd.M Kd.bool _ _ _ (a0_15.toList != ([] : List UInt8)) [.bool (a0_15.toList != ([] : List UInt8))] from rfl) (Reps.one (show Kd.M Kd.bool _ _ _ (decide ((l0_16.length : Int) > 0)) [.bool (decide ((l0_16.length : Int) > 0))] from rfl) (Reps.none _ _))))))))))))); intro v561 w4 ho5 hb hg_ hnew_; clear hg_ hnew_; (first | rw [← Ny560.out] at ho5 | (simp only [Int.reduceToNat] at ho5; rw [← Ny560.out] at ho5)); have n0_ := Aside0.mk (Kd.R_lower ho5 (below_size (by repeat (first | (with_reducible first | exact HB.out | apply below_alloc | apply pw_below_drewN | apply below_drew1 | refine below_set ?_ GE559.out) | exact HB.out)))); have n1_ := Aside0.mk (blk_below (g := gb559) (o := .cells #[.int .i64 a0_0, .int .i64 a0_1, .string a0_2, .string a0_3, .string a0_4, .string a0_5, .int .u64 a0_6, .string a0_7, .string a0_8, .string a0_9, .string a0_10, .int .i64 a0_11, .string a0_12, .string a0_13, .int .i64 a0_14, .string a0_15, .slice A0_16 l0_16.length c0_16, .string a0_17, .string a0_18, .slice A0_19 l0_19.length c0_19, .slice A0_20 l0_20.length c0_20] 29 (0, 0)) (by (with_reducible repeat (first | refine blk_drewN ?_ _ | refine blk_drew ?_ | refine blk_alloc ?_ _)); exact BK559.out) hb); have n2_ := Aside0.mk (below_step (by repeat (first | (with_reducible first | exact HB.out | apply below_alloc | apply pw_below_drewN | apply below_drew1 | refine below_set ?_ GE559.out) | exact HB.out)) hb); clear BK559; clear HB; have HO562 := n0_; have BK559 := n1_; have HB := n2_; clear n0_ n1_ n2_; clear hb ho5))
  go_loopg [3, 5] k (fun kq v3 v5 w' => ∃ (x3_1 : ByteArray) (x5_1 : Int), v3 = .string x3_1 ∧ v5 = .int .i64 x5_1 ∧ Aside0 (comptoirref07_has.l0 kq x3_1 y560 x5_1 = some r) ∧ Aside0 (kq ≤ k) ∧ Aside0 (Kd.R Kd.bool 4 w' w.heap.size (fun _ => True) v561 y560) ∧ Aside0 (w'.heap[gb559]? = some (.cells #[.int .i64 a0_0, .int .i64 a0_1, .string a0_2, .string a0_3, .string a0_4, .string a0_5, .int .u64 a0_6, .string a0_7, .string a0_8, .string a0_9, .string a0_10, .int .i64 a0_11, .string a0_12, .string a0_13, .int .i64 a0_14, .string a0_15, (.slice A0_16 l0_16.length c0_16), .string a0_17, .string a0_18, (.slice A0_19 l0_19.length c0_19), (.slice A0_20 l0_20.length c0_20)] 29 (0, 0))) ∧ Aside0 (Below w.heap.size w w'))
  case atStart => exact ⟨((⟨#[]⟩ : ByteArray)), (0), (by first | rfl | (simp; done) | (simp [*]; done)), (by first | rfl | (simp; done) | (simp [*]; done)), H', ⟨Nat.le_refl _⟩, ⟨by (with_reducible repeat (first | apply Kd.R_alloc | apply Kd.R_drewN | apply Kd.R_drew)); exact HO562.out⟩, ⟨by (with_reducible repeat (first | refine blk_drewN ?_ _ | refine blk_drew ?_ | refine blk_alloc ?_ _)); exact BK559.out⟩, ⟨by repeat (first | (with_reducible first | exact HB.out | apply below_alloc | apply pw_below_drewN | apply below_drew1 | refine below_set ?_ GE559.out) | exact HB.out)⟩⟩
  case round =>
    clear H'
    try clear p2
    try clear hcz3_0
    try clear hcz3_1
    try clear hcz3_10
    try clear hcz3_11
    try clear hcz3_12
    try clear hcz3_13
    try clear hcz3_14
    try clear hcz3_15
    try clear hcz3_16
    try clear hcz3_17
    try clear hcz3_18
    try clear hcz3_19
    try clear hcz3_2
    try clear hcz3_20
    try clear hcz3_3
    try clear hcz3_4
    try clear hcz3_5
    try clear hcz3_6
    try clear hcz3_7
    try clear hcz3_8
    try clear hcz3_9
    try clear hfz3_0
    try clear hfz3_1
    try clear hfz3_10
    try clear hfz3_11
    try clear hfz3_12
    try clear hfz3_13
    try clear hfz3_14
    try clear hfz3_15
    try clear hfz3_16
    try clear hfz3_17
    try clear hfz3_18
    try clear hfz3_19
    try clear hfz3_2
    try clear hfz3_20
    try clear hfz3_3
    try clear hfz3_4
    try clear hfz3_5
    try clear hfz3_6
    try clear hfz3_7
    try clear hfz3_8
    try clear hfz3_9
    obtain ⟨x3_1, x5_1, rfl, rfl, HA, HK1, HO_4, BK559, HB⟩ := hrel
    cases gk with
    | zero => exact absurd HA.out (by simp [comptoirref07_has.l0])
    | succ k1 =>
      have H := HA.out
      clear HA
      simp only [comptoirref07_has.l0] at H
      by_cases c6 : x5_1 < (y560.length : Int)
      · rw [if_pos c6] at H
        have c6b0 : decide (x5_1 < (y560.length : Int)) = true := decide_eq_true c6
        clear c6
        by_cases c7 : 0 ≤ x5_1
        · rw [if_pos c7] at H
          have c7b0 : decide (0 ≤ x5_1) = true := decide_eq_true c7
          clear c7
          obtain ⟨bq8, hbq8⟩ : ∃ b_ : Bool, b_ = (rdOf false y560 x5_1) := ⟨_, rfl⟩
          replace H : (if bq8 = true then (if x5_1 ≤ (wrap64 (x5_1 + 1)) then (if (wrap64 (x5_1 + 1)) ≤ 11 then (if x3_1.size + ((⟨#[80, 67, 82, 77, 84, 65, 69, 68, 78, 79, 71]⟩ : ByteArray).extract (x5_1 : Int).toNat ((wrap64 (x5_1 + 1)) : Int).toNat).size ≤ 9223372036854775807 then (comptoirref07_has.l0 k1 (x3_1 ++ ((⟨#[80, 67, 82, 77, 84, 65, 69, 68, 78, 79, 71]⟩ : ByteArray).extract (x5_1 : Int).toNat ((wrap64 (x5_1 + 1)) : Int).toNat)) y560 (wrap64 (x5_1 + 1))) else (none)) else (none)) else (none)) else (comptoirref07_has.l0 k1 x3_1 y560 (wrap64 (x5_1 + 1)))) = some r := by rw [← hbq8] at H; exact H
          have Nbq8 := Aside0.mk hbq8
          clear hbq8
          by_cases c9 : bq8 = true
          · subst c9
            have H1 : (if x5_1 ≤ (wrap64 (x5_1 + 1)) then (if (wrap64 (x5_1 + 1)) ≤ 11 then (if x3_1.size + ((⟨#[80, 67, 82, 77, 84, 65, 69, 68, 78, 79, 71]⟩ : ByteArray).extract (x5_1 : Int).toNat ((wrap64 (x5_1 + 1)) : Int).toNat).size ≤ 9223372036854775807 then (comptoirref07_has.l0 k1 (x3_1 ++ ((⟨#[80, 67, 82, 77, 84, 65, 69, 68, 78, 79, 71]⟩ : ByteArray).extract (x5_1 : Int).toNat ((wrap64 (x5_1 + 1)) : Int).toNat)) y560 (wrap64 (x5_1 + 1))) else (none)) else (none)) else (none)) = some r := by rw [if_pos rfl] at H; exact H
            clear H
            have H := H1
            clear H1
            have c10b0 := eq_true (of_decide_eq_true (by first | (with_reducible assumption) | assumption) : 0 ≤ x5_1)
            by_cases c11 : x5_1 ≤ (wrap64 (x5_1 + 1))
            · rw [if_pos c11] at H
              have c11b0 := eq_true c11
              have c11b1 : decide (x5_1 ≤ (wrap64 (x5_1 + 1))) = true := decide_eq_true c11
              by_cases c12 : (wrap64 (x5_1 + 1)) ≤ 11
              · rw [if_pos c12] at H
                have c12b0 := eq_true c12
                have c12b1 : decide ((wrap64 (x5_1 + 1)) ≤ 11) = true := decide_eq_true c12
                by_cases c13 : x3_1.size + ((⟨#[80, 67, 82, 77, 84, 65, 69, 68, 78, 79, 71]⟩ : ByteArray).extract (x5_1 : Int).toNat ((wrap64 (x5_1 + 1)) : Int).toNat).size ≤ 9223372036854775807
                · rw [if_pos c13] at H
                  have c13b0 := eq_true c13
                  have c13b1 : decide (x3_1.size + ((⟨#[80, 67, 82, 77, 84, 65, 69, 68, 78, 79, 71]⟩ : ByteArray).extract (x5_1 : Int).toNat ((wrap64 (x5_1 + 1)) : Int).toNat).size ≤ 9223372036854775807) = true := decide_eq_true c13
                  try have c13b2 : (9223372036854775807 < x3_1.size + ((⟨#[80, 67, 82, 77, 84, 65, 69, 68, 78, 79, 71]⟩ : ByteArray).extract (x5_1 : Int).toNat ((wrap64 (x5_1 + 1)) : Int).toNat).size) = False := eq_false (Nat.not_lt.2 c13)
                  have H' := Aside0.mk H
                  clear H
                  obtain ⟨Ao14, co14, eo14⟩ := Kd.R_slice HO_4.out
                  subst eo14
                  have p563 : 0 ≤ (x5_1 : Int) := of_decide_eq_true (by first | (with_reducible assumption) | assumption)
                  have q563 : x5_1 < (y560.length : Int) := of_decide_eq_true (by first | (with_reducible assumption) | assumption)
                  obtain ⟨ad563, e563, hx563_0⟩ := Kd.at_bool (Kd.R_reads' HO_4.out).2.2 x5_1 p563 q563
                  (try rw [← Nbq8.out] at hx563_0)
                  cases e563
                  replace p563 := eq_true p563
                  replace q563 := eq_true q563
                  go_wp2
                  go_roundg k1
                  case measure => have := HK1.out; omega
                  case rel => exact ⟨(x3_1 ++ ((⟨#[80, 67, 82, 77, 84, 65, 69, 68, 78, 79, 71]⟩ : ByteArray).extract (x5_1 : Int).toNat ((wrap64 (x5_1 + 1)) : Int).toNat)), (wrap64 (x5_1 + 1)), (by first | rfl | (simp; done) | (simp [*]; done)), (by first | rfl | (simp; done) | (simp [*]; done)), H', ⟨by have := HK1.out; omega⟩, ⟨by (with_reducible repeat (first | apply Kd.R_alloc | apply Kd.R_drewN | apply Kd.R_drew)); exact HO_4.out⟩, ⟨by (with_reducible repeat (first | refine blk_drewN ?_ _ | refine blk_drew ?_ | refine blk_alloc ?_ _)); exact BK559.out⟩, ⟨by repeat (first | (with_reducible first | exact HB.out | apply below_alloc | apply pw_below_drewN | apply below_drew1 | refine below_set ?_ GE559.out) | exact HB.out)⟩⟩
                · rw [if_neg c13] at H
                  exact absurd H (by simp)
              · rw [if_neg c12] at H
                exact absurd H (by simp)
            · rw [if_neg c11] at H
              exact absurd H (by simp)
          · replace c9 := Bool.eq_false_iff.mpr c9
            subst c9
            have H1 : (comptoirref07_has.l0 k1 x3_1 y560 (wrap64 (x5_1 + 1))) = some r := by rw [if_neg (show ¬ (false = true) by decide)] at H; exact H
            clear H
            have H := H1
            clear H1
            have H' := Aside0.mk H
            clear H
            obtain ⟨Ao15, co15, eo15⟩ := Kd.R_slice HO_4.out
            subst eo15
            have p563 : 0 ≤ (x5_1 : Int) := of_decide_eq_true (by first | (with_reducible assumption) | assumption)
            have q563 : x5_1 < (y560.length : Int) := of_decide_eq_true (by first | (with_reducible assumption) | assumption)
            obtain ⟨ad563, e563, hx563_0⟩ := Kd.at_bool (Kd.R_reads' HO_4.out).2.2 x5_1 p563 q563
            (try rw [← Nbq8.out] at hx563_0)
            cases e563
            replace p563 := eq_true p563
            replace q563 := eq_true q563
            go_wp2
            go_roundg k1
            case measure => have := HK1.out; omega
            case rel => exact ⟨(x3_1), (wrap64 (x5_1 + 1)), (by first | rfl | (simp; done) | (simp [*]; done)), (by first | rfl | (simp; done) | (simp [*]; done)), H', ⟨by have := HK1.out; omega⟩, ⟨by (with_reducible repeat (first | apply Kd.R_alloc | apply Kd.R_drewN | apply Kd.R_drew)); exact HO_4.out⟩, ⟨by (with_reducible repeat (first | refine blk_drewN ?_ _ | refine blk_drew ?_ | refine blk_alloc ?_ _)); exact BK559.out⟩, ⟨by repeat (first | (with_reducible first | exact HB.out | apply below_alloc | apply pw_below_drewN | apply below_drew1 | refine below_set ?_ GE559.out) | exact HB.out)⟩⟩
        · rw [if_neg c7] at H
          exact absurd H (by simp)
      · rw [if_neg c6] at H
        have c6b0 : decide (x5_1 < (y560.length : Int)) = false := decide_eq_false c6
        clear c6
        obtain rfl := Option.some.inj H
        simp only [Option.some.injEq, Prod.mk.injEq] at H
        obtain ⟨rfl⟩ := H
        obtain ⟨Ao16, co16, eo16⟩ := Kd.R_slice HO_4.out
        subst eo16
        go_wp2
        go_ret
        exact ⟨by first | rfl | (simp [errW_none, errW_some] <;> rfl) | (simp [*, errW_none, errW_some] <;> rfl), by repeat (first | (with_reducible first | exact HB.out | apply below_alloc | apply pw_below_drewN | apply below_drew1 | refine below_set ?_ GE559.out) | exact HB.out)⟩

def comptoirref07_letter.l0 : Nat → ByteArray → Int → Int → Option (Bool)
  | 0, _, _, _ => none
  | k + 1, x0, x1, x5 => if x5 < (x0.size : Int) then (if 0 ≤ x5 then (if (bt x0 x5) = x1 then (some true) else (comptoirref07_letter.l0 k x0 x1 (wrap64 (x5 + 1)))) else (none)) else (some false)
def comptoirref07_letter.f (k : Nat) (a0 : ByteArray) (a1 : Int) : Option (Bool) := comptoirref07_letter.l0 k a0 a1 0
set_option maxHeartbeats 8000000 in
set_option maxRecDepth 100000 in
theorem comptoirref07_letter.calls (k : Nat) (a0 : ByteArray) (a1 : Int) (r : Bool) (w : World) (h : comptoirref07_letter.f k a0 a1 = some r) :
    Calls Tryz.prog 80 #[.string a0, .int .u8 a1] w fun e w' => e = .returned (.bool r) ∧ Drawn0 w w' := by
  have H : (comptoirref07_letter.l0 k a0 a1 0) = some r := h
  clear h
  have H' := Aside0.mk H
  clear H
  go_enter Tryz.func80, Tryz.ntmps80
  go_wp2
  go_loopg [5] k (fun kq v5 w' => ∃ (x5_1 : Int), v5 = .int .i64 x5_1 ∧ Aside0 (comptoirref07_letter.l0 kq a0 a1 x5_1 = some r) ∧ Aside0 (kq ≤ k) ∧ Drawn0 w w')
  case atStart => exact ⟨(0), (by first | rfl | (simp; done) | (simp [*]; done)), H', ⟨Nat.le_refl _⟩, by repeat (first | exact Drawn0.refl _ | apply Drawn0.step)⟩
  case round =>
    clear H'
    try clear p2
    obtain ⟨x5_1, rfl, HA, HK1, ⟨m1, rfl⟩⟩ := hrel
    cases gk with
    | zero => exact absurd HA.out (by simp [comptoirref07_letter.l0])
    | succ k1 =>
      have H := HA.out
      clear HA
      simp only [comptoirref07_letter.l0] at H
      by_cases c3 : x5_1 < (a0.size : Int)
      · rw [if_pos c3] at H
        have c3b0 : decide (x5_1 < (a0.size : Int)) = true := decide_eq_true c3
        clear c3
        by_cases c4 : 0 ≤ x5_1
        · rw [if_pos c4] at H
          have c4b0 : decide (0 ≤ x5_1) = true := decide_eq_true c4
          clear c4
          by_cases c6 : (bt a0 x5_1) = a1
          · rw [if_pos c6] at H
            have c6b0 : ((bt a0 x5_1) == a1) = true := beq_iff_eq.mpr c6
            have c6b1 : ((bt a0 x5_1) != a1) = false := bne_eq_false_iff_eq.mpr c6
            clear c6
            obtain rfl := Option.some.inj H
            simp only [Option.some.injEq, Prod.mk.injEq] at H
            obtain ⟨rfl⟩ := H
            have p5 : 0 ≤ (x5_1 : Int) := of_decide_eq_true (by first | (with_reducible assumption) | assumption)
            have q5 : x5_1 < (a0.size : Int) := of_decide_eq_true (by first | (with_reducible assumption) | assumption)
            have hx5 := bt_at a0 x5_1
            replace p5 := eq_true p5
            replace q5 := eq_true q5
            go_wp2
            go_ret
            exact ⟨by first | rfl | (simp; done) | (simp [*]; done), by repeat (first | exact Drawn0.refl _ | apply Drawn0.step)⟩
          · rw [if_neg c6] at H
            have c6b0 : ((bt a0 x5_1) == a1) = false := beq_eq_false_iff_ne.mpr c6
            have c6b1 : ((bt a0 x5_1) != a1) = true := bne_iff_ne.mpr c6
            have H' := Aside0.mk H
            clear H
            have p5 : 0 ≤ (x5_1 : Int) := of_decide_eq_true (by first | (with_reducible assumption) | assumption)
            have q5 : x5_1 < (a0.size : Int) := of_decide_eq_true (by first | (with_reducible assumption) | assumption)
            have hx5 := bt_at a0 x5_1
            replace p5 := eq_true p5
            replace q5 := eq_true q5
            go_wp2
            go_roundg k1
            case measure => have := HK1.out; omega
            case rel => exact ⟨(wrap64 (x5_1 + 1)), (by first | rfl | (simp; done) | (simp [*]; done)), H', ⟨by have := HK1.out; omega⟩, by repeat (first | exact Drawn0.refl _ | apply Drawn0.step)⟩
        · rw [if_neg c4] at H
          exact absurd H (by simp)
      · rw [if_neg c3] at H
        have c3b0 : decide (x5_1 < (a0.size : Int)) = false := decide_eq_false c3
        clear c3
        obtain rfl := Option.some.inj H
        simp only [Option.some.injEq, Prod.mk.injEq] at H
        obtain ⟨rfl⟩ := H
        go_wp2
        go_ret
        exact ⟨by first | rfl | (simp; done) | (simp [*]; done), by repeat (first | exact Drawn0.refl _ | apply Drawn0.step)⟩

end Go.Proofs.YthapknnppabdaaaGreat.MQ
namespace Go.Proofs.YthapknnppabdaaaGreat.MQ
open Go.RowKit Go.Proofs.YthapknnppabdaaaGreatW.PrintWords Go.Proofs.YthapknnppabdaaaGreatW.PrintLast Go.Proofs.YthapknnppabdaaaGreatW.PrintMore
set_option linter.unusedVariables false
set_option linter.unusedSimpArgs false
/-- Is the byte in the text? -/
def hasB (s : ByteArray) (c : Int) : Bool := s.data.toList.any fun b => (b.toNat : Int) == c
theorem byte_get (s : ByteArray) (i : Nat) (h : i < s.data.toList.length) : bt s (i : Int) = ((s.data.toList[i]).toNat : Int) := by
  have h' : i < s.size := by simpa using h
  unfold bt
  simp only [Int.toNat_natCast]
  rw [dif_pos h']
  rfl
theorem hasB_yes (s : ByteArray) (c : Int) (j : Nat) (hj : j < s.size) (h : bt s (j : Int) = c) : hasB s c = true := by
  have hj' : j < s.data.toList.length := by simpa using hj
  unfold hasB
  rw [List.any_eq_true]
  exact ⟨_, List.getElem_mem hj', by rw [← byte_get s j hj', h, beq_self_eq_true]⟩
theorem hasB_no (s : ByteArray) (c : Int) (h : ∀ j : Nat, j < s.size → bt s (j : Int) ≠ c) : hasB s c = false := by
  unfold hasB
  rw [Bool.eq_false_iff]
  intro ha
  rw [List.any_eq_true] at ha
  obtain ⟨b, hb, e⟩ := ha
  obtain ⟨j, hj, rfl⟩ := List.getElem_of_mem hb
  rw [← byte_get s j hj, beq_iff_eq] at e
  exact h j (by simpa using hj) e
theorem let_from (s : ByteArray) (c : Int) (hs : s.size ≤ 140737488355328) : ∀ (d i k : Nat), i + d = s.size → d < k → (∀ j : Nat, j < i → bt s (j : Int) ≠ c) → comptoirref07_letter.l0 k s c (i : Int) = some (hasB s c)
  | 0, i, 0, _, hk, _ => by omega
  | 0, i, k + 1, hi, _, hn => by
    simp only [comptoirref07_letter.l0]
    rw [if_neg (by omega), hasB_no s c (fun j hj => hn j (by omega))]
  | d + 1, i, 0, _, hk, _ => by omega
  | d + 1, i, k + 1, hi, hk, hn => by
    have h2 : wrap64 ((i : Int) + 1) = ((i + 1 : Nat) : Int) := by unfold wrap64; omega
    simp only [comptoirref07_letter.l0]
    by_cases q : bt s (i : Int) = c
    · rw [hasB_yes s c i (by omega) q]
      repeat (first | rw [if_pos (by omega)] | rfl)
    · have ih := let_from s c hs d (i + 1) k (by omega) (by omega) (fun j hj => by
        by_cases e : j = i
        · subst e; exact q
        · exact hn j (by omega))
      rw [if_pos (by omega), if_pos (by omega), if_neg q, h2, ih]
theorem letter_e (s : ByteArray) (c : Int) (w : World) (hs : s.size ≤ 140737488355328) : Calls Tryz.prog 80 #[.string s, .int .u8 c] w fun e w' => e = .returned (.bool (hasB s c)) ∧ Drawn0 w w' :=
  comptoirref07_letter.calls (s.size + 1) s c _ w (let_from s c hs s.size 0 (s.size + 1) (by omega) (by omega) (fun j hj => absurd hj (Nat.not_lt_zero _)))
/-- What is there of a message, part by part. -/
def bitsOf (x : S29) : List Bool := [(x.f4.toList != []), (x.f5.toList != []), (x.f7.toList != []), (x.f8.toList != []), (x.f9.toList != []), (x.f10.toList != []), (x.f11 != 0), (x.f12.toList != []), (x.f13.toList != []), (x.f14.f1.toList != []), decide ((x.f15.length : Int) > 0)]
/-- The letters of the parts, in their order. -/
def allS : ByteArray := ⟨#[80, 67, 82, 77, 84, 65, 69, 68, 78, 79, 71]⟩
def letterN (j : Nat) : Int := bt allS (j : Int)
/-- May a part be there (b), where a kind must have it, may have it? -/
def okAt (must may : ByteArray) (c : Int) (b : Bool) : Bool := (!hasB must c || b) && (!b || (hasB must c || hasB may c))
def mustOf (k : Int) : ByteArray := (rowOf k).f2
def mayOf (k : Int) : ByteArray := (rowOf k).f3
def okBits (k : Int) (bs : List Bool) : Bool := (List.range 11).all fun j => okAt (mustOf k) (mayOf k) (letterN j) (bs.getD j false)
def letF (must may p : ByteArray) : Bool := (must.data.toList.all fun b => hasB p b.toNat) && (p.data.toList.all fun b => hasB (must ++ may) b.toNat) && decide (p.size ≤ 11)
def chkL (k : Int) (bs : List Bool) : Bool := match comptoirref07_has.l0 12 ⟨#[]⟩ bs 0 with
  | some p => !okBits k bs || letF (mustOf k) (mayOf k) p
  | none => false
theorem lets_all : ∀ b0 b1 b2 b3 b4 b5 b6 b7 b8 b9 b10 : Bool, ((List.range 11).all fun n => chkL ((n + 1 : Nat) : Int) [b0, b1, b2, b3, b4, b5, b6, b7, b8, b9, b10]) = true := by decide +kernel
theorem row_sizes : ∀ n : Fin 11, (decide ((rowOf ((n.val + 1 : Nat) : Int)).f0.size ≠ 0) && decide ((rowOf ((n.val + 1 : Nat) : Int)).f2.size ≤ 100) && decide ((rowOf ((n.val + 1 : Nat) : Int)).f3.size ≤ 100)) = true := by decide +kernel
/-- A message that fits. -/
structure FitsOK (x : S29) : Prop where
  kd : 1 ≤ x.f0 ∧ x.f0 ≤ 11
  bits : okBits x.f0 (bitsOf x) = true
  amt : x.f5.toList = [] → x.f6 = 0
  stn : x.f14.f1.toList = [] → x.f14.f0 = 0
/-- The letters of what is there: those that must be, and none else than may be. -/
structure Lets (must may p : ByteArray) : Prop where
  l1 : must.size ≤ 100
  l2 : may.size ≤ 100
  l3 : p.size ≤ 11
  m : ∀ j : Nat, j < must.size → hasB p (bt must (j : Int)) = true
  y : ∀ j : Nat, j < p.size → hasB (must ++ may) (bt p (j : Int)) = true
theorem all_bt {s : ByteArray} {q : Int → Bool} (h : (s.data.toList.all fun b => q b.toNat) = true) (j : Nat) (hj : j < s.size) : q (bt s (j : Int)) = true := by
  have hj' : j < s.data.toList.length := by simpa using hj
  rw [byte_get s j hj']
  rw [List.all_eq_true] at h
  exact h _ (List.getElem_mem hj')
theorem lets_is (x : S29) (h : FitsOK x) : ∃ p, comptoirref07_has.l0 12 ⟨#[]⟩ (bitsOf x) 0 = some p ∧ Lets (mustOf x.f0) (mayOf x.f0) p ∧ (rowOf x.f0).f0.size ≠ 0 := by
  obtain ⟨n, hn, hk⟩ : ∃ n : Nat, n < 11 ∧ x.f0 = ((n + 1 : Nat) : Int) := ⟨(x.f0 - 1).toNat, by have := h.kd; omega, by have := h.kd; omega⟩
  have hl := lets_all (x.f4.toList != []) (x.f5.toList != []) (x.f7.toList != []) (x.f8.toList != []) (x.f9.toList != []) (x.f10.toList != []) (x.f11 != 0) (x.f12.toList != []) (x.f13.toList != []) (x.f14.f1.toList != []) (decide ((x.f15.length : Int) > 0))
  rw [List.all_eq_true] at hl
  have h1 : chkL ((n + 1 : Nat) : Int) (bitsOf x) = true := hl n (List.mem_range.2 hn)
  rw [← hk] at h1
  have h2 := row_sizes ⟨n, hn⟩
  rw [← hk] at h2
  simp only [Bool.and_eq_true, decide_eq_true_eq] at h2
  obtain ⟨⟨r0, r2⟩, r3⟩ := h2
  unfold chkL at h1
  cases hp : comptoirref07_has.l0 12 ⟨#[]⟩ (bitsOf x) 0 with
  | none => rw [hp] at h1; cases h1
  | some p =>
    rw [hp] at h1
    dsimp only at h1
    rw [h.bits, Bool.not_true, Bool.false_or] at h1
    unfold letF at h1
    rw [Bool.and_eq_true, Bool.and_eq_true, decide_eq_true_eq] at h1
    exact ⟨p, rfl, ⟨r2, r3, h1.2, all_bt h1.1.1, all_bt h1.1.2⟩, r0⟩
theorem letter_yes (s : ByteArray) (c : Int) (w : World) (h : s.size ≤ 140737488355328 ∧ hasB s c = true) : Calls Tryz.prog 80 #[.string s, .int .u8 c] w fun e w' => e = .returned (.bool true) ∧ Drawn0 w w' := by
  have := letter_e s c w h.1
  rw [h.2] at this
  exact this
theorem info29m (x : S29) (v16 v19 v20 : Value) : (Tryz.prog.info? 29).map (·.size) = some (rowM x v16 v19 v20).size := info29'
theorem has_e (x : S29) (A16 : Option Addr) (c16 : Nat) (A19 : Option Addr) (c19 : Nat) (A20 : Option Addr) (c20 : Nat) (w : World) (p : ByteArray) (hp : comptoirref07_has.l0 12 ⟨#[]⟩ (bitsOf x) 0 = some p) (l16 : x.f15.length ≤ c16) (g16 : k46.C w A16 x.f15.length x.f15) (l19 : x.f18.length ≤ c19) (g19 : k48.C w A19 x.f18.length x.f18) (l20 : x.f19.length ≤ c20) (g20 : k50.C w A20 x.f19.length x.f19) :
    Calls Tryz.prog 79 #[.agg (rowM x (.slice A16 x.f15.length c16) (.slice A19 x.f18.length c19) (.slice A20 x.f19.length c20))] w fun e w' => e = .returned (.string p) ∧ Below w.heap.size w w' :=
  comptoirref07_has.calls 12 x.f0 x.f1 x.f2 x.f3 x.f4 x.f5 x.f6 x.f7 x.f8 x.f9 x.f10 x.f11 x.f12 x.f13 x.f14.f0 x.f14.f1 A16 c16 x.f15 x.f16 x.f17 A19 c19 x.f18 A20 c20 x.f19 p w g16 l16 g19 l19 g20 l20 hp
set_option maxHeartbeats 8000000 in
set_option maxRecDepth 100000 in
theorem fits_e (x : S29) (A16 : Option Addr) (c16 : Nat) (A19 : Option Addr) (c19 : Nat) (A20 : Option Addr) (c20 : Nat) (w : World) (hF : FitsOK x) (l16 : x.f15.length ≤ c16) (g16 : k46.C w A16 x.f15.length x.f15) (l19 : x.f18.length ≤ c19) (g19 : k48.C w A19 x.f18.length x.f18) (l20 : x.f19.length ≤ c20) (g20 : k50.C w A20 x.f19.length x.f19) :
    Calls Tryz.prog 52 #[.agg (rowM x (.slice A16 x.f15.length c16) (.slice A19 x.f18.length c19) (.slice A20 x.f19.length c20))] w fun e w' => e = .returned (.int .i64 0) ∧ Below w.heap.size w w' := by
  have HX := Aside0.mk hF
  have HG := Aside0.mk (And.intro l16 (And.intro g16 (And.intro l19 (And.intro g19 (And.intro l20 g20)))))
  obtain ⟨p, hp, hl, hr0⟩ := lets_is x hF
  have HP := Aside0.mk (And.intro hp (And.intro hl hr0))
  clear hF l16 g16 l19 g19 l20 g20 hp hl hr0
  have hu56 := Tryz.underlying56
  go_enter Tryz.func52, Tryz.ntmps52
  go_upto_region 1 with fail
  obtain ⟨mc, hmc⟩ : ∃ m, m = rowM x (.slice A16 x.f15.length c16) (.slice A19 x.f18.length c19) (.slice A20 x.f19.length c20) := ⟨_, rfl⟩
  rw [← hmc]
  have HMC := Aside0.mk hmc
  clear hmc
  obtain ⟨p1, hp1⟩ : ∃ p, p = w.heap.size := ⟨_, rfl⟩
  have J0 : (w.alloc (.cells mc 29)).heap[w.heap.size]? = some (.cells mc 29 (0, 0)) ∧ Below w.heap.size w (w.alloc (.cells mc 29)) := ⟨blk_new w _, below_alloc (Below.refl _ w) _⟩
  rw [← hp1] at J0 ⊢
  revert J0
  generalize w.alloc (.cells mc 29) = w0
  intro J0
  have BW0 := Aside0.mk (show Below w.heap.size w w0 by rw [← hp1]; exact J0.2)
  have MB : Aside0 (w0.heap[p1]? = some (.cells mc 29 (0, 0))) := ⟨J0.1⟩
  have q0 := (blk_cell MB.out 0).trans (show _ = some (Value.int .i64 x.f0) by rw [HMC.out]; rfl)
  clear J0 hp1
  go_wp2_with fail
  refine (row_e x.f0 _).mono ?_
  rintro e w1 ⟨y, hy, rfl, hb⟩
  have HY := Aside0.mk hy
  have B1 := Aside0.mk (below_step BW0.out hb)
  have M1 := Aside0.mk (blk_below MB.out hb)
  clear hy hb q0 MB BW0
  have hu29 := Aside0.mk Tryz.underlying29
  have HI := Aside0.mk (show (Tryz.prog.info? 29).map (·.size) = some mc.size by rw [HMC.out]; exact info29m x _ _ _)
  go_upto_region 2 with fail
  obtain ⟨p3, hp3⟩ : ∃ p, p = w1.heap.size := ⟨_, rfl⟩
  have J0 : (w1.alloc (.cells #[.string y.f0, .string y.f1, .string y.f2, .string y.f3] 56)).heap[w1.heap.size]? = some (.cells #[.string y.f0, .string y.f1, .string y.f2, .string y.f3] 56 (0, 0)) ∧ Below w.heap.size w (w1.alloc (.cells #[.string y.f0, .string y.f1, .string y.f2, .string y.f3] 56)) ∧ (w1.alloc (.cells #[.string y.f0, .string y.f1, .string y.f2, .string y.f3] 56)).heap[p1]? = some (.cells mc 29 (0, 0)) := ⟨blk_new w1 _, below_alloc B1.out _, blk_alloc M1.out _⟩
  rw [← hp3] at J0 ⊢
  revert J0
  generalize (w1.alloc (.cells #[.string y.f0, .string y.f1, .string y.f2, .string y.f3] 56)) = w2
  intro J0
  have JJ := Aside0.mk J0
  clear J0 hp3 M1 B1
  have e2 : y.f2 = mustOf x.f0 := by rw [HY.out]; rfl
  have e3 : y.f3 = mayOf x.f0 := by rw [HY.out]; rfl
  obtain ⟨s0, hs0⟩ : ∃ s, s = y.f0 := ⟨_, rfl⟩
  have z0 : s0.toList.isEmpty = false := by
    rw [hs0, HY.out, ByteArray.toList_eq]
    have := HP.out.2.2
    cases hq : (rowOf x.f0).f0.data.toList with
    | nil => exact absurd (show (rowOf x.f0).f0.size = 0 by show (rowOf x.f0).f0.data.size = 0; rw [← Array.length_toList, hq]; rfl) this
    | cons a b => rfl
  have n0 : (s0.toList == ([] : List UInt8)) = false := by
    cases h : s0.toList with
    | nil => rw [h] at z0; cases z0
    | cons a b => rfl
  obtain ⟨must, hmu⟩ : ∃ s, s = mustOf x.f0 := ⟨_, rfl⟩
  obtain ⟨may, hma⟩ : ∃ s, s = mayOf x.f0 := ⟨_, rfl⟩
  rw [← hmu] at e2
  rw [← hma] at e3
  have J := Aside0.mk (show w2.heap[p3]? = some (.cells #[.string s0, .string must, .string may, .string y.f3] 56 (0, 0)) ∨ True from Or.inr trivial)
  clear J
  have JR := Aside0.mk (show w2.heap[p3]? = some (.cells #[.string s0, .string y.f1, .string must, .string may] 56 (0, 0)) by rw [← e2, ← e3, hs0]; exact JJ.out.1)
  have HL := Aside0.mk HP.out.2.1
  rw [← hmu, ← hma] at HL
  have hs0' := Aside0.mk hs0
  have hmu' := Aside0.mk hmu
  have hma' := Aside0.mk hma
  clear hs0 e2 e3 hmu hma
  have q0 := (blk_cell JR.out 0).trans (show _ = some (Value.string s0) from rfl)
  go_wp2_with (first | ((with_reducible refine gate_dst (N := 13) rfl ?_); refine wpList_load_row rfl 29 (.tmp 1) rfl p1 rfl 29 mc (0, 0) _ JJ.out.2.2 hu29.out rfl HI.out ?_))
  rw [HMC.out]
  refine (has_e x A16 c16 A19 c19 A20 c20 _ p HP.out.1 HG.out.1 (Kd.C_below HG.out.2.1 JJ.out.2.1) HG.out.2.2.1 (Kd.C_below HG.out.2.2.2.1 JJ.out.2.1) HG.out.2.2.2.2.1 (Kd.C_below HG.out.2.2.2.2.2 JJ.out.2.1)).mono ?_
  rintro e w3 ⟨rfl, hb⟩
  rw [← HMC.out]
  have B3 := Aside0.mk (below_step JJ.out.2.1 hb)
  have M3 := Aside0.mk (blk_below JJ.out.2.2 hb)
  have R3 := Aside0.mk (blk_below JR.out hb)
  clear hb q0 JR JJ
  have q2 := (blk_cell R3.out 2).trans (show _ = some (Value.string must) from rfl)
  go_wp2_with fail
  clear q2
  have HSZ := Aside0.mk (And.intro HL.out.l1 (And.intro HL.out.l2 HL.out.l3))
  go_loopg [5] must.size (fun gg s5 wr => ∃ kk : Nat, kk ≤ must.size ∧ must.size - kk ≤ gg ∧ s5 = .int .i64 kk ∧ Aside0 (Below w3.heap.size w3 wr))
  case atStart => exact ⟨0, Nat.zero_le _, by omega, rfl, ⟨Below.refl _ w3⟩⟩
  case round =>
    obtain ⟨kk, hkk, hg, rfl, BW⟩ := hrel
    have q2 := (blk_cell (blk_below R3.out BW.out) 2).trans (show _ = some (Value.string must) from rfl)
    by_cases hlt : kk < must.size
    · have hltz : (kk : Int) < (must.size : Int) := by omega
      have hx := byte_at must kk
      have HB := Aside0.mk (HL.out.m kk hlt)
      obtain ⟨d, hd⟩ : ∃ d, d = bt must (kk : Int) := ⟨_, rfl⟩
      rw [← hd] at hx HB
      replace hd := Aside0.mk hd
      go_wp2_with fail
      refine (letter_e p d _ (by have := HSZ.out.2.2; omega)).mono ?_
      rintro e wl ⟨rfl, hb⟩
      rw [HB.out]
      have BL := Aside0.mk (below_step BW.out hb.below)
      clear hb q2
      have hmz : (kk : Int) + 1 ≤ must.size := by omega
      have hmz2 : must.size ≤ 100 := HSZ.out.1
      go_wp2_with fail
      go_roundg (must.size - (kk + 1))
      case measure => omega
      case rel => exact ⟨kk + 1, by omega, by omega, by go_num, BL⟩
    · have hltz : ¬ (kk : Int) < (must.size : Int) := by omega
      go_wp2_with fail
      clear q2
      have B4 := Aside0.mk (below_step B3.out BW.out)
      have M4 := Aside0.mk (blk_below M3.out BW.out)
      have R4 := Aside0.mk (blk_below R3.out BW.out)
      clear B3 M3 R3 BW
      go_loopg [6] p.size (fun gg s5 wr => ∃ kk : Nat, kk ≤ p.size ∧ p.size - kk ≤ gg ∧ s5 = .int .i64 kk ∧ Aside0 (Below w.heap.size w wr) ∧ Aside0 (wr.heap[p1]? = some (.cells mc 29 (0, 0))) ∧ Aside0 (wr.heap[p3]? = some (.cells #[.string s0, .string y.f1, .string must, .string may] 56 (0, 0))))
      case atStart => exact ⟨0, Nat.zero_le _, by omega, rfl, B4, M4, R4⟩
      case round =>
        clear B4 M4 R4
        obtain ⟨kk, hkk, hg, rfl, B4, M4, R4⟩ := hrel
        by_cases hlt : kk < p.size
        · have hltz : (kk : Int) < (p.size : Int) := by omega
          have q2 := (blk_cell R4.out 2).trans (show _ = some (Value.string must) from rfl)
          have q3 := (blk_cell R4.out 3).trans (show _ = some (Value.string may) from rfl)
          have hx := byte_at p kk
          have HB := Aside0.mk (HL.out.y kk hlt)
          obtain ⟨d, hd⟩ : ∃ d, d = bt p (kk : Int) := ⟨_, rfl⟩
          rw [← hd] at hx HB
          replace hd := Aside0.mk hd
          have hsz : ¬ 9223372036854775807 < must.size + may.size := by have := HSZ.out; omega
          have hmz : (kk : Int) + 1 ≤ p.size := by omega
          have hmz2 : p.size ≤ 11 := HSZ.out.2.2
          have HQ : Aside0 ((must ++ may).size ≤ 140737488355328 ∧ hasB (must ++ may) d = true) := ⟨by rw [ByteArray.size_append]; have := HSZ.out; omega, HB.out⟩
          go_wp2_with fail
          go_quiet (first | (go_at_call 80; (with_reducible refine (letter_yes (must ++ may) d _ HQ.out).mono ?_); rintro e w' ⟨rfl, ⟨nd, rfl⟩⟩; (try first | exact ⟨rfl, _, World.drewN_drewN _ _ _⟩ | exact ⟨rfl, _, Eq.trans (World.drewN_drewN _ _ _) (congrArg (World.drewN _) (Nat.add_assoc _ _ _))⟩)))
          go_wp2_with fail
          go_roundg (p.size - (kk + 1))
          case measure => omega
          case rel => exact ⟨kk + 1, by omega, by omega, by go_num, ⟨by (with_reducible repeat (first | exact B4.out | apply pw_below_drewN | apply below_drew1))⟩, ⟨by (with_reducible repeat (first | refine blk_drewN ?_ _ | refine blk_drew ?_)); exact M4.out⟩, ⟨by (with_reducible repeat (first | refine blk_drewN ?_ _ | refine blk_drew ?_)); exact R4.out⟩⟩
        · have hltz : ¬ (kk : Int) < (p.size : Int) := by omega
          have q5 := (blk_cell M4.out 5).trans (show _ = some (Value.string x.f5) by rw [HMC.out]; rfl)
          have q6 := (blk_cell M4.out 6).trans (show _ = some (Value.int .u64 x.f6) by rw [HMC.out]; rfl)
          have q14 := (blk_cell M4.out 14).trans (show _ = some (Value.int .i64 x.f14.f0) by rw [HMC.out]; rfl)
          have q15 := (blk_cell M4.out 15).trans (show _ = some (Value.string x.f14.f1) by rw [HMC.out]; rfl)
          have HA := Aside0.mk (And.intro HX.out.amt HX.out.stn)
          by_cases h1 : x.f5.toList = []
          · have a1 : (x.f5.toList == ([] : List UInt8)) = true := beq_iff_eq.mpr h1
            have a2 : x.f5.toList.isEmpty = true := by rw [h1]; rfl
            have a3 := HA.out.1 h1
            rw [a3] at q6
            replace h1 := Aside0.mk h1
            replace a3 := Aside0.mk a3
            by_cases h2 : x.f14.f1.toList = []
            · have b1 : (x.f14.f1.toList == ([] : List UInt8)) = true := beq_iff_eq.mpr h2
              have b2 : x.f14.f1.toList.isEmpty = true := by rw [h2]; rfl
              have b3 := HA.out.2 h2
              rw [b3] at q14
              replace h2 := Aside0.mk h2
              replace b3 := Aside0.mk b3
              go_wp2_with fail
              go_ret
              exact ⟨rfl, B4.out⟩
            · have b1 : (x.f14.f1.toList == ([] : List UInt8)) = false := beq_eq_false_iff_ne.mpr h2
              have b2 : x.f14.f1.toList.isEmpty = false := by cases h : x.f14.f1.toList with | nil => exact absurd h h2 | cons a b => rfl
              replace h2 := Aside0.mk h2
              go_wp2_with fail
              go_ret
              exact ⟨rfl, B4.out⟩
          · have a1 : (x.f5.toList == ([] : List UInt8)) = false := beq_eq_false_iff_ne.mpr h1
            have a2 : x.f5.toList.isEmpty = false := by cases h : x.f5.toList with | nil => exact absurd h h1 | cons a b => rfl
            replace h1 := Aside0.mk h1
            by_cases h2 : x.f14.f1.toList = []
            · have b1 : (x.f14.f1.toList == ([] : List UInt8)) = true := beq_iff_eq.mpr h2
              have b2 : x.f14.f1.toList.isEmpty = true := by rw [h2]; rfl
              have b3 := HA.out.2 h2
              rw [b3] at q14
              replace h2 := Aside0.mk h2
              replace b3 := Aside0.mk b3
              go_wp2_with fail
              go_ret
              exact ⟨rfl, B4.out⟩
            · have b1 : (x.f14.f1.toList == ([] : List UInt8)) = false := beq_eq_false_iff_ne.mpr h2
              have b2 : x.f14.f1.toList.isEmpty = false := by cases h : x.f14.f1.toList with | nil => exact absurd h h2 | cons a b => rfl
              replace h2 := Aside0.mk h2
              go_wp2_with fail
              go_ret
              exact ⟨rfl, B4.out⟩
/-- A message that XML may say, but for its length. -/
structure XOK (x : S29) : Prop where
  fit : FitsOK x
  inn : MIn x
  act : x.f12.toList = [] ∨ (wordsF x.f12).2.2 = true
  says : ∀ (hx : ByteArray) (n : Nat), HexOf n hx → n ≤ tagsLen x.f15 → x.f15.length ≤ n → XSize x hx
  oth : x.f19 = []
/-- Its texts are such that it is said. -/
def XSays (x : S29) : Prop := ∀ (hx : ByteArray) (n : Nat), HexOf n hx → n ≤ tagsLen x.f15 → x.f15.length ≤ n → XGood x hx
def XEnd (x : S29) (w : World) (e : Ending) (w' : World) : Prop := ∃ (s : ByteArray) (f : Int), e = .returned (.tuple #[.string s, .int .i64 f]) ∧ (XSays x → f = 0 ∨ f = 4) ∧ Below w.heap.size w w'
set_option maxHeartbeats 8000000 in
set_option maxRecDepth 100000 in
theorem encX_e (x : S29) (A16 : Option Addr) (c16 : Nat) (A19 : Option Addr) (c19 : Nat) (A20 : Option Addr) (c20 : Nat) (w : World) (hF : XOK x) (l16 : x.f15.length ≤ c16) (g16 : k46.C w A16 x.f15.length x.f15) (l19 : x.f18.length ≤ c19) (g19 : k48.C w A19 x.f18.length x.f18) (l20 : x.f19.length ≤ c20) (g20 : k50.C w A20 x.f19.length x.f19) :
    Calls Tryz.prog 27 #[.agg (rowM x (.slice A16 x.f15.length c16) (.slice A19 x.f18.length c19) (.slice A20 x.f19.length c20))] w (XEnd x w) := by
  have HX := Aside0.mk hF
  have HG := Aside0.mk (And.intro l16 (And.intro g16 (And.intro l19 (And.intro g19 (And.intro l20 g20)))))
  clear hF l16 g16 l19 g19 l20 g20
  have hu29 := Aside0.mk Tryz.underlying29
  go_enter Tryz.func27, Tryz.ntmps27
  go_upto_region 1 with fail
  obtain ⟨mc, hmc⟩ : ∃ m, m = rowM x (.slice A16 x.f15.length c16) (.slice A19 x.f18.length c19) (.slice A20 x.f19.length c20) := ⟨_, rfl⟩
  rw [← hmc]
  have HMC := Aside0.mk hmc
  have HI := Aside0.mk (show (Tryz.prog.info? 29).map (·.size) = some mc.size by rw [hmc]; exact info29m x _ _ _)
  clear hmc
  obtain ⟨p1, hp1⟩ : ∃ p, p = w.heap.size := ⟨_, rfl⟩
  have J0 : (w.alloc (.cells mc 29)).heap[w.heap.size]? = some (.cells mc 29 (0, 0)) ∧ Below w.heap.size w (w.alloc (.cells mc 29)) := ⟨blk_new w _, below_alloc (Below.refl _ w) _⟩
  rw [← hp1] at J0 ⊢
  revert J0
  generalize w.alloc (.cells mc 29) = w0
  intro J0
  have B0 := Aside0.mk (show Below w.heap.size w w0 by rw [← hp1]; exact J0.2)
  have M0 : Aside0 (w0.heap[p1]? = some (.cells mc 29 (0, 0))) := ⟨J0.1⟩
  clear J0 hp1
  go_wp2_with (first | ((with_reducible refine gate_dst (N := 8) rfl ?_); refine wpList_load_row rfl 29 (.tmp 1) rfl p1 rfl 29 mc (0, 0) _ M0.out hu29.out rfl HI.out ?_))
  rw [HMC.out]
  refine (fits_e x A16 c16 A19 c19 A20 c20 _ HX.out.fit HG.out.1 (Kd.C_below HG.out.2.1 B0.out) HG.out.2.2.1 (Kd.C_below HG.out.2.2.2.1 B0.out) HG.out.2.2.2.2.1 (Kd.C_below HG.out.2.2.2.2.2 B0.out)).mono ?_
  rintro e w1 ⟨rfl, hb⟩
  rw [← HMC.out]
  have B1 := Aside0.mk (below_step B0.out hb)
  have M1 := Aside0.mk (blk_below M0.out hb)
  clear hb B0 M0
  have q19 := (blk_cell M1.out 20).trans (show _ = some (Value.slice A20 0 c20) by rw [HMC.out]; show some (Value.slice A20 x.f19.length c20) = _; rw [HX.out.oth]; rfl)
  have q20 := (blk_cell M1.out 19).trans (show _ = some (Value.slice A19 x.f18.length c19) by rw [HMC.out]; rfl)
  go_wp2_with (first | ((with_reducible refine gate_dst (N := 20) rfl ?_); refine wpList_load_row rfl 29 (.tmp 1) rfl p1 rfl 29 mc (0, 0) _ M1.out hu29.out rfl HI.out ?_))
  rw [HMC.out]
  refine (numbers_e x A16 c16 A19 c19 A20 c20 _ HX.out.inn HX.out.act HG.out.1 (Kd.C_below HG.out.2.1 B1.out)).mono ?_
  rintro e w2 ⟨rfl, hb⟩
  rw [← HMC.out]
  have B2 := Aside0.mk (below_step B1.out hb)
  have M2 := Aside0.mk (blk_below M1.out hb)
  clear hb B1 M1 q19 q20
  go_wp2_with (first | ((with_reducible refine gate_dst (N := 23) rfl ?_); refine wpList_load_row rfl 29 (.tmp 1) rfl p1 rfl 29 mc (0, 0) _ M2.out hu29.out rfl HI.out ?_))
  rw [HMC.out]
  refine (nodes_e x A16 c16 A19 c19 A20 c20 _ HX.out.inn HG.out.1 (Kd.C_below HG.out.2.1 B2.out) HG.out.2.2.1 (Kd.C_below HG.out.2.2.2.1 B2.out)).mono ?_
  rintro e w3 ⟨hx, n, AN, cn, h1, h2, h3, rfl, hC, hc, hb⟩
  rw [← HMC.out]
  have B3 := Aside0.mk (below_step B2.out hb)
  have hz := HX.out.says hx n h1 h2 h3
  have hgg : XSays x → XGood x hx := fun q => q hx n h1 h2 h3
  have hit := items_ok x hx hz
  have hS : Shape (nodesF x hx) := by rw [nodes_is]; exact shape_of hit hz.base
  have hT : XSays x → TextsOK (nodesF x hx) ∧ LeavesOK (nodesF x hx) := fun q => by
    have hg := hgg q
    have hig := items_good x hx hz hg
    rw [nodes_is]
    exact ⟨texts_of hig hg.base, leaves_of hit hig hg.base⟩
  obtain ⟨L, hLL⟩ : ∃ L, L = nodesF x hx := ⟨_, rfl⟩
  rw [← hLL] at hS hT hC hc ⊢
  have HS := Aside0.mk (And.intro hS (And.intro hT (And.intro hC hc)))
  clear hz hgg hit hS hT hC hc hLL h1 h2 h3 hb M2 B2
  go_wp2_with fail
  refine (check_e AN cn L _ HS.out.2.2.1 HS.out.2.2.2 HS.out.1).mono ?_
  rintro e w4 ⟨r, rfl, hr, hb⟩
  have HR : Aside0 (XSays x → r = 0) := ⟨fun q => hr (HS.out.2.1 q).1 (HS.out.2.1 q).2⟩
  have B4 := Aside0.mk (below_step B3.out hb)
  have HC := Aside0.mk (Kd.C_below HS.out.2.2.1 hb)
  clear hr hb B3
  by_cases r0 : r = 0
  rotate_left
  · have r1 : (r != 0) = true := bne_iff_ne.mpr r0
    have r2 : (r == 0) = false := beq_eq_false_iff_ne.mpr r0
    replace r0 := Aside0.mk r0
    go_wp2_with fail
    go_ret2
    exact ⟨_, 1, rfl, fun q => absurd (HR.out q) r0.out, B4.out⟩
  subst r0
  go_wp2_with fail
  refine (canonAll_e AN cn L _ HC.out HS.out.2.2.2 HS.out.1).mono ?_
  rintro e w5 ⟨t, r, rfl, hb⟩
  have B5 := Aside0.mk (below_step B4.out hb)
  clear hb B4 HC
  by_cases hsz : (4096 : Int) < t.size
  · go_wp2_with fail
    go_ret2
    exact ⟨_, 4, rfl, fun _ => .inr rfl, B5.out⟩
  · go_wp2_with fail
    go_ret2
    exact ⟨_, 0, rfl, fun _ => .inl rfl, B5.out⟩
end Go.Proofs.YthapknnppabdaaaGreat.MQ
