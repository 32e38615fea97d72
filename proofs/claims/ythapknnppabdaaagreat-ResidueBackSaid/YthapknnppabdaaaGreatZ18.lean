/- ResidueBack: part 18 of its proof. -/
import Derived.Test.YthapknnppabdaaaGreatZ17
import Derived.Test.YthapknnppabdaaaGreatZ14
import Derived.Test.YthapknnppabdaaaGreatZ05
namespace Go.Proofs.YthapknnppabdaaaGreat.MQ
open Go.RowKit Go.Proofs.YthapknnppabdaaaGreatW.PrintWords Go.Proofs.YthapknnppabdaaaGreatW.PrintLast Go.Proofs.YthapknnppabdaaaGreatW.PrintMore
set_option linter.unusedVariables false
set_option linter.unusedSimpArgs false
/-- Elements that are other: few, rising, each that may be. -/
structure OthOK (L : List S50) : Prop where
  len : L.length ≤ 8
  asc : Asc L
  spare : ∀ y ∈ L, spareF y.f0 = true
  ok : ∀ y ∈ L, ElemOK y
theorem spare_yes (n : Int) (w : World) (h : spareF n = true) : Calls Tryz.prog 47 #[.int .i64 n] w fun e w' => e = .returned (.bool true) ∧ Drawn0 w w' := (spare_e n w).mono fun e w' q => ⟨by rw [q.1, h], q.2⟩
theorem plain_small {s : ByteArray} {n : Int} (h : s.toList ≠ [] → PlainA s 1 n) : s.toList = [] ∨ (PlainA s 1 n ∧ ansF s n = true) := by
  by_cases q : s.toList = []
  · exact .inl q
  · have hp := h q
    refine .inr ⟨hp, ?_⟩
    unfold ansF
    rw [hp.1, decide_eq_true hp.2.1, decide_eq_true hp.2.2.1]; rfl
theorem bact {x : S29} (h : BGood x) : x.f12.toList = [] ∨ (wordsF x.f12).2.2 = true := by
  by_cases q : x.f12.toList = []
  · exact .inl q
  · exact .inr (h.act q)
set_option maxHeartbeats 32000000 in
set_option maxRecDepth 100000 in
theorem may_e (x : S29) (A16 : Option Addr) (c16 : Nat) (A19 : Option Addr) (c19 : Nat) (A20 : Option Addr) (c20 : Nat) (w : World) (hx : BGood x) (ho : OthOK x.f19) (l16 : x.f15.length ≤ c16) (g16 : k46.C w A16 x.f15.length x.f15) (g20 : k50.C w A20 x.f19.length x.f19) :
    Calls Tryz.prog 57 #[.agg (rowM x (.slice A16 x.f15.length c16) (.slice A19 x.f18.length c19) (.slice A20 x.f19.length c20))] w fun e w' => e = .returned (.bool true) ∧ Below w.heap.size w w' := by
  have HX := Aside0.mk hx
  have HO := Aside0.mk ho
  have HZ := Aside0.mk (bsize hx)
  have HG := Aside0.mk (And.intro l16 (And.intro g16 g20))
  clear hx ho l16 g16 g20
  have hu29 := Aside0.mk Tryz.underlying29
  have hu24 := Tryz.underlying24
  go_enter Tryz.func57, Tryz.ntmps57
  go_upto_region 1 with fail
  obtain ⟨mc, hmc⟩ : ∃ m, m = rowM x (.slice A16 x.f15.length c16) (.slice A19 x.f18.length c19) (.slice A20 x.f19.length c20) := ⟨_, rfl⟩
  rw [← hmc]
  have HMC := Aside0.mk hmc
  have HI := Aside0.mk (show (Tryz.prog.info? 29).map (·.size) = some mc.size by rw [hmc]; exact info29m x _ _ _)
  clear hmc
  obtain ⟨p1, hp1⟩ : ∃ p, p = w.heap.size := ⟨_, rfl⟩
  have J0 : (w.alloc (.cells mc 29)).heap[w.heap.size]? = some (.cells mc 29 (0, 0)) ∧ Below w.heap.size w (w.alloc (.cells mc 29)) := ⟨blk_new w _, below_alloc (Below.refl _ w) _⟩
  rw [← hp1] at J0 ⊢
  revert J0
  generalize w.alloc (.cells mc 29) = w0
  intro J0
  have BW := Aside0.mk (show Below w.heap.size w w0 by rw [← hp1]; exact J0.2)
  have MB : Aside0 (∀ W, Below w0.heap.size w0 W → W.heap[p1]? = some (.cells mc 29 (0, 0))) := ⟨fun W hW => blk_below J0.1 hW⟩
  have GB : Aside0 (k50.C w0 A20 x.f19.length x.f19) := ⟨Kd.C_below HG.out.2.2 BW.out⟩
  have B0 := Aside0.mk (Below.refl w0.heap.size w0)
  clear J0 hp1
  go_cut [3] from 5 to 70 (fun s3 wc => s3 = .bool true ∧ Aside0 (Below w0.heap.size w0 wc))
  case first =>
    have am : x.f6 ≤ 999999999999 := HX.out.inn.amt.2
    have ol : (x.f19.length : Int) ≤ 8 := by have := HO.out.len; omega
    have hq : x.f3.toList ≠ [] := fun h => by have := (empty_iff x.f3).1 h; have := (right_iff.1 HX.out.acq).2; omega
    have hq1 : (x.f3.toList != ([] : List UInt8)) = true := bne_iff_ne.mpr hq
    have hq2 : x.f3.toList.isEmpty = false := by cases h : x.f3.toList with | nil => exact absurd h hq | cons a b => rfl
    replace hq := Aside0.mk hq
    simp only [List.append_eq, List.cons_append, List.nil_append]
    by_cases ho : x.f14.f1.toList = []
    · skip
      have ho1 : (x.f14.f1.toList == ([] : List UInt8)) = true := beq_iff_eq.mpr ho
      have ho2 : x.f14.f1.toList.isEmpty = true := by rw [ho]; rfl
      replace ho := Aside0.mk ho
      by_cases hp : x.f4.toList = []
      · skip
        have hp1 : (x.f4.toList == ([] : List UInt8)) = true := beq_iff_eq.mpr hp
        have hp2 : x.f4.toList.isEmpty = true := by rw [hp]; rfl
        replace hp := Aside0.mk hp
        by_cases hk : x.f16.toList = []
        · skip
          have hk1 : (x.f16.toList == ([] : List UInt8)) = true := beq_iff_eq.mpr hk
          have hk2 : x.f16.toList.isEmpty = true := by rw [hk]; rfl
          replace hk := Aside0.mk hk
          have B1 := B0
          go_wp2_with (first | ((with_reducible refine gate_dst (N := 5) rfl ?_); refine wpList_load_row rfl 29 (.tmp 1) rfl p1 rfl 29 mc (0, 0) _ (MB.out _ B1.out) hu29.out rfl HI.out ?_))
          rw [HMC.out]
          refine (numbers_e x A16 c16 A19 c19 A20 c20 _ HX.out.inn (bact HX.out) HG.out.1 (Kd.C_below HG.out.2.1 BW.out)).mono ?_
          rintro e w1 ⟨rfl, hb⟩
          rw [← HMC.out]
          have B2 := Aside0.mk (below_step B1.out hb); clear hb B1
          have q2 := (blk_cell (MB.out _ B2.out) 2).trans (show _ = some (Value.string x.f2) by rw [HMC.out]; rfl)
          have q6 := (blk_cell (MB.out _ B2.out) 6).trans (show _ = some (Value.int .u64 x.f6) by rw [HMC.out]; rfl)
          go_wp2_with fail
          refine (time_e x.f2 _ HZ.out.z2).mono ?_
          rintro e w2 ⟨rfl, hb⟩
          rw [HX.out.time]
          have B3 := Aside0.mk (below_step B2.out hb.below); clear hb B2 q2 q6
          have q15 := (blk_cell (MB.out _ B3.out) 15).trans (show _ = some (Value.string x.f14.f1) by rw [HMC.out]; rfl)
          have q4 := (blk_cell (MB.out _ B3.out) 4).trans (show _ = some (Value.string x.f4) by rw [HMC.out]; rfl)
          have q17 := (blk_cell (MB.out _ B3.out) 17).trans (show _ = some (Value.string x.f16) by rw [HMC.out]; rfl)
          have q9 := (blk_cell (MB.out _ B3.out) 9).trans (show _ = some (Value.string x.f9) by rw [HMC.out]; rfl)
          go_wp2_with fail
          refine (small_e x.f9 8 _ HZ.out.z9 (plain_small HX.out.ter)).mono ?_
          rintro e w6 ⟨rfl, hb⟩
          have B6 := Aside0.mk (below_step B3.out hb); clear hb B3 q9 q4 q17 q15
          have q8 := (blk_cell (MB.out _ B6.out) 8).trans (show _ = some (Value.string x.f8) by rw [HMC.out]; rfl)
          go_wp2_with fail
          refine (small_e x.f8 15 _ HZ.out.z8 (plain_small HX.out.mer)).mono ?_
          rintro e w7 ⟨rfl, hb⟩
          have B7 := Aside0.mk (below_step B6.out hb); clear hb B6 q8
          have q20 := (blk_cell (MB.out _ B7.out) 20).trans (show _ = some (Value.slice A20 x.f19.length c20) by rw [HMC.out]; rfl)
          have q3 := (blk_cell (MB.out _ B7.out) 3).trans (show _ = some (Value.string x.f3) by rw [HMC.out]; rfl)
          go_wp2_with fail
          go_meet
          exact ⟨by first | rfl | trivial, B7⟩
        · skip
          have hk1 : (x.f16.toList == ([] : List UInt8)) = false := beq_eq_false_iff_ne.mpr hk
          have hk2 : x.f16.toList.isEmpty = false := by cases h : x.f16.toList with | nil => exact absurd h hk | cons a b => rfl
          replace hk := Aside0.mk hk
          have B1 := B0
          go_wp2_with (first | ((with_reducible refine gate_dst (N := 5) rfl ?_); refine wpList_load_row rfl 29 (.tmp 1) rfl p1 rfl 29 mc (0, 0) _ (MB.out _ B1.out) hu29.out rfl HI.out ?_))
          rw [HMC.out]
          refine (numbers_e x A16 c16 A19 c19 A20 c20 _ HX.out.inn (bact HX.out) HG.out.1 (Kd.C_below HG.out.2.1 BW.out)).mono ?_
          rintro e w1 ⟨rfl, hb⟩
          rw [← HMC.out]
          have B2 := Aside0.mk (below_step B1.out hb); clear hb B1
          have q2 := (blk_cell (MB.out _ B2.out) 2).trans (show _ = some (Value.string x.f2) by rw [HMC.out]; rfl)
          have q6 := (blk_cell (MB.out _ B2.out) 6).trans (show _ = some (Value.int .u64 x.f6) by rw [HMC.out]; rfl)
          go_wp2_with fail
          refine (time_e x.f2 _ HZ.out.z2).mono ?_
          rintro e w2 ⟨rfl, hb⟩
          rw [HX.out.time]
          have B3 := Aside0.mk (below_step B2.out hb.below); clear hb B2 q2 q6
          have q15 := (blk_cell (MB.out _ B3.out) 15).trans (show _ = some (Value.string x.f14.f1) by rw [HMC.out]; rfl)
          have q4 := (blk_cell (MB.out _ B3.out) 4).trans (show _ = some (Value.string x.f4) by rw [HMC.out]; rfl)
          have q17 := (blk_cell (MB.out _ B3.out) 17).trans (show _ = some (Value.string x.f16) by rw [HMC.out]; rfl)
          go_wp2_with fail
          refine (key_e x.f16 _ (HX.out.key hk.out).2 (HX.out.key hk.out).1).mono ?_
          rintro e w5 ⟨rfl, hb⟩
          have B5 := Aside0.mk (below_step B3.out hb); clear hb B3 q4 q17 q15
          have q9 := (blk_cell (MB.out _ B5.out) 9).trans (show _ = some (Value.string x.f9) by rw [HMC.out]; rfl)
          go_wp2_with fail
          refine (small_e x.f9 8 _ HZ.out.z9 (plain_small HX.out.ter)).mono ?_
          rintro e w6 ⟨rfl, hb⟩
          have B6 := Aside0.mk (below_step B5.out hb); clear hb B5 q9
          have q8 := (blk_cell (MB.out _ B6.out) 8).trans (show _ = some (Value.string x.f8) by rw [HMC.out]; rfl)
          go_wp2_with fail
          refine (small_e x.f8 15 _ HZ.out.z8 (plain_small HX.out.mer)).mono ?_
          rintro e w7 ⟨rfl, hb⟩
          have B7 := Aside0.mk (below_step B6.out hb); clear hb B6 q8
          have q20 := (blk_cell (MB.out _ B7.out) 20).trans (show _ = some (Value.slice A20 x.f19.length c20) by rw [HMC.out]; rfl)
          have q3 := (blk_cell (MB.out _ B7.out) 3).trans (show _ = some (Value.string x.f3) by rw [HMC.out]; rfl)
          go_wp2_with fail
          go_meet
          exact ⟨by first | rfl | trivial, B7⟩
      · skip
        have hp1 : (x.f4.toList == ([] : List UInt8)) = false := beq_eq_false_iff_ne.mpr hp
        have hp2 : x.f4.toList.isEmpty = false := by cases h : x.f4.toList with | nil => exact absurd h hp | cons a b => rfl
        replace hp := Aside0.mk hp
        by_cases hk : x.f16.toList = []
        · skip
          have hk1 : (x.f16.toList == ([] : List UInt8)) = true := beq_iff_eq.mpr hk
          have hk2 : x.f16.toList.isEmpty = true := by rw [hk]; rfl
          replace hk := Aside0.mk hk
          have pl : 12 ≤ (x.f4.size : Int) := (right_iff.1 (HX.out.pan hp.out)).2.1
          have B1 := B0
          go_wp2_with (first | ((with_reducible refine gate_dst (N := 5) rfl ?_); refine wpList_load_row rfl 29 (.tmp 1) rfl p1 rfl 29 mc (0, 0) _ (MB.out _ B1.out) hu29.out rfl HI.out ?_))
          rw [HMC.out]
          refine (numbers_e x A16 c16 A19 c19 A20 c20 _ HX.out.inn (bact HX.out) HG.out.1 (Kd.C_below HG.out.2.1 BW.out)).mono ?_
          rintro e w1 ⟨rfl, hb⟩
          rw [← HMC.out]
          have B2 := Aside0.mk (below_step B1.out hb); clear hb B1
          have q2 := (blk_cell (MB.out _ B2.out) 2).trans (show _ = some (Value.string x.f2) by rw [HMC.out]; rfl)
          have q6 := (blk_cell (MB.out _ B2.out) 6).trans (show _ = some (Value.int .u64 x.f6) by rw [HMC.out]; rfl)
          go_wp2_with fail
          refine (time_e x.f2 _ HZ.out.z2).mono ?_
          rintro e w2 ⟨rfl, hb⟩
          rw [HX.out.time]
          have B3 := Aside0.mk (below_step B2.out hb.below); clear hb B2 q2 q6
          have q15 := (blk_cell (MB.out _ B3.out) 15).trans (show _ = some (Value.string x.f14.f1) by rw [HMC.out]; rfl)
          have q4 := (blk_cell (MB.out _ B3.out) 4).trans (show _ = some (Value.string x.f4) by rw [HMC.out]; rfl)
          have q17 := (blk_cell (MB.out _ B3.out) 17).trans (show _ = some (Value.string x.f16) by rw [HMC.out]; rfl)
          have q9 := (blk_cell (MB.out _ B3.out) 9).trans (show _ = some (Value.string x.f9) by rw [HMC.out]; rfl)
          go_wp2_with fail
          refine (small_e x.f9 8 _ HZ.out.z9 (plain_small HX.out.ter)).mono ?_
          rintro e w6 ⟨rfl, hb⟩
          have B6 := Aside0.mk (below_step B3.out hb); clear hb B3 q9 q4 q17 q15
          have q8 := (blk_cell (MB.out _ B6.out) 8).trans (show _ = some (Value.string x.f8) by rw [HMC.out]; rfl)
          go_wp2_with fail
          refine (small_e x.f8 15 _ HZ.out.z8 (plain_small HX.out.mer)).mono ?_
          rintro e w7 ⟨rfl, hb⟩
          have B7 := Aside0.mk (below_step B6.out hb); clear hb B6 q8
          have q20 := (blk_cell (MB.out _ B7.out) 20).trans (show _ = some (Value.slice A20 x.f19.length c20) by rw [HMC.out]; rfl)
          have q3 := (blk_cell (MB.out _ B7.out) 3).trans (show _ = some (Value.string x.f3) by rw [HMC.out]; rfl)
          go_wp2_with fail
          go_meet
          exact ⟨by first | rfl | trivial, B7⟩
        · skip
          have hk1 : (x.f16.toList == ([] : List UInt8)) = false := beq_eq_false_iff_ne.mpr hk
          have hk2 : x.f16.toList.isEmpty = false := by cases h : x.f16.toList with | nil => exact absurd h hk | cons a b => rfl
          replace hk := Aside0.mk hk
          have pl : 12 ≤ (x.f4.size : Int) := (right_iff.1 (HX.out.pan hp.out)).2.1
          have B1 := B0
          go_wp2_with (first | ((with_reducible refine gate_dst (N := 5) rfl ?_); refine wpList_load_row rfl 29 (.tmp 1) rfl p1 rfl 29 mc (0, 0) _ (MB.out _ B1.out) hu29.out rfl HI.out ?_))
          rw [HMC.out]
          refine (numbers_e x A16 c16 A19 c19 A20 c20 _ HX.out.inn (bact HX.out) HG.out.1 (Kd.C_below HG.out.2.1 BW.out)).mono ?_
          rintro e w1 ⟨rfl, hb⟩
          rw [← HMC.out]
          have B2 := Aside0.mk (below_step B1.out hb); clear hb B1
          have q2 := (blk_cell (MB.out _ B2.out) 2).trans (show _ = some (Value.string x.f2) by rw [HMC.out]; rfl)
          have q6 := (blk_cell (MB.out _ B2.out) 6).trans (show _ = some (Value.int .u64 x.f6) by rw [HMC.out]; rfl)
          go_wp2_with fail
          refine (time_e x.f2 _ HZ.out.z2).mono ?_
          rintro e w2 ⟨rfl, hb⟩
          rw [HX.out.time]
          have B3 := Aside0.mk (below_step B2.out hb.below); clear hb B2 q2 q6
          have q15 := (blk_cell (MB.out _ B3.out) 15).trans (show _ = some (Value.string x.f14.f1) by rw [HMC.out]; rfl)
          have q4 := (blk_cell (MB.out _ B3.out) 4).trans (show _ = some (Value.string x.f4) by rw [HMC.out]; rfl)
          have q17 := (blk_cell (MB.out _ B3.out) 17).trans (show _ = some (Value.string x.f16) by rw [HMC.out]; rfl)
          go_wp2_with fail
          refine (key_e x.f16 _ (HX.out.key hk.out).2 (HX.out.key hk.out).1).mono ?_
          rintro e w5 ⟨rfl, hb⟩
          have B5 := Aside0.mk (below_step B3.out hb); clear hb B3 q4 q17 q15
          have q9 := (blk_cell (MB.out _ B5.out) 9).trans (show _ = some (Value.string x.f9) by rw [HMC.out]; rfl)
          go_wp2_with fail
          refine (small_e x.f9 8 _ HZ.out.z9 (plain_small HX.out.ter)).mono ?_
          rintro e w6 ⟨rfl, hb⟩
          have B6 := Aside0.mk (below_step B5.out hb); clear hb B5 q9
          have q8 := (blk_cell (MB.out _ B6.out) 8).trans (show _ = some (Value.string x.f8) by rw [HMC.out]; rfl)
          go_wp2_with fail
          refine (small_e x.f8 15 _ HZ.out.z8 (plain_small HX.out.mer)).mono ?_
          rintro e w7 ⟨rfl, hb⟩
          have B7 := Aside0.mk (below_step B6.out hb); clear hb B6 q8
          have q20 := (blk_cell (MB.out _ B7.out) 20).trans (show _ = some (Value.slice A20 x.f19.length c20) by rw [HMC.out]; rfl)
          have q3 := (blk_cell (MB.out _ B7.out) 3).trans (show _ = some (Value.string x.f3) by rw [HMC.out]; rfl)
          go_wp2_with fail
          go_meet
          exact ⟨by first | rfl | trivial, B7⟩
    · skip
      have ho1 : (x.f14.f1.toList == ([] : List UInt8)) = false := beq_eq_false_iff_ne.mpr ho
      have ho2 : x.f14.f1.toList.isEmpty = false := by cases h : x.f14.f1.toList with | nil => exact absurd h ho | cons a b => rfl
      replace ho := Aside0.mk ho
      by_cases hp : x.f4.toList = []
      · skip
        have hp1 : (x.f4.toList == ([] : List UInt8)) = true := beq_iff_eq.mpr hp
        have hp2 : x.f4.toList.isEmpty = true := by rw [hp]; rfl
        replace hp := Aside0.mk hp
        by_cases hk : x.f16.toList = []
        · skip
          have hk1 : (x.f16.toList == ([] : List UInt8)) = true := beq_iff_eq.mpr hk
          have hk2 : x.f16.toList.isEmpty = true := by rw [hk]; rfl
          replace hk := Aside0.mk hk
          have B1 := B0
          go_wp2_with (first | ((with_reducible refine gate_dst (N := 5) rfl ?_); refine wpList_load_row rfl 29 (.tmp 1) rfl p1 rfl 29 mc (0, 0) _ (MB.out _ B1.out) hu29.out rfl HI.out ?_))
          rw [HMC.out]
          refine (numbers_e x A16 c16 A19 c19 A20 c20 _ HX.out.inn (bact HX.out) HG.out.1 (Kd.C_below HG.out.2.1 BW.out)).mono ?_
          rintro e w1 ⟨rfl, hb⟩
          rw [← HMC.out]
          have B2 := Aside0.mk (below_step B1.out hb); clear hb B1
          have q2 := (blk_cell (MB.out _ B2.out) 2).trans (show _ = some (Value.string x.f2) by rw [HMC.out]; rfl)
          have q6 := (blk_cell (MB.out _ B2.out) 6).trans (show _ = some (Value.int .u64 x.f6) by rw [HMC.out]; rfl)
          go_wp2_with fail
          refine (time_e x.f2 _ HZ.out.z2).mono ?_
          rintro e w2 ⟨rfl, hb⟩
          rw [HX.out.time]
          have B3 := Aside0.mk (below_step B2.out hb.below); clear hb B2 q2 q6
          have q15 := (blk_cell (MB.out _ B3.out) 15).trans (show _ = some (Value.string x.f14.f1) by rw [HMC.out]; rfl)
          go_wp2_with fail
          refine (time_e x.f14.f1 _ (by have := HZ.out.z14; omega)).mono ?_
          rintro e w3 ⟨rfl, hb⟩
          rw [HX.out.org ho.out]
          have B4 := Aside0.mk (below_step B3.out hb.below); clear hb B3 q15
          have q4 := (blk_cell (MB.out _ B4.out) 4).trans (show _ = some (Value.string x.f4) by rw [HMC.out]; rfl)
          have q17 := (blk_cell (MB.out _ B4.out) 17).trans (show _ = some (Value.string x.f16) by rw [HMC.out]; rfl)
          have q9 := (blk_cell (MB.out _ B4.out) 9).trans (show _ = some (Value.string x.f9) by rw [HMC.out]; rfl)
          go_wp2_with fail
          refine (small_e x.f9 8 _ HZ.out.z9 (plain_small HX.out.ter)).mono ?_
          rintro e w6 ⟨rfl, hb⟩
          have B6 := Aside0.mk (below_step B4.out hb); clear hb B4 q9 q4 q17
          have q8 := (blk_cell (MB.out _ B6.out) 8).trans (show _ = some (Value.string x.f8) by rw [HMC.out]; rfl)
          go_wp2_with fail
          refine (small_e x.f8 15 _ HZ.out.z8 (plain_small HX.out.mer)).mono ?_
          rintro e w7 ⟨rfl, hb⟩
          have B7 := Aside0.mk (below_step B6.out hb); clear hb B6 q8
          have q20 := (blk_cell (MB.out _ B7.out) 20).trans (show _ = some (Value.slice A20 x.f19.length c20) by rw [HMC.out]; rfl)
          have q3 := (blk_cell (MB.out _ B7.out) 3).trans (show _ = some (Value.string x.f3) by rw [HMC.out]; rfl)
          go_wp2_with fail
          go_meet
          exact ⟨by first | rfl | trivial, B7⟩
        · skip
          have hk1 : (x.f16.toList == ([] : List UInt8)) = false := beq_eq_false_iff_ne.mpr hk
          have hk2 : x.f16.toList.isEmpty = false := by cases h : x.f16.toList with | nil => exact absurd h hk | cons a b => rfl
          replace hk := Aside0.mk hk
          have B1 := B0
          go_wp2_with (first | ((with_reducible refine gate_dst (N := 5) rfl ?_); refine wpList_load_row rfl 29 (.tmp 1) rfl p1 rfl 29 mc (0, 0) _ (MB.out _ B1.out) hu29.out rfl HI.out ?_))
          rw [HMC.out]
          refine (numbers_e x A16 c16 A19 c19 A20 c20 _ HX.out.inn (bact HX.out) HG.out.1 (Kd.C_below HG.out.2.1 BW.out)).mono ?_
          rintro e w1 ⟨rfl, hb⟩
          rw [← HMC.out]
          have B2 := Aside0.mk (below_step B1.out hb); clear hb B1
          have q2 := (blk_cell (MB.out _ B2.out) 2).trans (show _ = some (Value.string x.f2) by rw [HMC.out]; rfl)
          have q6 := (blk_cell (MB.out _ B2.out) 6).trans (show _ = some (Value.int .u64 x.f6) by rw [HMC.out]; rfl)
          go_wp2_with fail
          refine (time_e x.f2 _ HZ.out.z2).mono ?_
          rintro e w2 ⟨rfl, hb⟩
          rw [HX.out.time]
          have B3 := Aside0.mk (below_step B2.out hb.below); clear hb B2 q2 q6
          have q15 := (blk_cell (MB.out _ B3.out) 15).trans (show _ = some (Value.string x.f14.f1) by rw [HMC.out]; rfl)
          go_wp2_with fail
          refine (time_e x.f14.f1 _ (by have := HZ.out.z14; omega)).mono ?_
          rintro e w3 ⟨rfl, hb⟩
          rw [HX.out.org ho.out]
          have B4 := Aside0.mk (below_step B3.out hb.below); clear hb B3 q15
          have q4 := (blk_cell (MB.out _ B4.out) 4).trans (show _ = some (Value.string x.f4) by rw [HMC.out]; rfl)
          have q17 := (blk_cell (MB.out _ B4.out) 17).trans (show _ = some (Value.string x.f16) by rw [HMC.out]; rfl)
          go_wp2_with fail
          refine (key_e x.f16 _ (HX.out.key hk.out).2 (HX.out.key hk.out).1).mono ?_
          rintro e w5 ⟨rfl, hb⟩
          have B5 := Aside0.mk (below_step B4.out hb); clear hb B4 q4 q17
          have q9 := (blk_cell (MB.out _ B5.out) 9).trans (show _ = some (Value.string x.f9) by rw [HMC.out]; rfl)
          go_wp2_with fail
          refine (small_e x.f9 8 _ HZ.out.z9 (plain_small HX.out.ter)).mono ?_
          rintro e w6 ⟨rfl, hb⟩
          have B6 := Aside0.mk (below_step B5.out hb); clear hb B5 q9
          have q8 := (blk_cell (MB.out _ B6.out) 8).trans (show _ = some (Value.string x.f8) by rw [HMC.out]; rfl)
          go_wp2_with fail
          refine (small_e x.f8 15 _ HZ.out.z8 (plain_small HX.out.mer)).mono ?_
          rintro e w7 ⟨rfl, hb⟩
          have B7 := Aside0.mk (below_step B6.out hb); clear hb B6 q8
          have q20 := (blk_cell (MB.out _ B7.out) 20).trans (show _ = some (Value.slice A20 x.f19.length c20) by rw [HMC.out]; rfl)
          have q3 := (blk_cell (MB.out _ B7.out) 3).trans (show _ = some (Value.string x.f3) by rw [HMC.out]; rfl)
          go_wp2_with fail
          go_meet
          exact ⟨by first | rfl | trivial, B7⟩
      · skip
        have hp1 : (x.f4.toList == ([] : List UInt8)) = false := beq_eq_false_iff_ne.mpr hp
        have hp2 : x.f4.toList.isEmpty = false := by cases h : x.f4.toList with | nil => exact absurd h hp | cons a b => rfl
        replace hp := Aside0.mk hp
        by_cases hk : x.f16.toList = []
        · skip
          have hk1 : (x.f16.toList == ([] : List UInt8)) = true := beq_iff_eq.mpr hk
          have hk2 : x.f16.toList.isEmpty = true := by rw [hk]; rfl
          replace hk := Aside0.mk hk
          have pl : 12 ≤ (x.f4.size : Int) := (right_iff.1 (HX.out.pan hp.out)).2.1
          have B1 := B0
          go_wp2_with (first | ((with_reducible refine gate_dst (N := 5) rfl ?_); refine wpList_load_row rfl 29 (.tmp 1) rfl p1 rfl 29 mc (0, 0) _ (MB.out _ B1.out) hu29.out rfl HI.out ?_))
          rw [HMC.out]
          refine (numbers_e x A16 c16 A19 c19 A20 c20 _ HX.out.inn (bact HX.out) HG.out.1 (Kd.C_below HG.out.2.1 BW.out)).mono ?_
          rintro e w1 ⟨rfl, hb⟩
          rw [← HMC.out]
          have B2 := Aside0.mk (below_step B1.out hb); clear hb B1
          have q2 := (blk_cell (MB.out _ B2.out) 2).trans (show _ = some (Value.string x.f2) by rw [HMC.out]; rfl)
          have q6 := (blk_cell (MB.out _ B2.out) 6).trans (show _ = some (Value.int .u64 x.f6) by rw [HMC.out]; rfl)
          go_wp2_with fail
          refine (time_e x.f2 _ HZ.out.z2).mono ?_
          rintro e w2 ⟨rfl, hb⟩
          rw [HX.out.time]
          have B3 := Aside0.mk (below_step B2.out hb.below); clear hb B2 q2 q6
          have q15 := (blk_cell (MB.out _ B3.out) 15).trans (show _ = some (Value.string x.f14.f1) by rw [HMC.out]; rfl)
          go_wp2_with fail
          refine (time_e x.f14.f1 _ (by have := HZ.out.z14; omega)).mono ?_
          rintro e w3 ⟨rfl, hb⟩
          rw [HX.out.org ho.out]
          have B4 := Aside0.mk (below_step B3.out hb.below); clear hb B3 q15
          have q4 := (blk_cell (MB.out _ B4.out) 4).trans (show _ = some (Value.string x.f4) by rw [HMC.out]; rfl)
          have q17 := (blk_cell (MB.out _ B4.out) 17).trans (show _ = some (Value.string x.f16) by rw [HMC.out]; rfl)
          have q9 := (blk_cell (MB.out _ B4.out) 9).trans (show _ = some (Value.string x.f9) by rw [HMC.out]; rfl)
          go_wp2_with fail
          refine (small_e x.f9 8 _ HZ.out.z9 (plain_small HX.out.ter)).mono ?_
          rintro e w6 ⟨rfl, hb⟩
          have B6 := Aside0.mk (below_step B4.out hb); clear hb B4 q9 q4 q17
          have q8 := (blk_cell (MB.out _ B6.out) 8).trans (show _ = some (Value.string x.f8) by rw [HMC.out]; rfl)
          go_wp2_with fail
          refine (small_e x.f8 15 _ HZ.out.z8 (plain_small HX.out.mer)).mono ?_
          rintro e w7 ⟨rfl, hb⟩
          have B7 := Aside0.mk (below_step B6.out hb); clear hb B6 q8
          have q20 := (blk_cell (MB.out _ B7.out) 20).trans (show _ = some (Value.slice A20 x.f19.length c20) by rw [HMC.out]; rfl)
          have q3 := (blk_cell (MB.out _ B7.out) 3).trans (show _ = some (Value.string x.f3) by rw [HMC.out]; rfl)
          go_wp2_with fail
          go_meet
          exact ⟨by first | rfl | trivial, B7⟩
        · skip
          have hk1 : (x.f16.toList == ([] : List UInt8)) = false := beq_eq_false_iff_ne.mpr hk
          have hk2 : x.f16.toList.isEmpty = false := by cases h : x.f16.toList with | nil => exact absurd h hk | cons a b => rfl
          replace hk := Aside0.mk hk
          have pl : 12 ≤ (x.f4.size : Int) := (right_iff.1 (HX.out.pan hp.out)).2.1
          have B1 := B0
          go_wp2_with (first | ((with_reducible refine gate_dst (N := 5) rfl ?_); refine wpList_load_row rfl 29 (.tmp 1) rfl p1 rfl 29 mc (0, 0) _ (MB.out _ B1.out) hu29.out rfl HI.out ?_))
          rw [HMC.out]
          refine (numbers_e x A16 c16 A19 c19 A20 c20 _ HX.out.inn (bact HX.out) HG.out.1 (Kd.C_below HG.out.2.1 BW.out)).mono ?_
          rintro e w1 ⟨rfl, hb⟩
          rw [← HMC.out]
          have B2 := Aside0.mk (below_step B1.out hb); clear hb B1
          have q2 := (blk_cell (MB.out _ B2.out) 2).trans (show _ = some (Value.string x.f2) by rw [HMC.out]; rfl)
          have q6 := (blk_cell (MB.out _ B2.out) 6).trans (show _ = some (Value.int .u64 x.f6) by rw [HMC.out]; rfl)
          go_wp2_with fail
          refine (time_e x.f2 _ HZ.out.z2).mono ?_
          rintro e w2 ⟨rfl, hb⟩
          rw [HX.out.time]
          have B3 := Aside0.mk (below_step B2.out hb.below); clear hb B2 q2 q6
          have q15 := (blk_cell (MB.out _ B3.out) 15).trans (show _ = some (Value.string x.f14.f1) by rw [HMC.out]; rfl)
          go_wp2_with fail
          refine (time_e x.f14.f1 _ (by have := HZ.out.z14; omega)).mono ?_
          rintro e w3 ⟨rfl, hb⟩
          rw [HX.out.org ho.out]
          have B4 := Aside0.mk (below_step B3.out hb.below); clear hb B3 q15
          have q4 := (blk_cell (MB.out _ B4.out) 4).trans (show _ = some (Value.string x.f4) by rw [HMC.out]; rfl)
          have q17 := (blk_cell (MB.out _ B4.out) 17).trans (show _ = some (Value.string x.f16) by rw [HMC.out]; rfl)
          go_wp2_with fail
          refine (key_e x.f16 _ (HX.out.key hk.out).2 (HX.out.key hk.out).1).mono ?_
          rintro e w5 ⟨rfl, hb⟩
          have B5 := Aside0.mk (below_step B4.out hb); clear hb B4 q4 q17
          have q9 := (blk_cell (MB.out _ B5.out) 9).trans (show _ = some (Value.string x.f9) by rw [HMC.out]; rfl)
          go_wp2_with fail
          refine (small_e x.f9 8 _ HZ.out.z9 (plain_small HX.out.ter)).mono ?_
          rintro e w6 ⟨rfl, hb⟩
          have B6 := Aside0.mk (below_step B5.out hb); clear hb B5 q9
          have q8 := (blk_cell (MB.out _ B6.out) 8).trans (show _ = some (Value.string x.f8) by rw [HMC.out]; rfl)
          go_wp2_with fail
          refine (small_e x.f8 15 _ HZ.out.z8 (plain_small HX.out.mer)).mono ?_
          rintro e w7 ⟨rfl, hb⟩
          have B7 := Aside0.mk (below_step B6.out hb); clear hb B6 q8
          have q20 := (blk_cell (MB.out _ B7.out) 20).trans (show _ = some (Value.slice A20 x.f19.length c20) by rw [HMC.out]; rfl)
          have q3 := (blk_cell (MB.out _ B7.out) 3).trans (show _ = some (Value.string x.f3) by rw [HMC.out]; rfl)
          go_wp2_with fail
          go_meet
          exact ⟨by first | rfl | trivial, B7⟩
  case rest =>
    clear B0
    obtain ⟨rfl, B0⟩ := hcut
    go_wp2_with fail
    go_loopg [3, 4] x.f19.length (fun gg s3 s4 wr => ∃ k : Nat, k ≤ x.f19.length ∧ x.f19.length - k ≤ gg ∧ s3 = .bool true ∧ s4 = .int .i64 k ∧ Aside0 (Below w0.heap.size w0 wr))
    case atStart => exact ⟨0, by omega, by omega, rfl, rfl, B0⟩
    case round =>
      obtain ⟨k, hk, hg, rfl, rfl, BR⟩ := hrel
      have ek : wrap64 ((k : Int) + 1) = ((k + 1 : Nat) : Int) := by have := HO.out.len; unfold wrap64; omega
      have EK := Aside0.mk ek; clear ek
      have q20 := (blk_cell (MB.out _ BR.out) 20).trans (show _ = some (Value.slice A20 x.f19.length c20) by rw [HMC.out]; rfl)
      by_cases hlt : k < x.f19.length
      · have hltz : (k : Int) < (x.f19.length : Int) := by omega
        obtain ⟨ad, A1, d1, eA, a0, -, -, -⟩ := at_T50 (Kd.C_below GB.out BR.out) (k : Int) (by omega) (by omega)
        rw [Int.toNat_natCast, el_get hlt] at a0
        obtain ⟨n, hn⟩ : ∃ n, n = x.f19[k].f0 := ⟨_, rfl⟩
        rw [← hn] at a0
        have HS : Aside0 (spareF n = true) := ⟨by rw [hn]; exact HO.out.spare _ (List.getElem_mem hlt)⟩
        have HN := Aside0.mk hn; clear hn
        by_cases k0 : k = 0
        · have k0b : ((k : Int) == 0) = true := beq_iff_eq.mpr (by omega)
          replace k0 := Aside0.mk k0
          subst eA
          go_wp2_with fail
          go_quiet (first | (go_at_call 47; (with_reducible refine (spare_yes n _ HS.out).mono ?_); rintro e w' ⟨rfl, ⟨nd, rfl⟩⟩; (try first | exact ⟨rfl, _, World.drewN_drewN _ _ _⟩ | exact ⟨rfl, _, Eq.trans (World.drewN_drewN _ _ _) (congrArg (World.drewN _) (Nat.add_assoc _ _ _))⟩)))
          go_wp2_with fail
          go_roundg (x.f19.length - (k + 1))
          case measure => omega
          case rel => exact ⟨k + 1, by omega, Nat.le_refl _, by first | rfl | trivial, by first | rfl | rw [EK.out], ⟨by (with_reducible repeat (first | exact BR.out | apply pw_below_drewN | apply below_drew1))⟩⟩
        · have k0b : ((k : Int) == 0) = false := beq_eq_false_iff_ne.mpr (by omega)
          obtain ⟨j, hj⟩ : ∃ j, k = j + 1 := ⟨k - 1, by omega⟩
          have hj1 : j < x.f19.length := by omega
          obtain ⟨ad', A1', d1', eA', a0', -, -, -⟩ := at_T50 (Kd.C_below GB.out BR.out) (j : Int) (by omega) (by omega)
          obtain rfl : ad = ad' := Option.some.inj (eA.symm.trans eA')
          rw [Int.toNat_natCast, el_get hj1] at a0'
          obtain ⟨n', hn'⟩ : ∃ n, n = x.f19[j].f0 := ⟨_, rfl⟩
          rw [← hn'] at a0'
          have hgt : n' < n := by rw [hn', HN.out]; exact List.pairwise_iff_getElem.1 HO.out.asc j k hj1 hlt (by omega)
          have HN' := Aside0.mk hn'; clear hn'
          have em : wrap64 ((k : Int) - 1) = (j : Int) := by have := HO.out.len; unfold wrap64; omega
          have em2 : (k : Int) - 1 = (j : Int) := by omega
          have em3 : wrap64 (j : Int) = (j : Int) := by have := HO.out.len; unfold wrap64; omega
          have em4 : IntKind.i64.wrap (j : Int) = (j : Int) := by simp only [i64_w]; exact em3
          have hkz : (j : Int) < (x.f19.length : Int) := by omega
          replace hj := Aside0.mk hj
          clear eA'
          subst eA
          go_wp2_with fail
          go_quiet (first | (go_at_call 47; (with_reducible refine (spare_yes n _ HS.out).mono ?_); rintro e w' ⟨rfl, ⟨nd, rfl⟩⟩; (try first | exact ⟨rfl, _, World.drewN_drewN _ _ _⟩ | exact ⟨rfl, _, Eq.trans (World.drewN_drewN _ _ _) (congrArg (World.drewN _) (Nat.add_assoc _ _ _))⟩)))
          go_wp2_with fail
          go_roundg (x.f19.length - (k + 1))
          case measure => omega
          case rel => exact ⟨k + 1, by omega, Nat.le_refl _, by first | rfl | trivial, by first | rfl | rw [EK.out], ⟨by (with_reducible repeat (first | exact BR.out | apply pw_below_drewN | apply below_drew1))⟩⟩
      · have hltz : ¬ (k : Int) < (x.f19.length : Int) := by omega
        have BE := Aside0.mk (below_step BW.out BR.out)
        go_wp2_with fail
        go_ret
        exact ⟨rfl, BE.out⟩
/-- A message that bits may say, but for its length. -/
structure BOK (x : S29) : Prop where
  fit : FitsOK x
  good : BGood x
  oth : OthOK x.f19
  note : x.f17.toList = []
  ext : x.f18 = []
theorem mti_right {k : Int} (h : 1 ≤ k ∧ k ≤ 11) : rightF (rowOf k).f1 4 4 = true := by
  obtain ⟨h1, h2⟩ := h
  obtain rfl | rfl | rfl | rfl | rfl | rfl | rfl | rfl | rfl | rfl | rfl : k = 1 ∨ k = 2 ∨ k = 3 ∨ k = 4 ∨ k = 5 ∨ k = 6 ∨ k = 7 ∨ k = 8 ∨ k = 9 ∨ k = 10 ∨ k = 11 := by omega
  all_goals kernel_rfl
theorem els_asc {top : Int} {L : List S50} (h : Els top L) : Asc L := h.asc
theorem merge_good {a b L : List S50} (h : MG a b a.length b.length L) (ha : Els 56 a) (hb : OthOK b) : L.length ≤ 200 ∧ Asc L ∧ ∀ y ∈ L, ElemOK y := by
  refine ⟨by have := h.len; have := ha.len; have := hb.len; omega, h.asc, fun y hy => ?_⟩
  rcases h.mem y hy with q | q
  · exact (ha.each y q).1
  · exact hb.ok y q
def T28_8 : Bool × List (List Nat × List Nat) := (true, [([], []), ([0], [0]), ([1], [1]), ([], []), ([3, 2], [3]), ([], []), ([5], [5]), ([4, 6, 4], [4, 6]), ([2, 7], [2, 7]), ([8, 7], [8]), ([9], [9]), ([10], [10]), ([10], [10]), ([11, 9, 0, 1, 2, 3, 4, 5, 6, 7, 8, 9, 10, 11], [11]), ([12, 13, 0, 1, 2, 3, 4, 5, 6, 7, 8, 9, 10, 11, 12, 13], [12])])
def B28_8 : List Nat := [0, 1, 3, 0, 15, 0, 32, 127, 255, 511, 1023, 2047, 2047, 4095, 16383]
theorem tab28_8 : rtab .any (opsOf Tryz.f28 8) = T28_8 := by kernel_rfl
theorem bits28_8 : waitsOk T28_8.2 B28_8 = true := by kernel_rfl
set_option maxHeartbeats 16000000 in
set_option maxRecDepth 100000 in
theorem encB_e (x : S29) (A16 : Option Addr) (c16 : Nat) (A19 : Option Addr) (c19 : Nat) (A20 : Option Addr) (c20 : Nat) (w : World) (hF : BOK x) (l16 : x.f15.length ≤ c16) (g16 : k46.C w A16 x.f15.length x.f15) (l19 : x.f18.length ≤ c19) (g19 : k48.C w A19 x.f18.length x.f18) (l20 : x.f19.length ≤ c20) (g20 : k50.C w A20 x.f19.length x.f19) :
    Calls Tryz.prog 28 #[.agg (rowM x (.slice A16 x.f15.length c16) (.slice A19 x.f18.length c19) (.slice A20 x.f19.length c20))] w (PackEnd w) := by
  have HX := Aside0.mk hF
  have HG := Aside0.mk (And.intro l16 (And.intro g16 (And.intro l19 (And.intro g19 (And.intro l20 g20)))))
  clear hF l16 g16 l19 g19 l20 g20
  have hu29 := Aside0.mk Tryz.underlying29
  have hu104 := Tryz.underlying104
  go_enter Tryz.func28, Tryz.ntmps28
  go_upto_region 1 with fail
  obtain ⟨mc, hmc⟩ : ∃ m, m = rowM x (.slice A16 x.f15.length c16) (.slice A19 x.f18.length c19) (.slice A20 x.f19.length c20) := ⟨_, rfl⟩
  rw [← hmc]
  have HMC := Aside0.mk hmc
  have HI := Aside0.mk (show (Tryz.prog.info? 29).map (·.size) = some mc.size by rw [hmc]; exact info29m x _ _ _)
  clear hmc
  obtain ⟨p1, hp1⟩ : ∃ p, p = w.heap.size := ⟨_, rfl⟩
  have J0 : (w.alloc (.cells mc 29)).heap[w.heap.size]? = some (.cells mc 29 (0, 0)) ∧ Below w.heap.size w (w.alloc (.cells mc 29)) := ⟨blk_new w _, below_alloc (Below.refl _ w) _⟩
  rw [← hp1] at J0 ⊢
  revert J0
  generalize w.alloc (.cells mc 29) = w0
  intro J0
  have BW := Aside0.mk (show Below w.heap.size w w0 by rw [← hp1]; exact J0.2)
  have MB : Aside0 (∀ W, Below w0.heap.size w0 W → W.heap[p1]? = some (.cells mc 29 (0, 0))) := ⟨fun W hW => blk_below J0.1 hW⟩
  have GB : Aside0 (∀ W, Below w0.heap.size w0 W → k46.C W A16 x.f15.length x.f15 ∧ k48.C W A19 x.f18.length x.f18 ∧ k50.C W A20 x.f19.length x.f19) := ⟨fun W hW => ⟨Kd.C_below (Kd.C_below HG.out.2.1 BW.out) hW, Kd.C_below (Kd.C_below HG.out.2.2.2.1 BW.out) hW, Kd.C_below (Kd.C_below HG.out.2.2.2.2.2 BW.out) hW⟩⟩
  have B0 := Aside0.mk (Below.refl w0.heap.size w0)
  clear J0 hp1
  go_wp2_with (first | ((with_reducible refine gate_dst (N := 7) rfl ?_); refine wpList_load_row rfl 29 (.tmp 1) rfl p1 rfl 29 mc (0, 0) _ (MB.out _ B0.out) hu29.out rfl HI.out ?_))
  rw [HMC.out]
  refine (fits_e x A16 c16 A19 c19 A20 c20 _ HX.out.fit HG.out.1 (GB.out _ B0.out).1 HG.out.2.2.1 (GB.out _ B0.out).2.1 HG.out.2.2.2.2.1 (GB.out _ B0.out).2.2).mono ?_
  rintro e w1 ⟨rfl, hb⟩
  rw [← HMC.out]
  have B1 := Aside0.mk (below_step B0.out hb)
  clear hb B0
  have q18 := (blk_cell (MB.out _ B1.out) 18).trans (show _ = some (Value.string x.f17) by rw [HMC.out]; rfl)
  have q19 := (blk_cell (MB.out _ B1.out) 19).trans (show _ = some (Value.slice A19 0 c19) by rw [HMC.out]; show some (Value.slice A19 x.f18.length c19) = _; rw [HX.out.ext]; rfl)
  have n1 : (x.f17.toList != ([] : List UInt8)) = false := bne_eq_false_iff_eq.mpr HX.out.note
  have n2 : x.f17.toList.isEmpty = true := by rw [HX.out.note]; rfl
  go_wp2_with (first | ((with_reducible refine gate_dst (N := 24) rfl ?_); refine wpList_load_row rfl 29 (.tmp 1) rfl p1 rfl 29 mc (0, 0) _ (MB.out _ B1.out) hu29.out rfl HI.out ?_))
  rw [HMC.out]
  refine (may_e x A16 c16 A19 c19 A20 c20 _ HX.out.good HX.out.oth HG.out.1 (GB.out _ B1.out).1 (GB.out _ B1.out).2.2).mono ?_
  rintro e w2 ⟨rfl, hb⟩
  rw [← HMC.out]
  have B2 := Aside0.mk (below_step B1.out hb)
  clear hb B1 q18 q19 n1 n2
  go_upto_region 8 with fail
  have BX := Aside0.mk (below_drew1 B2.out)
  refine start_ (n := 15) (ds := []) (S := fun w' => w'.heap[p1]? = some (.cells mc 29 (0, 0)) ∧ w'.cell? ⟨p1, 0, none⟩ = some (.int .i64 x.f0) ∧ w'.cell? ⟨p1, 20, none⟩ = some (.slice A20 x.f19.length c20)) (V 15 0) (by rfl) (by rfl) (by kernel_rfl) (⟨MB.out _ BX.out, (blk_cell (MB.out _ BX.out) 0).trans (by rw [HMC.out]; rfl), (blk_cell (MB.out _ BX.out) 20).trans (by rw [HMC.out]; rfl)⟩) (fun hHeld => ?_); refine with_tabW tab28_8 bits28_8 (fun HT_ HW_ => ?_)
  generalize w2.drew = wd at BX hHeld ⊢
  refine pure_ (i := 0) (N := some 28) (v := ?_) (a' := ?_) (V 15 1) rfl rfl (any_of HT_.out (by kernel_rfl)) (fun _ _ _ h => h) (Or.inl ⟨by rfl, ?_⟩) ?_ ?_; rotate_left
  · intro w'; go_simp; with_reducible rfl
  rotate_left
  · simp only [Act.put, List.setIfInBounds_toArray, List.set_cons_zero, List.set_cons_succ, i64_w, i32_w]; rfl
  refine take_ (i := 1) (N := some 29) (v := ?_) (a' := ?_) (V 15 3) rfl rfl (take_ofW HT_.out HW_.out (by kernel_rfl)) (fun _ _ _ h => h) (Or.inl ⟨by rfl, ?_⟩) hHeld ?_ ?_; rotate_left
  · rintro w' ⟨-, s1, -⟩; go_simp; with_reducible rfl
  rotate_left
  · simp only [Act.put, List.setIfInBounds_toArray, List.set_cons_zero, List.set_cons_succ, i64_w, i32_w]; rfl
  refine take_ (i := 3) (N := some 31) (v := .agg mc) (a' := ?_) (V 15 11) rfl rfl (take_ofW HT_.out HW_.out (by kernel_rfl)) (fun _ _ _ h => h) (Or.inl ⟨by rfl, fun w' hs => Go.Proofs.YthapknnppabdaaaGreat.Fill.row_yields 29 _ rfl p1 rfl 29 _ (0, 0) _ hs.1 hu29.out rfl HI.out⟩) hHeld ?_ ?_; rotate_left
  · simp only [Act.put, List.setIfInBounds_toArray, List.set_cons_zero, List.set_cons_succ, i64_w, i32_w]; rfl
  refine pure_ (i := 5) (N := some 33) (v := ?_) (a' := ?_) (V 15 43) rfl rfl (any_of HT_.out (by kernel_rfl)) (fun _ _ _ h => h) (Or.inl ⟨by rfl, ?_⟩) ?_ ?_; rotate_left
  · intro w'; go_simp; with_reducible rfl
  rotate_left
  · simp only [Act.put, List.setIfInBounds_toArray, List.set_cons_zero, List.set_cons_succ, i64_w, i32_w]; rfl
  refine take_ (i := 6) (N := some 34) (v := ?_) (a' := ?_) (V 15 107) rfl rfl (take_ofW HT_.out HW_.out (by kernel_rfl)) (fun _ _ _ h => h) (Or.inl ⟨by rfl, ?_⟩) hHeld ?_ ?_; rotate_left
  · rintro w' ⟨-, -, s2⟩; go_simp; with_reducible rfl
  rotate_left
  · simp only [Act.put, List.setIfInBounds_toArray, List.set_cons_zero, List.set_cons_succ, i64_w, i32_w]; rfl
  refine one_ (i := 2) (N := some 30) (V 15 111) rfl rfl (one_of HT_.out (by kernel_rfl)) (by decide) (fun K hK => ?_)
  refine goes_ Tryz.func59 (by kernel_rfl) rfl #[.int .i64 x.f0] (by rfl) rfl rfl (by (try simp only [List.map_toArray, List.map_cons, List.map_nil]); first | done | rfl) ?_
  with_reducible refine (mti_e x.f0 _).mono ?_
  rintro e w102 ⟨rfl, hb⟩
  refine ⟨_, rfl, ?_⟩
  replace BX := Aside0.mk (below_step BX.out hb); clear hb
  refine hK.out _ _ (⟨MB.out _ BX.out, (blk_cell (MB.out _ BX.out) 0).trans (by rw [HMC.out]; rfl), (blk_cell (MB.out _ BX.out) 20).trans (by rw [HMC.out]; rfl)⟩) (fun hHeld => ?_)
  clear hK K
  refine norm_ (a' := ?_) ?_ ?_; rotate_left
  · show Act.put _ (some 30) _ = _; simp only [Act.put, List.setIfInBounds_toArray, List.set_cons_zero, List.set_cons_succ, i64_w, i32_w]; rfl
  refine one_ (i := 4) (N := some 32) (V 15 127) rfl rfl (one_of HT_.out (by kernel_rfl)) (by decide) (fun K hK => ?_)
  refine goes_ Tryz.func61 (by kernel_rfl) rfl #[.agg mc] (by rfl) rfl rfl (by (try simp only [List.map_toArray, List.map_cons, List.map_nil]); first | done | rfl) ?_
  with_reducible refine ((by rw [HMC.out]; exact elements_e x A16 c16 A19 c19 A20 c20 _ HX.out.good HG.out.1 (GB.out _ BX.out).1 : Calls Tryz.prog 61 #[.agg mc] _ (ElsEnd _))).mono ?_
  rintro e w104 ⟨LA, AA, cA, rfl, hE, hcA, hCA, hb⟩
  refine ⟨_, rfl, ?_⟩
  have HEL := Aside0.mk (And.intro hE (And.intro hcA hCA)); clear hE hcA hCA
  replace BX := Aside0.mk (below_step BX.out hb); clear hb
  refine hK.out _ _ (⟨MB.out _ BX.out, (blk_cell (MB.out _ BX.out) 0).trans (by rw [HMC.out]; rfl), (blk_cell (MB.out _ BX.out) 20).trans (by rw [HMC.out]; rfl)⟩) (fun hHeld => ?_)
  clear hK K
  refine norm_ (a' := ?_) ?_ ?_; rotate_left
  · show Act.put _ (some 32) _ = _; simp only [Act.put, List.setIfInBounds_toArray, List.set_cons_zero, List.set_cons_succ, i64_w, i32_w]; rfl
  refine one_ (i := 7) (N := some 35) (V 15 255) rfl rfl (one_of HT_.out (by kernel_rfl)) (by decide) (fun K hK => ?_)
  refine goes_ Tryz.func60 (by kernel_rfl) rfl #[.slice AA LA.length cA, .slice A20 x.f19.length c20] (by rfl) rfl rfl (by (try simp only [List.map_toArray, List.map_cons, List.map_nil]); first | done | rfl) ?_
  with_reducible refine (merged_e AA cA LA A20 c20 x.f19 _ HEL.out.2.2 (GB.out _ BX.out).2.2 (by have := HEL.out.1.len; omega) (by have := HX.out.oth.len; omega) (els_asc HEL.out.1) HX.out.oth.asc (fun a ha b hb q => by have h1 := (HEL.out.1.each a ha).2.2; have h2 := HX.out.oth.spare b hb; rw [q, h2] at h1; cases h1)).mono ?_
  rintro e w107 ⟨LM, AM, cM, rfl, hM, hcM, hCM, hb⟩
  refine ⟨_, rfl, ?_⟩
  have HMG := Aside0.mk (And.intro (merge_good hM HEL.out.1 HX.out.oth) (And.intro hcM hCM)); clear hM hcM hCM
  replace BX := Aside0.mk (below_step BX.out hb); clear hb
  refine hK.out _ _ (⟨MB.out _ BX.out, (blk_cell (MB.out _ BX.out) 0).trans (by rw [HMC.out]; rfl), (blk_cell (MB.out _ BX.out) 20).trans (by rw [HMC.out]; rfl)⟩) (fun hHeld => ?_)
  clear hK K
  refine norm_ (a' := ?_) ?_ ?_; rotate_left
  · show Act.put _ (some 35) _ = _; simp only [Act.put, List.setIfInBounds_toArray, List.set_cons_zero, List.set_cons_succ, i64_w, i32_w]; rfl
  refine pure_ (i := 8) (N := some 36) (v := ?_) (a' := ?_) (V 15 511) rfl rfl (any_of HT_.out (by kernel_rfl)) (fun _ _ _ h => h) (Or.inl ⟨by rfl, ?_⟩) ?_ ?_; rotate_left
  · intro w'; go_simp; with_reducible rfl
  rotate_left
  · simp only [Act.put, List.setIfInBounds_toArray, List.set_cons_zero, List.set_cons_succ, i64_w, i32_w]; rfl
  refine one_ (i := 9) (N := some 37) (V 15 1023) rfl rfl (one_of HT_.out (by kernel_rfl)) (by decide) (fun K hK => ?_)
  refine goes_ Tryz.func58 (by kernel_rfl) rfl #[.agg #[.string (rowOf x.f0).f1, .slice AM LM.length cM]] (by rfl) rfl rfl (by (try simp only [List.map_toArray, List.map_cons, List.map_nil]); first | done | rfl) ?_
  with_reducible refine (packIso_e (rowOf x.f0).f1 AM cM LM _ (mti_right HX.out.fit.kd) HMG.out.2.2 HMG.out.1.1 HMG.out.1.2.1 HMG.out.1.2.2).mono ?_
  rintro e w109 ⟨AR, nR, cR, f, rfl, hf, hb⟩
  refine ⟨_, rfl, ?_⟩
  have HF := Aside0.mk hf; clear hf
  replace BX := Aside0.mk (below_step BX.out hb); clear hb
  refine hK.out _ _ (⟨MB.out _ BX.out, (blk_cell (MB.out _ BX.out) 0).trans (by rw [HMC.out]; rfl), (blk_cell (MB.out _ BX.out) 20).trans (by rw [HMC.out]; rfl)⟩) (fun hHeld => ?_)
  clear hK K
  refine norm_ (a' := ?_) ?_ ?_; rotate_left
  · show Act.put _ (some 37) _ = _; simp only [Act.put, List.setIfInBounds_toArray, List.set_cons_zero, List.set_cons_succ, i64_w, i32_w]; rfl
  refine pure_ (i := 10) (N := some 27) (v := ?_) (a' := ?_) (V 15 2047) rfl rfl (any_of HT_.out (by kernel_rfl)) (fun _ _ _ h => h) (Or.inl ⟨by rfl, ?_⟩) ?_ ?_; rotate_left
  · intro w'; go_simp; with_reducible rfl
  rotate_left
  · simp only [Act.put, List.setIfInBounds_toArray, List.set_cons_zero, List.set_cons_succ, i64_w, i32_w]; rfl
  refine pure_ (i := 11) (N := some 38) (v := ?_) (a' := ?_) (V 15 4095) rfl rfl (any_of HT_.out (by kernel_rfl)) (fun _ _ _ h => h) (Or.inl ⟨by rfl, ?_⟩) ?_ ?_; rotate_left
  · intro w'; go_simp; with_reducible rfl
  rotate_left
  · simp only [Act.put, List.setIfInBounds_toArray, List.set_cons_zero, List.set_cons_succ, i64_w, i32_w]; rfl
  refine pure_ (i := 12) (N := some 39) (v := ?_) (a' := ?_) (V 15 8191) rfl rfl (any_of HT_.out (by kernel_rfl)) (fun _ _ _ h => h) (Or.inl ⟨by rfl, ?_⟩) ?_ ?_; rotate_left
  · intro w'; go_simp; with_reducible rfl
  rotate_left
  · simp only [Act.put, List.setIfInBounds_toArray, List.set_cons_zero, List.set_cons_succ, i64_w, i32_w]; rfl
  refine pure_ (i := 13) (N := some 5) (v := ?_) (a' := ?_) (V 15 16383) rfl rfl (any_of HT_.out (by kernel_rfl)) (fun _ _ _ h => h) (Or.inl ⟨by rfl, ?_⟩) ?_ ?_; rotate_left
  · intro w'; go_simp; with_reducible rfl
  rotate_left
  · simp only [Act.put, List.setIfInBounds_toArray, List.set_cons_zero, List.set_cons_succ, i64_w, i32_w]; rfl
  refine pure_ (i := 14) (N := some 6) (v := ?_) (a' := ?_) (V 15 32767) rfl rfl (any_of HT_.out (by kernel_rfl)) (fun _ _ _ h => h) (Or.inl ⟨by rfl, ?_⟩) ?_ ?_; rotate_left
  · intro w'; go_simp; with_reducible rfl
  rotate_left
  · simp only [Act.put, List.setIfInBounds_toArray, List.set_cons_zero, List.set_cons_succ, i64_w, i32_w]; rfl
  refine done_ (done_of HT_.out (by kernel_rfl)) ?_
  rcases HF.out with rfl | rfl
  · go_wp2_with fail
    go_ret2
    exact ⟨_, _, _, 0, rfl, .inl rfl, below_step BW.out BX.out⟩
  · go_wp2_with fail
    go_ret2
    exact ⟨_, _, _, 4, rfl, .inr rfl, below_step BW.out BX.out⟩
/-- Bytes come back, and whether it is said, of which this is known. -/
def EndS (P : Int → Prop) (w : World) (e : Ending) (w' : World) : Prop := ∃ (A : Option Addr) (n c : Nat) (f : Int), e = .returned (.tuple #[.slice A n c, .int .i64 f]) ∧ P f ∧ Below w.heap.size w w'
def XmlP (x : S29) (f : Int) : Prop := XSays x → f = 0 ∨ f = 4
def BitP (f : Int) : Prop := f = 0 ∨ f = 4
set_option maxHeartbeats 16000000 in
set_option maxRecDepth 100000 in
theorem side0_e (x : S29) (A16 : Option Addr) (c16 : Nat) (A19 : Option Addr) (c19 : Nat) (A20 : Option Addr) (c20 : Nat) (w : World) (hF : XOK x) (l16 : x.f15.length ≤ c16) (g16 : k46.C w A16 x.f15.length x.f15) (l19 : x.f18.length ≤ c19) (g19 : k48.C w A19 x.f18.length x.f18) (l20 : x.f19.length ≤ c20) (g20 : k50.C w A20 x.f19.length x.f19) :
    Calls Tryz.prog 9 #[.int .i64 0, .agg (rowM x (.slice A16 x.f15.length c16) (.slice A19 x.f18.length c19) (.slice A20 x.f19.length c20))] w (EndS (XmlP x) w) := by
  have HX := Aside0.mk hF
  have HG := Aside0.mk (And.intro l16 (And.intro g16 (And.intro l19 (And.intro g19 (And.intro l20 g20)))))
  clear hF l16 g16 l19 g19 l20 g20
  have hu29 := Aside0.mk Tryz.underlying29
  go_enter Tryz.func9, Tryz.ntmps9
  go_upto_region 1 with fail
  obtain ⟨mc, hmc⟩ : ∃ m, m = rowM x (.slice A16 x.f15.length c16) (.slice A19 x.f18.length c19) (.slice A20 x.f19.length c20) := ⟨_, rfl⟩
  rw [← hmc]
  have HMC := Aside0.mk hmc
  have HI := Aside0.mk (show (Tryz.prog.info? 29).map (·.size) = some mc.size by rw [hmc]; exact info29m x _ _ _)
  clear hmc
  obtain ⟨p1, hp1⟩ : ∃ p, p = w.heap.size := ⟨_, rfl⟩
  have J0 : (w.alloc (.cells mc 29)).heap[w.heap.size]? = some (.cells mc 29 (0, 0)) ∧ Below w.heap.size w (w.alloc (.cells mc 29)) := ⟨blk_new w _, below_alloc (Below.refl _ w) _⟩
  rw [← hp1] at J0 ⊢
  revert J0
  generalize w.alloc (.cells mc 29) = w0
  intro J0
  have B0 := Aside0.mk (show Below w.heap.size w w0 by rw [← hp1]; exact J0.2)
  have M0 : Aside0 (w0.heap[p1]? = some (.cells mc 29 (0, 0))) := ⟨J0.1⟩
  clear J0 hp1
  go_wp2_with (first | ((with_reducible refine gate_dst (N := 12) rfl ?_); refine wpList_load_row rfl 29 (.tmp 3) rfl p1 rfl 29 mc (0, 0) _ M0.out hu29.out rfl HI.out ?_))
  rw [HMC.out]
  refine (encX_e x A16 c16 A19 c19 A20 c20 _ HX.out HG.out.1 (Kd.C_below HG.out.2.1 B0.out) HG.out.2.2.1 (Kd.C_below HG.out.2.2.2.1 B0.out) HG.out.2.2.2.2.1 (Kd.C_below HG.out.2.2.2.2.2 B0.out)).mono ?_
  rintro e w1 ⟨s, f, rfl, hf, hb⟩
  rw [← HMC.out]
  have HF := Aside0.mk hf
  have B1 := Aside0.mk (below_step B0.out hb)
  clear hb hf B0 M0
  have kb := fun W => print_bytes (P := Tryz.prog) 9 38 5 Tryz.underlying9 Tryz.underlying38 Tryz.underlying5 s W
  have B2 := Aside0.mk (bytes_below B1.out (below_size B1.out) 5 s)
  go_wp2_with fail
  go_ret2
  exact ⟨_, _, _, f, rfl, HF.out, B2.out⟩
set_option maxHeartbeats 16000000 in
set_option maxRecDepth 100000 in
theorem side1_e (x : S29) (A16 : Option Addr) (c16 : Nat) (A19 : Option Addr) (c19 : Nat) (A20 : Option Addr) (c20 : Nat) (w : World) (hF : BOK x) (l16 : x.f15.length ≤ c16) (g16 : k46.C w A16 x.f15.length x.f15) (l19 : x.f18.length ≤ c19) (g19 : k48.C w A19 x.f18.length x.f18) (l20 : x.f19.length ≤ c20) (g20 : k50.C w A20 x.f19.length x.f19) :
    Calls Tryz.prog 9 #[.int .i64 1, .agg (rowM x (.slice A16 x.f15.length c16) (.slice A19 x.f18.length c19) (.slice A20 x.f19.length c20))] w (EndS BitP w) := by
  have HX := Aside0.mk hF
  have HG := Aside0.mk (And.intro l16 (And.intro g16 (And.intro l19 (And.intro g19 (And.intro l20 g20)))))
  clear hF l16 g16 l19 g19 l20 g20
  have hu29 := Aside0.mk Tryz.underlying29
  go_enter Tryz.func9, Tryz.ntmps9
  go_upto_region 1 with fail
  obtain ⟨mc, hmc⟩ : ∃ m, m = rowM x (.slice A16 x.f15.length c16) (.slice A19 x.f18.length c19) (.slice A20 x.f19.length c20) := ⟨_, rfl⟩
  rw [← hmc]
  have HMC := Aside0.mk hmc
  have HI := Aside0.mk (show (Tryz.prog.info? 29).map (·.size) = some mc.size by rw [hmc]; exact info29m x _ _ _)
  clear hmc
  obtain ⟨p1, hp1⟩ : ∃ p, p = w.heap.size := ⟨_, rfl⟩
  have J0 : (w.alloc (.cells mc 29)).heap[w.heap.size]? = some (.cells mc 29 (0, 0)) ∧ Below w.heap.size w (w.alloc (.cells mc 29)) := ⟨blk_new w _, below_alloc (Below.refl _ w) _⟩
  rw [← hp1] at J0 ⊢
  revert J0
  generalize w.alloc (.cells mc 29) = w0
  intro J0
  have B0 := Aside0.mk (show Below w.heap.size w w0 by rw [← hp1]; exact J0.2)
  have M0 : Aside0 (w0.heap[p1]? = some (.cells mc 29 (0, 0))) := ⟨J0.1⟩
  clear J0 hp1
  go_wp2_with (first | ((with_reducible refine gate_dst (N := 21) rfl ?_); refine wpList_load_row rfl 29 (.tmp 3) rfl p1 rfl 29 mc (0, 0) _ M0.out hu29.out rfl HI.out ?_))
  rw [HMC.out]
  refine (encB_e x A16 c16 A19 c19 A20 c20 _ HX.out HG.out.1 (Kd.C_below HG.out.2.1 B0.out) HG.out.2.2.1 (Kd.C_below HG.out.2.2.2.1 B0.out) HG.out.2.2.2.2.1 (Kd.C_below HG.out.2.2.2.2.2 B0.out)).mono ?_
  rintro e w1 ⟨AR, n, c, f, rfl, hf, hb⟩
  rw [← HMC.out]
  have HF := Aside0.mk hf
  have B1 := Aside0.mk (below_step B0.out hb)
  clear hb hf B0 M0
  go_wp2_with fail
  go_ret2
  exact ⟨_, _, _, f, rfl, HF.out, B1.out⟩
end Go.Proofs.YthapknnppabdaaaGreat.MQ
