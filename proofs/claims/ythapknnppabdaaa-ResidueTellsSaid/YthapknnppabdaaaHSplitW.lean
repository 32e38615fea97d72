/- comptoirref16.Split: the walk. -/
import Derived.Test.YthapknnppabdaaaHSplitJ
namespace Go.Proofs.Ythapknnppabdaaa.MR
open Go.RowKit Go.Proofs.YthapknnppabdaaaW.PrintWords Go.Proofs.YthapknnppabdaaaW.PrintLast Go.Proofs.YthapknnppabdaaaW.PrintMore
set_option linter.unusedVariables false
set_option linter.unusedSimpArgs false

theorem spM_1 (x : S29) (o8 o9 : Bool) (h8 : outB ansB x.f8 15 = o8) (h9 : outB ansB x.f9 8 = o9) : spM ansB x 1 = { x with f17 := noText, f18 := [], f8 := (bif o8 then quest else x.f8), f9 := (bif o9 then quest else x.f9) } := by
  unfold spM
  rw [if_neg (by decide), if_pos rfl, h8, h9]
  cases o8 <;> cases o9 <;> rfl
theorem spR_1 (x : S29) (o8 o9 : Bool) (h8 : outB ansB x.f8 15 = o8) (h9 : outB ansB x.f9 8 = o9) : spR ansB x 1 = ⟨x.f17, (bif o8 then x.f8 else noText), (bif o9 then x.f9 else noText), x.f18, []⟩ := by
  unfold spR
  rw [if_neg (by decide), if_pos rfl, h8, h9]
  cases o8 <;> cases o9 <;> rfl
theorem nilC {α : Type} (d : Kd α) (w : World) : d.C w none 0 [] := ⟨rfl, by omega, fun h => absurd h (by omega)⟩
theorem jt_start (w : World) (x : S29) (v16 v19 v20 : Value) (z : Array Value) (z5 : Array Value) (y : S31) (v3 v4 : Value) (hz : z.size = 21) (hz5 : z5.size = 5) :
    JT w w.heap.size x v16 v19 v20 y v3 v4 ((((w.alloc (.cells (row29 x v16 v19 v20) 29)).alloc (.cells z 29)).alloc (.cells z5 31)).alloc (.cells (row31 y v3 v4) 31)) := by
  have hb : Below w.heap.size w ((((w.alloc (.cells (row29 x v16 v19 v20) 29)).alloc (.cells z 29)).alloc (.cells z5 31)).alloc (.cells (row31 y v3 v4) 31)) := below_alloc (below_alloc (below_alloc (below_alloc (Below.refl _ w) _) _) _) _
  refine ⟨blk_alloc (blk_alloc (blk_alloc (blk_new w _) _) _) _, ?_, ⟨z, ?_, hz⟩, ⟨z5, ?_, hz5⟩, hb, Nat.le_refl _⟩
  · have := blk_new (((w.alloc (.cells (row29 x v16 v19 v20) 29)).alloc (.cells z 29)).alloc (.cells z5 31)) (.cells (row31 y v3 v4) 31)
    rw [show (((w.alloc (.cells (row29 x v16 v19 v20) 29)).alloc (.cells z 29)).alloc (.cells z5 31)).heap.size = w.heap.size + 3 by simp] at this
    exact this
  · have := blk_new (w.alloc (.cells (row29 x v16 v19 v20) 29)) (.cells z 29)
    rw [show (w.alloc (.cells (row29 x v16 v19 v20) 29)).heap.size = w.heap.size + 1 by simp] at this
    exact blk_alloc (blk_alloc this _) _
  · have := blk_new ((w.alloc (.cells (row29 x v16 v19 v20) 29)).alloc (.cells z 29)) (.cells z5 31)
    rw [show ((w.alloc (.cells (row29 x v16 v19 v20) 29)).alloc (.cells z 29)).heap.size = w.heap.size + 2 by simp] at this
    exact blk_alloc this _
set_option maxHeartbeats 8000000 in
set_option maxRecDepth 100000 in
theorem split10 (x : S29) (side : Int) (mc : Array Value) (w : World) (h : k29.K w x mc.toList) (h8 : x.f8.size ≤ 140737488351232) (h9 : x.f9.size ≤ 140737488351232) :
    Calls Try.prog 10 #[.agg mc, .int .i64 side] w fun e w' => ∃ nc rc : Array Value, e = .returned (.tuple #[.agg nc, .agg rc]) ∧ nc.size = 21 ∧ rc.size = 5 ∧ k29.K w' (spM ansB x side) nc.toList ∧ k31.K w' (spR ansB x side) rc.toList ∧ Below w.heap.size w w' := by
  have hu29 := Aside0.mk Try.underlying29
  have hu31 := Aside0.mk Try.underlying31
  obtain ⟨A16, c16, A19, c19, A20, c20, e, l16, g16, l19, g19, l20, g20⟩ := k29_open h
  have em : mc = row29 x (.slice A16 x.f15.length c16) (.slice A19 x.f18.length c19) (.slice A20 x.f19.length c20) := Array.toList_inj.1 e
  rw [em] at h ⊢
  have HK := Aside0.mk h
  have HL := Aside0.mk (And.intro h8 h9)
  have HG := Aside0.mk (And.intro l16 (And.intro g16 (And.intro l19 (And.intro g19 (And.intro l20 g20)))))
  clear e em l16 g16 l19 g19 l20 g20 h h8 h9
  go_enter Try.func10, Try.ntmps10
  go_upto_region 3 with fail
  obtain ⟨p2, hp2⟩ : ∃ p, p = w.heap.size := ⟨_, rfl⟩
  have J0 : JT w w.heap.size x (.slice A16 x.f15.length c16) (.slice A19 x.f18.length c19) (.slice A20 x.f19.length c20) ⟨noText, noText, noText, [], []⟩ (.slice none 0 0) (.slice none 0 0) ((((w.alloc (.cells (row29 x (.slice A16 x.f15.length c16) (.slice A19 x.f18.length c19) (.slice A20 x.f19.length c20)) 29)).alloc (.cells #[.int .i64 0, .int .i64 0, .string ⟨#[]⟩, .string ⟨#[]⟩, .string ⟨#[]⟩, .string ⟨#[]⟩, .int .u64 0, .string ⟨#[]⟩, .string ⟨#[]⟩, .string ⟨#[]⟩, .string ⟨#[]⟩, .int .i64 0, .string ⟨#[]⟩, .string ⟨#[]⟩, .int .i64 0, .string ⟨#[]⟩, .slice none 0 0, .string ⟨#[]⟩, .string ⟨#[]⟩, .slice none 0 0, .slice none 0 0] 29)).alloc (.cells #[.string ⟨#[]⟩, .string ⟨#[]⟩, .string ⟨#[]⟩, .slice none 0 0, .slice none 0 0] 31)).alloc (.cells #[.string ⟨#[]⟩, .string ⟨#[]⟩, .string ⟨#[]⟩, .slice none 0 0, .slice none 0 0] 31)) := jt_start w x _ _ _ #[.int .i64 0, .int .i64 0, .string ⟨#[]⟩, .string ⟨#[]⟩, .string ⟨#[]⟩, .string ⟨#[]⟩, .int .u64 0, .string ⟨#[]⟩, .string ⟨#[]⟩, .string ⟨#[]⟩, .string ⟨#[]⟩, .int .i64 0, .string ⟨#[]⟩, .string ⟨#[]⟩, .int .i64 0, .string ⟨#[]⟩, .slice none 0 0, .string ⟨#[]⟩, .string ⟨#[]⟩, .slice none 0 0, .slice none 0 0] #[.string ⟨#[]⟩, .string ⟨#[]⟩, .string ⟨#[]⟩, .slice none 0 0, .slice none 0 0] ⟨noText, noText, noText, [], []⟩ _ _ rfl rfl
  rw [← hp2] at J0 ⊢; clear hp2; revert J0
  generalize ((((w.alloc _).alloc _).alloc _).alloc _) = W1; intro J0
  replace J0 := Aside0.mk J0
  by_cases s0 : side = 0
  · subst s0
    have d20 : W1.cell? ⟨p2, 20, none⟩ = some (.slice A20 x.f19.length c20) := (blk_cell J0.out.b2 20).trans rfl
    have z20 := blk_frozen J0.out.b2 20
    have d4 : W1.cell? ⟨p2 + 1 + 1 + 1, 4, none⟩ = some (.slice none 0 0) := (blk_cell J0.out.b6 4).trans rfl
    have z4 : W1.frozen? ⟨p2 + 1 + 1 + 1, 4, none⟩ = false := blk_frozen J0.out.b6 4
    go_upto_region 12 with fail
    have J2 := (J0.out.set6 (y' := ⟨noText, noText, noText, [], x.f19⟩) (v3' := .slice none 0 0) (v4' := .slice A20 x.f19.length c20) 4 (.slice A20 x.f19.length c20) rfl).set2 (x' := { x with f19 := [] }) (v19' := .slice A19 x.f18.length c19) (v20' := .slice none 0 0) 20 (.slice none 0 0) rfl
    revert J2; generalize (World.setCell (World.setCell W1 _ _) _ _) = W2; intro J2; replace J2 := Aside0.mk J2
    clear d20 z20 d4 z4 J0
    replace J2 := Aside0.mk (J2.out.below (below_drew1 (Below.refl _ W2)))
    refine start_ (n := 4) (ds := []) (S := fun w' => JT w p2 { x with f19 := [] } (.slice A16 x.f15.length c16) (.slice A19 x.f18.length c19) (.slice none 0 0) ⟨noText, noText, noText, [], x.f19⟩ (.slice none 0 0) (.slice A20 x.f19.length c20) w') #[false, false, false, false] (by rfl) (by rfl) (by rfl) J2.out (fun hHeld => ?_)
    generalize W2.drew = wd at hHeld ⊢
    refine take_ (i := 0) (N := some 51) (v := .agg (row29 { x with f19 := [] } (.slice A16 x.f15.length c16) (.slice A19 x.f18.length c19) (.slice none 0 0))) (a' := ?_) #[true, false, false, false] rfl rfl (by kernel_rfl) (fun _ _ _ h => h) (Or.inl ⟨by rfl, fun w' hs => Go.Proofs.Ythapknnppabdaaa.Fill.row_yields 29 _ rfl p2 rfl 29 _ (0, 0) _ hs.b2 hu29.out rfl (by kernel_rfl)⟩) hHeld ?_ ?_
    rotate_left
    · simp only [Act.put, List.setIfInBounds_toArray, List.set_cons_zero, List.set_cons_succ, i64_w, i32_w]; rfl
    refine take_ (i := 1) (N := some 52) (v := .agg (row31 ⟨noText, noText, noText, [], x.f19⟩ (.slice none 0 0) (.slice A20 x.f19.length c20))) (a' := ?_) #[true, true, false, false] rfl rfl (by kernel_rfl) (fun _ _ _ h => h) (Or.inl ⟨by rfl, fun w' hs => Go.Proofs.Ythapknnppabdaaa.Fill.row_yields 31 _ rfl (p2 + 1 + 1 + 1) rfl 31 _ (0, 0) _ hs.b6 hu31.out rfl (by kernel_rfl)⟩) hHeld ?_ ?_
    rotate_left
    · simp only [Act.put, List.setIfInBounds_toArray, List.set_cons_zero, List.set_cons_succ, i64_w, i32_w]; rfl
    obtain ⟨old, ho, hsz⟩ := hHeld.b4; have HO := Aside0.mk (And.intro ho hsz); clear ho hsz
    have HJ := Aside0.mk hHeld
    refine one_ (i := 2) (N := none) #[true, true, true, false] rfl rfl (by kernel_rfl) (by decide) (fun K hK => ?_)
    refine Go.Proofs.Ythapknnppabdaaa.Fill.skip_event (by rfl) rfl 29 _ _ rfl (p2 + 1) (row29 { x with f19 := [] } (.slice A16 x.f15.length c16) (.slice A19 x.f18.length c19) (.slice none 0 0)) rfl rfl 29 old HO.out.1 (by kernel_rfl) (by rw [HO.out.2]; rfl) (by kernel_rfl) ?_
    intro w6 hbk hkp hbl
    have g2 := KeepBut.blk hkp HJ.out.b2 (by omega) (by simp)
    have g6 := KeepBut.blk hkp HJ.out.b6 (by omega) (by simp)
    obtain ⟨o5, ho5, hs5⟩ := HJ.out.b5
    have g5 := KeepBut.blk hkp ho5 (by omega) (by simp)
    have hb6 := hbl _ _ HJ.out.bel (by have := HJ.out.lo; omega)
    refine hK.out _ _ ⟨g2, g6, ⟨_, hbk, by rfl⟩, ⟨o5, g5, hs5⟩, hb6, HJ.out.lo⟩ (fun hHeld2 => ?_)
    clear hK K
    have HN := Aside0.mk (And.intro hbk (And.intro g5 hs5)); have HJ2 := Aside0.mk hHeld2; clear g2 g6 ho5 hs5 g5 hb6 hbk hkp hbl HO
    refine one_ (i := 3) (N := none) #[true, true, true, true] rfl rfl (by kernel_rfl) (by decide) (fun K hK => ?_)
    refine Go.Proofs.Ythapknnppabdaaa.Fill.skip_event (by rfl) rfl 31 _ _ rfl (p2 + 1 + 1) (row31 ⟨noText, noText, noText, [], x.f19⟩ (.slice none 0 0) (.slice A20 x.f19.length c20)) rfl rfl 31 o5 HN.out.2.1 (by kernel_rfl) (by rw [HN.out.2.2]; rfl) (by kernel_rfl) ?_
    intro w7 hbk hkp hbl
    have g2 := KeepBut.blk hkp HJ2.out.b2 (by omega) (by simp)
    have g6 := KeepBut.blk hkp HJ2.out.b6 (by omega) (by simp)
    have g4 := KeepBut.blk hkp HN.out.1 (by omega) (by simp)
    have hb7 := hbl _ _ HJ2.out.bel (by have := HJ2.out.lo; omega)
    refine hK.out _ _ ⟨g2, g6, ⟨_, g4, by rfl⟩, ⟨_, hbk, by rfl⟩, hb7, HJ2.out.lo⟩ (fun hHeld3 => ?_)
    clear hK K
    refine done_ (by kernel_rfl) ?_
    try go_wp2
    refine bodyPost_ret (results_cc (fn := Try.f10) (p := 4) (p' := 5) (ty := 29) (ty' := 31) (by rfl) _ _ (p2 + 1) (p2 + 1 + 1) 29 31 (row29 { x with f19 := [] } (.slice A16 x.f15.length c16) (.slice A19 x.f18.length c19) (.slice none 0 0)) (row31 ⟨noText, noText, noText, [], x.f19⟩ (.slice none 0 0) (.slice A20 x.f19.length c20)) (0, 0) (0, 0) _ _ (by rfl) g4 hu29.out rfl (by kernel_rfl) (by rfl) hbk hu31.out rfl (by kernel_rfl)) rfl ?_
    have HE := Aside0.mk hb7
    refine ⟨_, _, rfl, rfl, rfl, ?_, ?_, hb7⟩
    · rw [show spM ansB x 0 = { x with f19 := [] } from if_pos rfl]; exact k29_mk _ { x with f19 := [] } HG.out.1 (Kd.C_below HG.out.2.1 HE.out) HG.out.2.2.1 (Kd.C_below HG.out.2.2.2.1 HE.out) (Nat.le_refl _) (nilC _ _)
    · rw [show spR ansB x 0 = ⟨noText, noText, noText, [], x.f19⟩ from if_pos rfl]; exact k31_mk _ ⟨noText, noText, noText, [], x.f19⟩ (Nat.le_refl _) (nilC _ _) HG.out.2.2.2.2.1 (Kd.C_below HG.out.2.2.2.2.2 HE.out)
  · have b0 : (side == 0) = false := beq_eq_false_iff_ne.mpr s0
    by_cases s1 : side = 1
    · subst s1
      have d18 : W1.cell? ⟨p2, 18, none⟩ = some (.string x.f17) := (blk_cell J0.out.b2 18).trans rfl
      have z18 := blk_frozen J0.out.b2 18
      have d19 : W1.cell? ⟨p2, 19, none⟩ = some (.slice A19 x.f18.length c19) := (blk_cell J0.out.b2 19).trans rfl
      have z19 := blk_frozen J0.out.b2 19
      have d0 : W1.cell? ⟨p2 + 1 + 1 + 1, 0, none⟩ = some (.string noText) := (blk_cell J0.out.b6 0).trans rfl
      have z0 : W1.frozen? ⟨p2 + 1 + 1 + 1, 0, none⟩ = false := blk_frozen J0.out.b6 0
      have d3 : W1.cell? ⟨p2 + 1 + 1 + 1, 3, none⟩ = some (.slice none 0 0) := (blk_cell J0.out.b6 3).trans rfl
      have z3 : W1.frozen? ⟨p2 + 1 + 1 + 1, 3, none⟩ = false := blk_frozen J0.out.b6 3
      go_upto_region 8 with fail
      have J2 := (((J0.out.set6 (y' := ⟨x.f17, noText, noText, [], []⟩) (v3' := .slice none 0 0) (v4' := .slice none 0 0) 0 (.string x.f17) rfl).set2 (x' := { x with f17 := noText }) (v19' := .slice A19 x.f18.length c19) (v20' := .slice A20 x.f19.length c20) 18 (.string noText) rfl).set6 (y' := ⟨x.f17, noText, noText, x.f18, []⟩) (v3' := .slice A19 x.f18.length c19) (v4' := .slice none 0 0) 3 (.slice A19 x.f18.length c19) rfl).set2 (x' := { x with f17 := noText, f18 := [] }) (v19' := .slice none 0 0) (v20' := .slice A20 x.f19.length c20) 19 (.slice none 0 0) rfl
      revert J2; change JT _ _ _ _ _ _ _ _ _ ((((W1.setCell ⟨p2 + 1 + 1 + 1, 0, none⟩ (.string x.f17)).setCell ⟨p2, 18, none⟩ (.string ⟨#[]⟩)).setCell ⟨p2 + 1 + 1 + 1, 3, none⟩ (.slice A19 x.f18.length c19)).setCell ⟨p2, 19, none⟩ (.slice none 0 0)) → _; generalize ((((W1.setCell _ _).setCell _ _).setCell _ _).setCell _ _) = W2; intro J2; replace J2 := Aside0.mk J2
      clear d18 z18 d19 z19 d0 z0 d3 z3 J0
      obtain ⟨a, ha⟩ : ∃ q, q = ({ x with f17 := noText, f18 := [] } : S29) := ⟨_, rfl⟩
      obtain ⟨b, hb⟩ : ∃ q, q = (⟨x.f17, noText, noText, x.f18, []⟩ : S31) := ⟨_, rfl⟩
      rw [← ha, ← hb] at J2
      have S8 : Aside0 (a.f8.size ≤ 140737488351232) := ⟨by rw [ha]; exact HL.out.1⟩; have S9 : Aside0 (a.f9.size ≤ 140737488351232) := ⟨by rw [ha]; exact HL.out.2⟩
      replace ha := Aside0.mk ha; replace hb := Aside0.mk hb
      have c8 : W2.cell? ⟨p2, 8, none⟩ = some (.string a.f8) := (blk_cell J2.out.b2 8).trans rfl
      have z8 := blk_frozen J2.out.b2 8
      by_cases h8 : a.f8.toList = []
      · have m0 : (a.f8.toList == ([] : List UInt8)) = true := beq_iff_eq.mpr h8
        have m1 : (a.f8.toList != ([] : List UInt8)) = false := bne_eq_false_iff_eq.mpr h8
        have O8 : Aside0 (outB ansB a.f8 15 = false) := ⟨by unfold outB; rw [m1]; rfl⟩
        replace h8 := Aside0.mk h8
        go_upto_region 10 with fail
        clear m0 m1 c8 z8
        have c8 : W2.cell? ⟨p2, 9, none⟩ = some (.string a.f9) := (blk_cell J2.out.b2 9).trans rfl
        have z8 := blk_frozen J2.out.b2 9
        by_cases h9 : a.f9.toList = []
        · have m0 : (a.f9.toList == ([] : List UInt8)) = true := beq_iff_eq.mpr h9
          have m1 : (a.f9.toList != ([] : List UInt8)) = false := bne_eq_false_iff_eq.mpr h9
          have O9 : Aside0 (outB ansB a.f9 8 = false) := ⟨by unfold outB; rw [m1]; rfl⟩
          replace h9 := Aside0.mk h9
          go_upto_region 12 with fail
          clear m0 m1 c8 z8
          replace J2 := Aside0.mk (J2.out.below (below_drew1 (Below.refl _ W2)))
          refine start_ (n := 4) (ds := []) (S := fun w' => JT w p2 a (.slice A16 x.f15.length c16) (.slice none 0 0) (.slice A20 x.f19.length c20) b (.slice A19 x.f18.length c19) (.slice none 0 0) w') #[false, false, false, false] (by rfl) (by rfl) (by rfl) J2.out (fun hHeld => ?_)
          generalize W2.drew = wd at hHeld ⊢
          refine take_ (i := 0) (N := some 51) (v := .agg (row29 a (.slice A16 x.f15.length c16) (.slice none 0 0) (.slice A20 x.f19.length c20))) (a' := ?_) #[true, false, false, false] rfl rfl (by kernel_rfl) (fun _ _ _ h => h) (Or.inl ⟨by rfl, fun w' hs => Go.Proofs.Ythapknnppabdaaa.Fill.row_yields 29 _ rfl p2 rfl 29 _ (0, 0) _ hs.b2 hu29.out rfl (by kernel_rfl)⟩) hHeld ?_ ?_
          rotate_left
          · simp only [Act.put, List.setIfInBounds_toArray, List.set_cons_zero, List.set_cons_succ, i64_w, i32_w]; rfl
          refine take_ (i := 1) (N := some 52) (v := .agg (row31 b (.slice A19 x.f18.length c19) (.slice none 0 0))) (a' := ?_) #[true, true, false, false] rfl rfl (by kernel_rfl) (fun _ _ _ h => h) (Or.inl ⟨by rfl, fun w' hs => Go.Proofs.Ythapknnppabdaaa.Fill.row_yields 31 _ rfl (p2 + 1 + 1 + 1) rfl 31 _ (0, 0) _ hs.b6 hu31.out rfl (by kernel_rfl)⟩) hHeld ?_ ?_
          rotate_left
          · simp only [Act.put, List.setIfInBounds_toArray, List.set_cons_zero, List.set_cons_succ, i64_w, i32_w]; rfl
          obtain ⟨old, ho, hsz⟩ := hHeld.b4; have HO := Aside0.mk (And.intro ho hsz); clear ho hsz
          have HJ := Aside0.mk hHeld
          refine one_ (i := 2) (N := none) #[true, true, true, false] rfl rfl (by kernel_rfl) (by decide) (fun K hK => ?_)
          refine Go.Proofs.Ythapknnppabdaaa.Fill.skip_event (by rfl) rfl 29 _ _ rfl (p2 + 1) (row29 a (.slice A16 x.f15.length c16) (.slice none 0 0) (.slice A20 x.f19.length c20)) rfl rfl 29 old HO.out.1 (by kernel_rfl) (by rw [HO.out.2]; rfl) (by kernel_rfl) ?_
          intro w6 hbk hkp hbl
          have g2 := KeepBut.blk hkp HJ.out.b2 (by omega) (by simp)
          have g6 := KeepBut.blk hkp HJ.out.b6 (by omega) (by simp)
          obtain ⟨o5, ho5, hs5⟩ := HJ.out.b5
          have g5 := KeepBut.blk hkp ho5 (by omega) (by simp)
          have hb6 := hbl _ _ HJ.out.bel (by have := HJ.out.lo; omega)
          refine hK.out _ _ ⟨g2, g6, ⟨_, hbk, by rfl⟩, ⟨o5, g5, hs5⟩, hb6, HJ.out.lo⟩ (fun hHeld2 => ?_)
          clear hK K
          have HN := Aside0.mk (And.intro hbk (And.intro g5 hs5)); have HJ2 := Aside0.mk hHeld2; clear g2 g6 ho5 hs5 g5 hb6 hbk hkp hbl HO
          refine one_ (i := 3) (N := none) #[true, true, true, true] rfl rfl (by kernel_rfl) (by decide) (fun K hK => ?_)
          refine Go.Proofs.Ythapknnppabdaaa.Fill.skip_event (by rfl) rfl 31 _ _ rfl (p2 + 1 + 1) (row31 b (.slice A19 x.f18.length c19) (.slice none 0 0)) rfl rfl 31 o5 HN.out.2.1 (by kernel_rfl) (by rw [HN.out.2.2]; rfl) (by kernel_rfl) ?_
          intro w7 hbk hkp hbl
          have g2 := KeepBut.blk hkp HJ2.out.b2 (by omega) (by simp)
          have g6 := KeepBut.blk hkp HJ2.out.b6 (by omega) (by simp)
          have g4 := KeepBut.blk hkp HN.out.1 (by omega) (by simp)
          have hb7 := hbl _ _ HJ2.out.bel (by have := HJ2.out.lo; omega)
          refine hK.out _ _ ⟨g2, g6, ⟨_, g4, by rfl⟩, ⟨_, hbk, by rfl⟩, hb7, HJ2.out.lo⟩ (fun hHeld3 => ?_)
          clear hK K
          refine done_ (by kernel_rfl) ?_
          try go_wp2
          refine bodyPost_ret (results_cc (fn := Try.f10) (p := 4) (p' := 5) (ty := 29) (ty' := 31) (by rfl) _ _ (p2 + 1) (p2 + 1 + 1) 29 31 (row29 a (.slice A16 x.f15.length c16) (.slice none 0 0) (.slice A20 x.f19.length c20)) (row31 b (.slice A19 x.f18.length c19) (.slice none 0 0)) (0, 0) (0, 0) _ _ (by rfl) g4 hu29.out rfl (by kernel_rfl) (by rfl) hbk hu31.out rfl (by kernel_rfl)) rfl ?_
          have HE := Aside0.mk hb7
          refine ⟨_, _, rfl, rfl, rfl, ?_, ?_, hb7⟩
          · have q8 := O8.out; rw [ha.out] at q8; change outB ansB x.f8 15 = _ at q8; have q9 := O9.out; (first | rw [ha2.out, ha.out] at q9 | rw [ha.out] at q9); change outB ansB x.f9 8 = _ at q9; rw [spM_1 x _ _ q8 q9]; (first | rw [ha3.out, ha2.out, ha.out] | rw [ha3.out, ha.out] | rw [ha2.out, ha.out] | rw [ha.out]); exact k29_mk _ { x with f17 := noText, f18 := [], f8 := (bif _ then quest else x.f8), f9 := (bif _ then quest else x.f9) } HG.out.1 (Kd.C_below HG.out.2.1 HE.out) (Nat.le_refl _) (nilC _ _) HG.out.2.2.2.2.1 (Kd.C_below HG.out.2.2.2.2.2 HE.out)
          · have q8 := O8.out; rw [ha.out] at q8; change outB ansB x.f8 15 = _ at q8; have q9 := O9.out; (first | rw [ha2.out, ha.out] at q9 | rw [ha.out] at q9); change outB ansB x.f9 8 = _ at q9; rw [spR_1 x _ _ q8 q9]; (first | rw [hb3.out, hb2.out, hb.out] | rw [hb3.out, hb.out] | rw [hb2.out, hb.out] | rw [hb.out]); (try rw [ha2.out]); (try rw [ha.out]); exact k31_mk _ ⟨x.f17, (bif _ then x.f8 else noText), (bif _ then x.f9 else noText), x.f18, []⟩ HG.out.2.2.1 (Kd.C_below HG.out.2.2.2.1 HE.out) (Nat.le_refl _) (nilC _ _)
        · have m0 : (a.f9.toList == ([] : List UInt8)) = false := beq_eq_false_iff_ne.mpr h9
          have m1 : (a.f9.toList != ([] : List UInt8)) = true := bne_iff_ne.mpr h9
          replace h9 := Aside0.mk h9
          cases q0 : ansB a.f9 8 with
          | true =>
            have O9 : Aside0 (outB ansB a.f9 8 = false) := ⟨by unfold outB; rw [q0, m1]; rfl⟩
            go_upto_region 12 with (go_at_call 19; refine (ans19 _ _ _ S9.out).mono ?_; rintro e w59 ⟨rfl, hd⟩; rw [q0]; have J59 := Aside0.mk (J2.out.below hd.below); clear hd; have c5 : w59.cell? ⟨p2, 9, none⟩ = some (.string a.f9) := (blk_cell J59.out.b2 9).trans rfl; have z5 := blk_frozen J59.out.b2 9; have d5 : w59.cell? ⟨p2 + 1 + 1 + 1, 2, none⟩ = some (.string b.f2) := (blk_cell J59.out.b6 2).trans rfl; have y5 : w59.frozen? ⟨p2 + 1 + 1 + 1, 2, none⟩ = false := blk_frozen J59.out.b6 2)
            clear m0 m1 c8 z8 c5 z5 d5 y5 q0
            replace J59 := Aside0.mk (J59.out.below (below_drew1 (Below.refl _ w59)))
            refine start_ (n := 4) (ds := []) (S := fun w' => JT w p2 a (.slice A16 x.f15.length c16) (.slice none 0 0) (.slice A20 x.f19.length c20) b (.slice A19 x.f18.length c19) (.slice none 0 0) w') #[false, false, false, false] (by rfl) (by rfl) (by rfl) J59.out (fun hHeld => ?_)
            generalize w59.drew = wd at hHeld ⊢
            refine take_ (i := 0) (N := some 51) (v := .agg (row29 a (.slice A16 x.f15.length c16) (.slice none 0 0) (.slice A20 x.f19.length c20))) (a' := ?_) #[true, false, false, false] rfl rfl (by kernel_rfl) (fun _ _ _ h => h) (Or.inl ⟨by rfl, fun w' hs => Go.Proofs.Ythapknnppabdaaa.Fill.row_yields 29 _ rfl p2 rfl 29 _ (0, 0) _ hs.b2 hu29.out rfl (by kernel_rfl)⟩) hHeld ?_ ?_
            rotate_left
            · simp only [Act.put, List.setIfInBounds_toArray, List.set_cons_zero, List.set_cons_succ, i64_w, i32_w]; rfl
            refine take_ (i := 1) (N := some 52) (v := .agg (row31 b (.slice A19 x.f18.length c19) (.slice none 0 0))) (a' := ?_) #[true, true, false, false] rfl rfl (by kernel_rfl) (fun _ _ _ h => h) (Or.inl ⟨by rfl, fun w' hs => Go.Proofs.Ythapknnppabdaaa.Fill.row_yields 31 _ rfl (p2 + 1 + 1 + 1) rfl 31 _ (0, 0) _ hs.b6 hu31.out rfl (by kernel_rfl)⟩) hHeld ?_ ?_
            rotate_left
            · simp only [Act.put, List.setIfInBounds_toArray, List.set_cons_zero, List.set_cons_succ, i64_w, i32_w]; rfl
            obtain ⟨old, ho, hsz⟩ := hHeld.b4; have HO := Aside0.mk (And.intro ho hsz); clear ho hsz
            have HJ := Aside0.mk hHeld
            refine one_ (i := 2) (N := none) #[true, true, true, false] rfl rfl (by kernel_rfl) (by decide) (fun K hK => ?_)
            refine Go.Proofs.Ythapknnppabdaaa.Fill.skip_event (by rfl) rfl 29 _ _ rfl (p2 + 1) (row29 a (.slice A16 x.f15.length c16) (.slice none 0 0) (.slice A20 x.f19.length c20)) rfl rfl 29 old HO.out.1 (by kernel_rfl) (by rw [HO.out.2]; rfl) (by kernel_rfl) ?_
            intro w6 hbk hkp hbl
            have g2 := KeepBut.blk hkp HJ.out.b2 (by omega) (by simp)
            have g6 := KeepBut.blk hkp HJ.out.b6 (by omega) (by simp)
            obtain ⟨o5, ho5, hs5⟩ := HJ.out.b5
            have g5 := KeepBut.blk hkp ho5 (by omega) (by simp)
            have hb6 := hbl _ _ HJ.out.bel (by have := HJ.out.lo; omega)
            refine hK.out _ _ ⟨g2, g6, ⟨_, hbk, by rfl⟩, ⟨o5, g5, hs5⟩, hb6, HJ.out.lo⟩ (fun hHeld2 => ?_)
            clear hK K
            have HN := Aside0.mk (And.intro hbk (And.intro g5 hs5)); have HJ2 := Aside0.mk hHeld2; clear g2 g6 ho5 hs5 g5 hb6 hbk hkp hbl HO
            refine one_ (i := 3) (N := none) #[true, true, true, true] rfl rfl (by kernel_rfl) (by decide) (fun K hK => ?_)
            refine Go.Proofs.Ythapknnppabdaaa.Fill.skip_event (by rfl) rfl 31 _ _ rfl (p2 + 1 + 1) (row31 b (.slice A19 x.f18.length c19) (.slice none 0 0)) rfl rfl 31 o5 HN.out.2.1 (by kernel_rfl) (by rw [HN.out.2.2]; rfl) (by kernel_rfl) ?_
            intro w7 hbk hkp hbl
            have g2 := KeepBut.blk hkp HJ2.out.b2 (by omega) (by simp)
            have g6 := KeepBut.blk hkp HJ2.out.b6 (by omega) (by simp)
            have g4 := KeepBut.blk hkp HN.out.1 (by omega) (by simp)
            have hb7 := hbl _ _ HJ2.out.bel (by have := HJ2.out.lo; omega)
            refine hK.out _ _ ⟨g2, g6, ⟨_, g4, by rfl⟩, ⟨_, hbk, by rfl⟩, hb7, HJ2.out.lo⟩ (fun hHeld3 => ?_)
            clear hK K
            refine done_ (by kernel_rfl) ?_
            try go_wp2
            refine bodyPost_ret (results_cc (fn := Try.f10) (p := 4) (p' := 5) (ty := 29) (ty' := 31) (by rfl) _ _ (p2 + 1) (p2 + 1 + 1) 29 31 (row29 a (.slice A16 x.f15.length c16) (.slice none 0 0) (.slice A20 x.f19.length c20)) (row31 b (.slice A19 x.f18.length c19) (.slice none 0 0)) (0, 0) (0, 0) _ _ (by rfl) g4 hu29.out rfl (by kernel_rfl) (by rfl) hbk hu31.out rfl (by kernel_rfl)) rfl ?_
            have HE := Aside0.mk hb7
            refine ⟨_, _, rfl, rfl, rfl, ?_, ?_, hb7⟩
            · have q8 := O8.out; rw [ha.out] at q8; change outB ansB x.f8 15 = _ at q8; have q9 := O9.out; (first | rw [ha2.out, ha.out] at q9 | rw [ha.out] at q9); change outB ansB x.f9 8 = _ at q9; rw [spM_1 x _ _ q8 q9]; (first | rw [ha3.out, ha2.out, ha.out] | rw [ha3.out, ha.out] | rw [ha2.out, ha.out] | rw [ha.out]); exact k29_mk _ { x with f17 := noText, f18 := [], f8 := (bif _ then quest else x.f8), f9 := (bif _ then quest else x.f9) } HG.out.1 (Kd.C_below HG.out.2.1 HE.out) (Nat.le_refl _) (nilC _ _) HG.out.2.2.2.2.1 (Kd.C_below HG.out.2.2.2.2.2 HE.out)
            · have q8 := O8.out; rw [ha.out] at q8; change outB ansB x.f8 15 = _ at q8; have q9 := O9.out; (first | rw [ha2.out, ha.out] at q9 | rw [ha.out] at q9); change outB ansB x.f9 8 = _ at q9; rw [spR_1 x _ _ q8 q9]; (first | rw [hb3.out, hb2.out, hb.out] | rw [hb3.out, hb.out] | rw [hb2.out, hb.out] | rw [hb.out]); (try rw [ha2.out]); (try rw [ha.out]); exact k31_mk _ ⟨x.f17, (bif _ then x.f8 else noText), (bif _ then x.f9 else noText), x.f18, []⟩ HG.out.2.2.1 (Kd.C_below HG.out.2.2.2.1 HE.out) (Nat.le_refl _) (nilC _ _)
          | false =>
            have O9 : Aside0 (outB ansB a.f9 8 = true) := ⟨by unfold outB; rw [q0, m1]; rfl⟩
            go_upto_region 12 with (go_at_call 19; refine (ans19 _ _ _ S9.out).mono ?_; rintro e w59 ⟨rfl, hd⟩; rw [q0]; have J59 := Aside0.mk (J2.out.below hd.below); clear hd; have c5 : w59.cell? ⟨p2, 9, none⟩ = some (.string a.f9) := (blk_cell J59.out.b2 9).trans rfl; have z5 := blk_frozen J59.out.b2 9; have d5 : w59.cell? ⟨p2 + 1 + 1 + 1, 2, none⟩ = some (.string b.f2) := (blk_cell J59.out.b6 2).trans rfl; have y5 : w59.frozen? ⟨p2 + 1 + 1 + 1, 2, none⟩ = false := blk_frozen J59.out.b6 2)
            have J4 := (J59.out.set6 (y' := { b with f2 := a.f9 }) (v3' := .slice A19 x.f18.length c19) (v4' := .slice none 0 0) 2 (.string a.f9) rfl).set2 (x' := { a with f9 := quest }) (v19' := .slice none 0 0) (v20' := .slice A20 x.f19.length c20) 9 (.string quest) rfl
            revert J4; change JT _ _ _ _ _ _ _ _ _ ((w59.setCell ⟨p2 + 1 + 1 + 1, 2, none⟩ (.string a.f9)).setCell ⟨p2, 9, none⟩ (.string ⟨#[63]⟩)) → _; generalize ((World.setCell w59 _ _).setCell _ _) = W4; intro J4; replace J4 := Aside0.mk J4
            clear m0 m1 c8 z8 c5 z5 d5 y5 q0
            obtain ⟨a3, ha3⟩ : ∃ q, q = ({ a with f9 := quest } : S29) := ⟨_, rfl⟩; obtain ⟨b3, hb3⟩ : ∃ q, q = ({ b with f2 := a.f9 } : S31) := ⟨_, rfl⟩
            replace J4 := Aside0.mk (show JT w p2 a3 (.slice A16 x.f15.length c16) (.slice none 0 0) (.slice A20 x.f19.length c20) b3 (.slice A19 x.f18.length c19) (.slice none 0 0) W4 by rw [ha3, hb3]; exact J4.out)
            replace ha3 := Aside0.mk ha3; replace hb3 := Aside0.mk hb3
            replace J4 := Aside0.mk (J4.out.below (below_drew1 (Below.refl _ W4)))
            refine start_ (n := 4) (ds := []) (S := fun w' => JT w p2 a3 (.slice A16 x.f15.length c16) (.slice none 0 0) (.slice A20 x.f19.length c20) b3 (.slice A19 x.f18.length c19) (.slice none 0 0) w') #[false, false, false, false] (by rfl) (by rfl) (by rfl) J4.out (fun hHeld => ?_)
            generalize W4.drew = wd at hHeld ⊢
            refine take_ (i := 0) (N := some 51) (v := .agg (row29 a3 (.slice A16 x.f15.length c16) (.slice none 0 0) (.slice A20 x.f19.length c20))) (a' := ?_) #[true, false, false, false] rfl rfl (by kernel_rfl) (fun _ _ _ h => h) (Or.inl ⟨by rfl, fun w' hs => Go.Proofs.Ythapknnppabdaaa.Fill.row_yields 29 _ rfl p2 rfl 29 _ (0, 0) _ hs.b2 hu29.out rfl (by kernel_rfl)⟩) hHeld ?_ ?_
            rotate_left
            · simp only [Act.put, List.setIfInBounds_toArray, List.set_cons_zero, List.set_cons_succ, i64_w, i32_w]; rfl
            refine take_ (i := 1) (N := some 52) (v := .agg (row31 b3 (.slice A19 x.f18.length c19) (.slice none 0 0))) (a' := ?_) #[true, true, false, false] rfl rfl (by kernel_rfl) (fun _ _ _ h => h) (Or.inl ⟨by rfl, fun w' hs => Go.Proofs.Ythapknnppabdaaa.Fill.row_yields 31 _ rfl (p2 + 1 + 1 + 1) rfl 31 _ (0, 0) _ hs.b6 hu31.out rfl (by kernel_rfl)⟩) hHeld ?_ ?_
            rotate_left
            · simp only [Act.put, List.setIfInBounds_toArray, List.set_cons_zero, List.set_cons_succ, i64_w, i32_w]; rfl
            obtain ⟨old, ho, hsz⟩ := hHeld.b4; have HO := Aside0.mk (And.intro ho hsz); clear ho hsz
            have HJ := Aside0.mk hHeld
            refine one_ (i := 2) (N := none) #[true, true, true, false] rfl rfl (by kernel_rfl) (by decide) (fun K hK => ?_)
            refine Go.Proofs.Ythapknnppabdaaa.Fill.skip_event (by rfl) rfl 29 _ _ rfl (p2 + 1) (row29 a3 (.slice A16 x.f15.length c16) (.slice none 0 0) (.slice A20 x.f19.length c20)) rfl rfl 29 old HO.out.1 (by kernel_rfl) (by rw [HO.out.2]; rfl) (by kernel_rfl) ?_
            intro w6 hbk hkp hbl
            have g2 := KeepBut.blk hkp HJ.out.b2 (by omega) (by simp)
            have g6 := KeepBut.blk hkp HJ.out.b6 (by omega) (by simp)
            obtain ⟨o5, ho5, hs5⟩ := HJ.out.b5
            have g5 := KeepBut.blk hkp ho5 (by omega) (by simp)
            have hb6 := hbl _ _ HJ.out.bel (by have := HJ.out.lo; omega)
            refine hK.out _ _ ⟨g2, g6, ⟨_, hbk, by rfl⟩, ⟨o5, g5, hs5⟩, hb6, HJ.out.lo⟩ (fun hHeld2 => ?_)
            clear hK K
            have HN := Aside0.mk (And.intro hbk (And.intro g5 hs5)); have HJ2 := Aside0.mk hHeld2; clear g2 g6 ho5 hs5 g5 hb6 hbk hkp hbl HO
            refine one_ (i := 3) (N := none) #[true, true, true, true] rfl rfl (by kernel_rfl) (by decide) (fun K hK => ?_)
            refine Go.Proofs.Ythapknnppabdaaa.Fill.skip_event (by rfl) rfl 31 _ _ rfl (p2 + 1 + 1) (row31 b3 (.slice A19 x.f18.length c19) (.slice none 0 0)) rfl rfl 31 o5 HN.out.2.1 (by kernel_rfl) (by rw [HN.out.2.2]; rfl) (by kernel_rfl) ?_
            intro w7 hbk hkp hbl
            have g2 := KeepBut.blk hkp HJ2.out.b2 (by omega) (by simp)
            have g6 := KeepBut.blk hkp HJ2.out.b6 (by omega) (by simp)
            have g4 := KeepBut.blk hkp HN.out.1 (by omega) (by simp)
            have hb7 := hbl _ _ HJ2.out.bel (by have := HJ2.out.lo; omega)
            refine hK.out _ _ ⟨g2, g6, ⟨_, g4, by rfl⟩, ⟨_, hbk, by rfl⟩, hb7, HJ2.out.lo⟩ (fun hHeld3 => ?_)
            clear hK K
            refine done_ (by kernel_rfl) ?_
            try go_wp2
            refine bodyPost_ret (results_cc (fn := Try.f10) (p := 4) (p' := 5) (ty := 29) (ty' := 31) (by rfl) _ _ (p2 + 1) (p2 + 1 + 1) 29 31 (row29 a3 (.slice A16 x.f15.length c16) (.slice none 0 0) (.slice A20 x.f19.length c20)) (row31 b3 (.slice A19 x.f18.length c19) (.slice none 0 0)) (0, 0) (0, 0) _ _ (by rfl) g4 hu29.out rfl (by kernel_rfl) (by rfl) hbk hu31.out rfl (by kernel_rfl)) rfl ?_
            have HE := Aside0.mk hb7
            refine ⟨_, _, rfl, rfl, rfl, ?_, ?_, hb7⟩
            · have q8 := O8.out; rw [ha.out] at q8; change outB ansB x.f8 15 = _ at q8; have q9 := O9.out; (first | rw [ha2.out, ha.out] at q9 | rw [ha.out] at q9); change outB ansB x.f9 8 = _ at q9; rw [spM_1 x _ _ q8 q9]; (first | rw [ha3.out, ha2.out, ha.out] | rw [ha3.out, ha.out] | rw [ha2.out, ha.out] | rw [ha.out]); exact k29_mk _ { x with f17 := noText, f18 := [], f8 := (bif _ then quest else x.f8), f9 := (bif _ then quest else x.f9) } HG.out.1 (Kd.C_below HG.out.2.1 HE.out) (Nat.le_refl _) (nilC _ _) HG.out.2.2.2.2.1 (Kd.C_below HG.out.2.2.2.2.2 HE.out)
            · have q8 := O8.out; rw [ha.out] at q8; change outB ansB x.f8 15 = _ at q8; have q9 := O9.out; (first | rw [ha2.out, ha.out] at q9 | rw [ha.out] at q9); change outB ansB x.f9 8 = _ at q9; rw [spR_1 x _ _ q8 q9]; (first | rw [hb3.out, hb2.out, hb.out] | rw [hb3.out, hb.out] | rw [hb2.out, hb.out] | rw [hb.out]); (try rw [ha2.out]); (try rw [ha.out]); exact k31_mk _ ⟨x.f17, (bif _ then x.f8 else noText), (bif _ then x.f9 else noText), x.f18, []⟩ HG.out.2.2.1 (Kd.C_below HG.out.2.2.2.1 HE.out) (Nat.le_refl _) (nilC _ _)
      · have m0 : (a.f8.toList == ([] : List UInt8)) = false := beq_eq_false_iff_ne.mpr h8
        have m1 : (a.f8.toList != ([] : List UInt8)) = true := bne_iff_ne.mpr h8
        replace h8 := Aside0.mk h8
        cases q0 : ansB a.f8 15 with
        | true =>
          have O8 : Aside0 (outB ansB a.f8 15 = false) := ⟨by unfold outB; rw [q0, m1]; rfl⟩
          go_upto_region 10 with (go_at_call 19; refine (ans19 _ _ _ S8.out).mono ?_; rintro e w58 ⟨rfl, hd⟩; rw [q0]; have J58 := Aside0.mk (J2.out.below hd.below); clear hd; have c5 : w58.cell? ⟨p2, 8, none⟩ = some (.string a.f8) := (blk_cell J58.out.b2 8).trans rfl; have z5 := blk_frozen J58.out.b2 8; have d5 : w58.cell? ⟨p2 + 1 + 1 + 1, 1, none⟩ = some (.string b.f1) := (blk_cell J58.out.b6 1).trans rfl; have y5 : w58.frozen? ⟨p2 + 1 + 1 + 1, 1, none⟩ = false := blk_frozen J58.out.b6 1)
          clear m0 m1 c8 z8 c5 z5 d5 y5 q0
          have c8 : w58.cell? ⟨p2, 9, none⟩ = some (.string a.f9) := (blk_cell J58.out.b2 9).trans rfl
          have z8 := blk_frozen J58.out.b2 9
          by_cases h9 : a.f9.toList = []
          · have m0 : (a.f9.toList == ([] : List UInt8)) = true := beq_iff_eq.mpr h9
            have m1 : (a.f9.toList != ([] : List UInt8)) = false := bne_eq_false_iff_eq.mpr h9
            have O9 : Aside0 (outB ansB a.f9 8 = false) := ⟨by unfold outB; rw [m1]; rfl⟩
            replace h9 := Aside0.mk h9
            go_upto_region 12 with fail
            clear m0 m1 c8 z8
            replace J58 := Aside0.mk (J58.out.below (below_drew1 (Below.refl _ w58)))
            refine start_ (n := 4) (ds := []) (S := fun w' => JT w p2 a (.slice A16 x.f15.length c16) (.slice none 0 0) (.slice A20 x.f19.length c20) b (.slice A19 x.f18.length c19) (.slice none 0 0) w') #[false, false, false, false] (by rfl) (by rfl) (by rfl) J58.out (fun hHeld => ?_)
            generalize w58.drew = wd at hHeld ⊢
            refine take_ (i := 0) (N := some 51) (v := .agg (row29 a (.slice A16 x.f15.length c16) (.slice none 0 0) (.slice A20 x.f19.length c20))) (a' := ?_) #[true, false, false, false] rfl rfl (by kernel_rfl) (fun _ _ _ h => h) (Or.inl ⟨by rfl, fun w' hs => Go.Proofs.Ythapknnppabdaaa.Fill.row_yields 29 _ rfl p2 rfl 29 _ (0, 0) _ hs.b2 hu29.out rfl (by kernel_rfl)⟩) hHeld ?_ ?_
            rotate_left
            · simp only [Act.put, List.setIfInBounds_toArray, List.set_cons_zero, List.set_cons_succ, i64_w, i32_w]; rfl
            refine take_ (i := 1) (N := some 52) (v := .agg (row31 b (.slice A19 x.f18.length c19) (.slice none 0 0))) (a' := ?_) #[true, true, false, false] rfl rfl (by kernel_rfl) (fun _ _ _ h => h) (Or.inl ⟨by rfl, fun w' hs => Go.Proofs.Ythapknnppabdaaa.Fill.row_yields 31 _ rfl (p2 + 1 + 1 + 1) rfl 31 _ (0, 0) _ hs.b6 hu31.out rfl (by kernel_rfl)⟩) hHeld ?_ ?_
            rotate_left
            · simp only [Act.put, List.setIfInBounds_toArray, List.set_cons_zero, List.set_cons_succ, i64_w, i32_w]; rfl
            obtain ⟨old, ho, hsz⟩ := hHeld.b4; have HO := Aside0.mk (And.intro ho hsz); clear ho hsz
            have HJ := Aside0.mk hHeld
            refine one_ (i := 2) (N := none) #[true, true, true, false] rfl rfl (by kernel_rfl) (by decide) (fun K hK => ?_)
            refine Go.Proofs.Ythapknnppabdaaa.Fill.skip_event (by rfl) rfl 29 _ _ rfl (p2 + 1) (row29 a (.slice A16 x.f15.length c16) (.slice none 0 0) (.slice A20 x.f19.length c20)) rfl rfl 29 old HO.out.1 (by kernel_rfl) (by rw [HO.out.2]; rfl) (by kernel_rfl) ?_
            intro w6 hbk hkp hbl
            have g2 := KeepBut.blk hkp HJ.out.b2 (by omega) (by simp)
            have g6 := KeepBut.blk hkp HJ.out.b6 (by omega) (by simp)
            obtain ⟨o5, ho5, hs5⟩ := HJ.out.b5
            have g5 := KeepBut.blk hkp ho5 (by omega) (by simp)
            have hb6 := hbl _ _ HJ.out.bel (by have := HJ.out.lo; omega)
            refine hK.out _ _ ⟨g2, g6, ⟨_, hbk, by rfl⟩, ⟨o5, g5, hs5⟩, hb6, HJ.out.lo⟩ (fun hHeld2 => ?_)
            clear hK K
            have HN := Aside0.mk (And.intro hbk (And.intro g5 hs5)); have HJ2 := Aside0.mk hHeld2; clear g2 g6 ho5 hs5 g5 hb6 hbk hkp hbl HO
            refine one_ (i := 3) (N := none) #[true, true, true, true] rfl rfl (by kernel_rfl) (by decide) (fun K hK => ?_)
            refine Go.Proofs.Ythapknnppabdaaa.Fill.skip_event (by rfl) rfl 31 _ _ rfl (p2 + 1 + 1) (row31 b (.slice A19 x.f18.length c19) (.slice none 0 0)) rfl rfl 31 o5 HN.out.2.1 (by kernel_rfl) (by rw [HN.out.2.2]; rfl) (by kernel_rfl) ?_
            intro w7 hbk hkp hbl
            have g2 := KeepBut.blk hkp HJ2.out.b2 (by omega) (by simp)
            have g6 := KeepBut.blk hkp HJ2.out.b6 (by omega) (by simp)
            have g4 := KeepBut.blk hkp HN.out.1 (by omega) (by simp)
            have hb7 := hbl _ _ HJ2.out.bel (by have := HJ2.out.lo; omega)
            refine hK.out _ _ ⟨g2, g6, ⟨_, g4, by rfl⟩, ⟨_, hbk, by rfl⟩, hb7, HJ2.out.lo⟩ (fun hHeld3 => ?_)
            clear hK K
            refine done_ (by kernel_rfl) ?_
            try go_wp2
            refine bodyPost_ret (results_cc (fn := Try.f10) (p := 4) (p' := 5) (ty := 29) (ty' := 31) (by rfl) _ _ (p2 + 1) (p2 + 1 + 1) 29 31 (row29 a (.slice A16 x.f15.length c16) (.slice none 0 0) (.slice A20 x.f19.length c20)) (row31 b (.slice A19 x.f18.length c19) (.slice none 0 0)) (0, 0) (0, 0) _ _ (by rfl) g4 hu29.out rfl (by kernel_rfl) (by rfl) hbk hu31.out rfl (by kernel_rfl)) rfl ?_
            have HE := Aside0.mk hb7
            refine ⟨_, _, rfl, rfl, rfl, ?_, ?_, hb7⟩
            · have q8 := O8.out; rw [ha.out] at q8; change outB ansB x.f8 15 = _ at q8; have q9 := O9.out; (first | rw [ha2.out, ha.out] at q9 | rw [ha.out] at q9); change outB ansB x.f9 8 = _ at q9; rw [spM_1 x _ _ q8 q9]; (first | rw [ha3.out, ha2.out, ha.out] | rw [ha3.out, ha.out] | rw [ha2.out, ha.out] | rw [ha.out]); exact k29_mk _ { x with f17 := noText, f18 := [], f8 := (bif _ then quest else x.f8), f9 := (bif _ then quest else x.f9) } HG.out.1 (Kd.C_below HG.out.2.1 HE.out) (Nat.le_refl _) (nilC _ _) HG.out.2.2.2.2.1 (Kd.C_below HG.out.2.2.2.2.2 HE.out)
            · have q8 := O8.out; rw [ha.out] at q8; change outB ansB x.f8 15 = _ at q8; have q9 := O9.out; (first | rw [ha2.out, ha.out] at q9 | rw [ha.out] at q9); change outB ansB x.f9 8 = _ at q9; rw [spR_1 x _ _ q8 q9]; (first | rw [hb3.out, hb2.out, hb.out] | rw [hb3.out, hb.out] | rw [hb2.out, hb.out] | rw [hb.out]); (try rw [ha2.out]); (try rw [ha.out]); exact k31_mk _ ⟨x.f17, (bif _ then x.f8 else noText), (bif _ then x.f9 else noText), x.f18, []⟩ HG.out.2.2.1 (Kd.C_below HG.out.2.2.2.1 HE.out) (Nat.le_refl _) (nilC _ _)
          · have m0 : (a.f9.toList == ([] : List UInt8)) = false := beq_eq_false_iff_ne.mpr h9
            have m1 : (a.f9.toList != ([] : List UInt8)) = true := bne_iff_ne.mpr h9
            replace h9 := Aside0.mk h9
            cases q0 : ansB a.f9 8 with
            | true =>
              have O9 : Aside0 (outB ansB a.f9 8 = false) := ⟨by unfold outB; rw [q0, m1]; rfl⟩
              go_upto_region 12 with (go_at_call 19; refine (ans19 _ _ _ S9.out).mono ?_; rintro e w59 ⟨rfl, hd⟩; rw [q0]; have J59 := Aside0.mk (J58.out.below hd.below); clear hd; have c5 : w59.cell? ⟨p2, 9, none⟩ = some (.string a.f9) := (blk_cell J59.out.b2 9).trans rfl; have z5 := blk_frozen J59.out.b2 9; have d5 : w59.cell? ⟨p2 + 1 + 1 + 1, 2, none⟩ = some (.string b.f2) := (blk_cell J59.out.b6 2).trans rfl; have y5 : w59.frozen? ⟨p2 + 1 + 1 + 1, 2, none⟩ = false := blk_frozen J59.out.b6 2)
              clear m0 m1 c8 z8 c5 z5 d5 y5 q0
              replace J59 := Aside0.mk (J59.out.below (below_drew1 (Below.refl _ w59)))
              refine start_ (n := 4) (ds := []) (S := fun w' => JT w p2 a (.slice A16 x.f15.length c16) (.slice none 0 0) (.slice A20 x.f19.length c20) b (.slice A19 x.f18.length c19) (.slice none 0 0) w') #[false, false, false, false] (by rfl) (by rfl) (by rfl) J59.out (fun hHeld => ?_)
              generalize w59.drew = wd at hHeld ⊢
              refine take_ (i := 0) (N := some 51) (v := .agg (row29 a (.slice A16 x.f15.length c16) (.slice none 0 0) (.slice A20 x.f19.length c20))) (a' := ?_) #[true, false, false, false] rfl rfl (by kernel_rfl) (fun _ _ _ h => h) (Or.inl ⟨by rfl, fun w' hs => Go.Proofs.Ythapknnppabdaaa.Fill.row_yields 29 _ rfl p2 rfl 29 _ (0, 0) _ hs.b2 hu29.out rfl (by kernel_rfl)⟩) hHeld ?_ ?_
              rotate_left
              · simp only [Act.put, List.setIfInBounds_toArray, List.set_cons_zero, List.set_cons_succ, i64_w, i32_w]; rfl
              refine take_ (i := 1) (N := some 52) (v := .agg (row31 b (.slice A19 x.f18.length c19) (.slice none 0 0))) (a' := ?_) #[true, true, false, false] rfl rfl (by kernel_rfl) (fun _ _ _ h => h) (Or.inl ⟨by rfl, fun w' hs => Go.Proofs.Ythapknnppabdaaa.Fill.row_yields 31 _ rfl (p2 + 1 + 1 + 1) rfl 31 _ (0, 0) _ hs.b6 hu31.out rfl (by kernel_rfl)⟩) hHeld ?_ ?_
              rotate_left
              · simp only [Act.put, List.setIfInBounds_toArray, List.set_cons_zero, List.set_cons_succ, i64_w, i32_w]; rfl
              obtain ⟨old, ho, hsz⟩ := hHeld.b4; have HO := Aside0.mk (And.intro ho hsz); clear ho hsz
              have HJ := Aside0.mk hHeld
              refine one_ (i := 2) (N := none) #[true, true, true, false] rfl rfl (by kernel_rfl) (by decide) (fun K hK => ?_)
              refine Go.Proofs.Ythapknnppabdaaa.Fill.skip_event (by rfl) rfl 29 _ _ rfl (p2 + 1) (row29 a (.slice A16 x.f15.length c16) (.slice none 0 0) (.slice A20 x.f19.length c20)) rfl rfl 29 old HO.out.1 (by kernel_rfl) (by rw [HO.out.2]; rfl) (by kernel_rfl) ?_
              intro w6 hbk hkp hbl
              have g2 := KeepBut.blk hkp HJ.out.b2 (by omega) (by simp)
              have g6 := KeepBut.blk hkp HJ.out.b6 (by omega) (by simp)
              obtain ⟨o5, ho5, hs5⟩ := HJ.out.b5
              have g5 := KeepBut.blk hkp ho5 (by omega) (by simp)
              have hb6 := hbl _ _ HJ.out.bel (by have := HJ.out.lo; omega)
              refine hK.out _ _ ⟨g2, g6, ⟨_, hbk, by rfl⟩, ⟨o5, g5, hs5⟩, hb6, HJ.out.lo⟩ (fun hHeld2 => ?_)
              clear hK K
              have HN := Aside0.mk (And.intro hbk (And.intro g5 hs5)); have HJ2 := Aside0.mk hHeld2; clear g2 g6 ho5 hs5 g5 hb6 hbk hkp hbl HO
              refine one_ (i := 3) (N := none) #[true, true, true, true] rfl rfl (by kernel_rfl) (by decide) (fun K hK => ?_)
              refine Go.Proofs.Ythapknnppabdaaa.Fill.skip_event (by rfl) rfl 31 _ _ rfl (p2 + 1 + 1) (row31 b (.slice A19 x.f18.length c19) (.slice none 0 0)) rfl rfl 31 o5 HN.out.2.1 (by kernel_rfl) (by rw [HN.out.2.2]; rfl) (by kernel_rfl) ?_
              intro w7 hbk hkp hbl
              have g2 := KeepBut.blk hkp HJ2.out.b2 (by omega) (by simp)
              have g6 := KeepBut.blk hkp HJ2.out.b6 (by omega) (by simp)
              have g4 := KeepBut.blk hkp HN.out.1 (by omega) (by simp)
              have hb7 := hbl _ _ HJ2.out.bel (by have := HJ2.out.lo; omega)
              refine hK.out _ _ ⟨g2, g6, ⟨_, g4, by rfl⟩, ⟨_, hbk, by rfl⟩, hb7, HJ2.out.lo⟩ (fun hHeld3 => ?_)
              clear hK K
              refine done_ (by kernel_rfl) ?_
              try go_wp2
              refine bodyPost_ret (results_cc (fn := Try.f10) (p := 4) (p' := 5) (ty := 29) (ty' := 31) (by rfl) _ _ (p2 + 1) (p2 + 1 + 1) 29 31 (row29 a (.slice A16 x.f15.length c16) (.slice none 0 0) (.slice A20 x.f19.length c20)) (row31 b (.slice A19 x.f18.length c19) (.slice none 0 0)) (0, 0) (0, 0) _ _ (by rfl) g4 hu29.out rfl (by kernel_rfl) (by rfl) hbk hu31.out rfl (by kernel_rfl)) rfl ?_
              have HE := Aside0.mk hb7
              refine ⟨_, _, rfl, rfl, rfl, ?_, ?_, hb7⟩
              · have q8 := O8.out; rw [ha.out] at q8; change outB ansB x.f8 15 = _ at q8; have q9 := O9.out; (first | rw [ha2.out, ha.out] at q9 | rw [ha.out] at q9); change outB ansB x.f9 8 = _ at q9; rw [spM_1 x _ _ q8 q9]; (first | rw [ha3.out, ha2.out, ha.out] | rw [ha3.out, ha.out] | rw [ha2.out, ha.out] | rw [ha.out]); exact k29_mk _ { x with f17 := noText, f18 := [], f8 := (bif _ then quest else x.f8), f9 := (bif _ then quest else x.f9) } HG.out.1 (Kd.C_below HG.out.2.1 HE.out) (Nat.le_refl _) (nilC _ _) HG.out.2.2.2.2.1 (Kd.C_below HG.out.2.2.2.2.2 HE.out)
              · have q8 := O8.out; rw [ha.out] at q8; change outB ansB x.f8 15 = _ at q8; have q9 := O9.out; (first | rw [ha2.out, ha.out] at q9 | rw [ha.out] at q9); change outB ansB x.f9 8 = _ at q9; rw [spR_1 x _ _ q8 q9]; (first | rw [hb3.out, hb2.out, hb.out] | rw [hb3.out, hb.out] | rw [hb2.out, hb.out] | rw [hb.out]); (try rw [ha2.out]); (try rw [ha.out]); exact k31_mk _ ⟨x.f17, (bif _ then x.f8 else noText), (bif _ then x.f9 else noText), x.f18, []⟩ HG.out.2.2.1 (Kd.C_below HG.out.2.2.2.1 HE.out) (Nat.le_refl _) (nilC _ _)
            | false =>
              have O9 : Aside0 (outB ansB a.f9 8 = true) := ⟨by unfold outB; rw [q0, m1]; rfl⟩
              go_upto_region 12 with (go_at_call 19; refine (ans19 _ _ _ S9.out).mono ?_; rintro e w59 ⟨rfl, hd⟩; rw [q0]; have J59 := Aside0.mk (J58.out.below hd.below); clear hd; have c5 : w59.cell? ⟨p2, 9, none⟩ = some (.string a.f9) := (blk_cell J59.out.b2 9).trans rfl; have z5 := blk_frozen J59.out.b2 9; have d5 : w59.cell? ⟨p2 + 1 + 1 + 1, 2, none⟩ = some (.string b.f2) := (blk_cell J59.out.b6 2).trans rfl; have y5 : w59.frozen? ⟨p2 + 1 + 1 + 1, 2, none⟩ = false := blk_frozen J59.out.b6 2)
              have J4 := (J59.out.set6 (y' := { b with f2 := a.f9 }) (v3' := .slice A19 x.f18.length c19) (v4' := .slice none 0 0) 2 (.string a.f9) rfl).set2 (x' := { a with f9 := quest }) (v19' := .slice none 0 0) (v20' := .slice A20 x.f19.length c20) 9 (.string quest) rfl
              revert J4; change JT _ _ _ _ _ _ _ _ _ ((w59.setCell ⟨p2 + 1 + 1 + 1, 2, none⟩ (.string a.f9)).setCell ⟨p2, 9, none⟩ (.string ⟨#[63]⟩)) → _; generalize ((World.setCell w59 _ _).setCell _ _) = W4; intro J4; replace J4 := Aside0.mk J4
              clear m0 m1 c8 z8 c5 z5 d5 y5 q0
              obtain ⟨a3, ha3⟩ : ∃ q, q = ({ a with f9 := quest } : S29) := ⟨_, rfl⟩; obtain ⟨b3, hb3⟩ : ∃ q, q = ({ b with f2 := a.f9 } : S31) := ⟨_, rfl⟩
              replace J4 := Aside0.mk (show JT w p2 a3 (.slice A16 x.f15.length c16) (.slice none 0 0) (.slice A20 x.f19.length c20) b3 (.slice A19 x.f18.length c19) (.slice none 0 0) W4 by rw [ha3, hb3]; exact J4.out)
              replace ha3 := Aside0.mk ha3; replace hb3 := Aside0.mk hb3
              replace J4 := Aside0.mk (J4.out.below (below_drew1 (Below.refl _ W4)))
              refine start_ (n := 4) (ds := []) (S := fun w' => JT w p2 a3 (.slice A16 x.f15.length c16) (.slice none 0 0) (.slice A20 x.f19.length c20) b3 (.slice A19 x.f18.length c19) (.slice none 0 0) w') #[false, false, false, false] (by rfl) (by rfl) (by rfl) J4.out (fun hHeld => ?_)
              generalize W4.drew = wd at hHeld ⊢
              refine take_ (i := 0) (N := some 51) (v := .agg (row29 a3 (.slice A16 x.f15.length c16) (.slice none 0 0) (.slice A20 x.f19.length c20))) (a' := ?_) #[true, false, false, false] rfl rfl (by kernel_rfl) (fun _ _ _ h => h) (Or.inl ⟨by rfl, fun w' hs => Go.Proofs.Ythapknnppabdaaa.Fill.row_yields 29 _ rfl p2 rfl 29 _ (0, 0) _ hs.b2 hu29.out rfl (by kernel_rfl)⟩) hHeld ?_ ?_
              rotate_left
              · simp only [Act.put, List.setIfInBounds_toArray, List.set_cons_zero, List.set_cons_succ, i64_w, i32_w]; rfl
              refine take_ (i := 1) (N := some 52) (v := .agg (row31 b3 (.slice A19 x.f18.length c19) (.slice none 0 0))) (a' := ?_) #[true, true, false, false] rfl rfl (by kernel_rfl) (fun _ _ _ h => h) (Or.inl ⟨by rfl, fun w' hs => Go.Proofs.Ythapknnppabdaaa.Fill.row_yields 31 _ rfl (p2 + 1 + 1 + 1) rfl 31 _ (0, 0) _ hs.b6 hu31.out rfl (by kernel_rfl)⟩) hHeld ?_ ?_
              rotate_left
              · simp only [Act.put, List.setIfInBounds_toArray, List.set_cons_zero, List.set_cons_succ, i64_w, i32_w]; rfl
              obtain ⟨old, ho, hsz⟩ := hHeld.b4; have HO := Aside0.mk (And.intro ho hsz); clear ho hsz
              have HJ := Aside0.mk hHeld
              refine one_ (i := 2) (N := none) #[true, true, true, false] rfl rfl (by kernel_rfl) (by decide) (fun K hK => ?_)
              refine Go.Proofs.Ythapknnppabdaaa.Fill.skip_event (by rfl) rfl 29 _ _ rfl (p2 + 1) (row29 a3 (.slice A16 x.f15.length c16) (.slice none 0 0) (.slice A20 x.f19.length c20)) rfl rfl 29 old HO.out.1 (by kernel_rfl) (by rw [HO.out.2]; rfl) (by kernel_rfl) ?_
              intro w6 hbk hkp hbl
              have g2 := KeepBut.blk hkp HJ.out.b2 (by omega) (by simp)
              have g6 := KeepBut.blk hkp HJ.out.b6 (by omega) (by simp)
              obtain ⟨o5, ho5, hs5⟩ := HJ.out.b5
              have g5 := KeepBut.blk hkp ho5 (by omega) (by simp)
              have hb6 := hbl _ _ HJ.out.bel (by have := HJ.out.lo; omega)
              refine hK.out _ _ ⟨g2, g6, ⟨_, hbk, by rfl⟩, ⟨o5, g5, hs5⟩, hb6, HJ.out.lo⟩ (fun hHeld2 => ?_)
              clear hK K
              have HN := Aside0.mk (And.intro hbk (And.intro g5 hs5)); have HJ2 := Aside0.mk hHeld2; clear g2 g6 ho5 hs5 g5 hb6 hbk hkp hbl HO
              refine one_ (i := 3) (N := none) #[true, true, true, true] rfl rfl (by kernel_rfl) (by decide) (fun K hK => ?_)
              refine Go.Proofs.Ythapknnppabdaaa.Fill.skip_event (by rfl) rfl 31 _ _ rfl (p2 + 1 + 1) (row31 b3 (.slice A19 x.f18.length c19) (.slice none 0 0)) rfl rfl 31 o5 HN.out.2.1 (by kernel_rfl) (by rw [HN.out.2.2]; rfl) (by kernel_rfl) ?_
              intro w7 hbk hkp hbl
              have g2 := KeepBut.blk hkp HJ2.out.b2 (by omega) (by simp)
              have g6 := KeepBut.blk hkp HJ2.out.b6 (by omega) (by simp)
              have g4 := KeepBut.blk hkp HN.out.1 (by omega) (by simp)
              have hb7 := hbl _ _ HJ2.out.bel (by have := HJ2.out.lo; omega)
              refine hK.out _ _ ⟨g2, g6, ⟨_, g4, by rfl⟩, ⟨_, hbk, by rfl⟩, hb7, HJ2.out.lo⟩ (fun hHeld3 => ?_)
              clear hK K
              refine done_ (by kernel_rfl) ?_
              try go_wp2
              refine bodyPost_ret (results_cc (fn := Try.f10) (p := 4) (p' := 5) (ty := 29) (ty' := 31) (by rfl) _ _ (p2 + 1) (p2 + 1 + 1) 29 31 (row29 a3 (.slice A16 x.f15.length c16) (.slice none 0 0) (.slice A20 x.f19.length c20)) (row31 b3 (.slice A19 x.f18.length c19) (.slice none 0 0)) (0, 0) (0, 0) _ _ (by rfl) g4 hu29.out rfl (by kernel_rfl) (by rfl) hbk hu31.out rfl (by kernel_rfl)) rfl ?_
              have HE := Aside0.mk hb7
              refine ⟨_, _, rfl, rfl, rfl, ?_, ?_, hb7⟩
              · have q8 := O8.out; rw [ha.out] at q8; change outB ansB x.f8 15 = _ at q8; have q9 := O9.out; (first | rw [ha2.out, ha.out] at q9 | rw [ha.out] at q9); change outB ansB x.f9 8 = _ at q9; rw [spM_1 x _ _ q8 q9]; (first | rw [ha3.out, ha2.out, ha.out] | rw [ha3.out, ha.out] | rw [ha2.out, ha.out] | rw [ha.out]); exact k29_mk _ { x with f17 := noText, f18 := [], f8 := (bif _ then quest else x.f8), f9 := (bif _ then quest else x.f9) } HG.out.1 (Kd.C_below HG.out.2.1 HE.out) (Nat.le_refl _) (nilC _ _) HG.out.2.2.2.2.1 (Kd.C_below HG.out.2.2.2.2.2 HE.out)
              · have q8 := O8.out; rw [ha.out] at q8; change outB ansB x.f8 15 = _ at q8; have q9 := O9.out; (first | rw [ha2.out, ha.out] at q9 | rw [ha.out] at q9); change outB ansB x.f9 8 = _ at q9; rw [spR_1 x _ _ q8 q9]; (first | rw [hb3.out, hb2.out, hb.out] | rw [hb3.out, hb.out] | rw [hb2.out, hb.out] | rw [hb.out]); (try rw [ha2.out]); (try rw [ha.out]); exact k31_mk _ ⟨x.f17, (bif _ then x.f8 else noText), (bif _ then x.f9 else noText), x.f18, []⟩ HG.out.2.2.1 (Kd.C_below HG.out.2.2.2.1 HE.out) (Nat.le_refl _) (nilC _ _)
        | false =>
          have O8 : Aside0 (outB ansB a.f8 15 = true) := ⟨by unfold outB; rw [q0, m1]; rfl⟩
          go_upto_region 10 with (go_at_call 19; refine (ans19 _ _ _ S8.out).mono ?_; rintro e w58 ⟨rfl, hd⟩; rw [q0]; have J58 := Aside0.mk (J2.out.below hd.below); clear hd; have c5 : w58.cell? ⟨p2, 8, none⟩ = some (.string a.f8) := (blk_cell J58.out.b2 8).trans rfl; have z5 := blk_frozen J58.out.b2 8; have d5 : w58.cell? ⟨p2 + 1 + 1 + 1, 1, none⟩ = some (.string b.f1) := (blk_cell J58.out.b6 1).trans rfl; have y5 : w58.frozen? ⟨p2 + 1 + 1 + 1, 1, none⟩ = false := blk_frozen J58.out.b6 1)
          have J3 := (J58.out.set6 (y' := { b with f1 := a.f8 }) (v3' := .slice A19 x.f18.length c19) (v4' := .slice none 0 0) 1 (.string a.f8) rfl).set2 (x' := { a with f8 := quest }) (v19' := .slice none 0 0) (v20' := .slice A20 x.f19.length c20) 8 (.string quest) rfl
          revert J3; change JT _ _ _ _ _ _ _ _ _ ((w58.setCell ⟨p2 + 1 + 1 + 1, 1, none⟩ (.string a.f8)).setCell ⟨p2, 8, none⟩ (.string ⟨#[63]⟩)) → _; generalize ((World.setCell w58 _ _).setCell _ _) = W3; intro J3; replace J3 := Aside0.mk J3
          clear m0 m1 c8 z8 c5 z5 d5 y5 q0
          obtain ⟨a2, ha2⟩ : ∃ q, q = ({ a with f8 := quest } : S29) := ⟨_, rfl⟩; obtain ⟨b2, hb2⟩ : ∃ q, q = ({ b with f1 := a.f8 } : S31) := ⟨_, rfl⟩
          replace J3 := Aside0.mk (show JT w p2 a2 (.slice A16 x.f15.length c16) (.slice none 0 0) (.slice A20 x.f19.length c20) b2 (.slice A19 x.f18.length c19) (.slice none 0 0) W3 by rw [ha2, hb2]; exact J3.out)
          replace S9 : Aside0 (a2.f9.size ≤ 140737488351232) := ⟨by rw [ha2]; exact S9.out⟩
          replace ha2 := Aside0.mk ha2; replace hb2 := Aside0.mk hb2
          have c8 : W3.cell? ⟨p2, 9, none⟩ = some (.string a2.f9) := (blk_cell J3.out.b2 9).trans rfl
          have z8 := blk_frozen J3.out.b2 9
          by_cases h9 : a2.f9.toList = []
          · have m0 : (a2.f9.toList == ([] : List UInt8)) = true := beq_iff_eq.mpr h9
            have m1 : (a2.f9.toList != ([] : List UInt8)) = false := bne_eq_false_iff_eq.mpr h9
            have O9 : Aside0 (outB ansB a2.f9 8 = false) := ⟨by unfold outB; rw [m1]; rfl⟩
            replace h9 := Aside0.mk h9
            go_upto_region 12 with fail
            clear m0 m1 c8 z8
            replace J3 := Aside0.mk (J3.out.below (below_drew1 (Below.refl _ W3)))
            refine start_ (n := 4) (ds := []) (S := fun w' => JT w p2 a2 (.slice A16 x.f15.length c16) (.slice none 0 0) (.slice A20 x.f19.length c20) b2 (.slice A19 x.f18.length c19) (.slice none 0 0) w') #[false, false, false, false] (by rfl) (by rfl) (by rfl) J3.out (fun hHeld => ?_)
            generalize W3.drew = wd at hHeld ⊢
            refine take_ (i := 0) (N := some 51) (v := .agg (row29 a2 (.slice A16 x.f15.length c16) (.slice none 0 0) (.slice A20 x.f19.length c20))) (a' := ?_) #[true, false, false, false] rfl rfl (by kernel_rfl) (fun _ _ _ h => h) (Or.inl ⟨by rfl, fun w' hs => Go.Proofs.Ythapknnppabdaaa.Fill.row_yields 29 _ rfl p2 rfl 29 _ (0, 0) _ hs.b2 hu29.out rfl (by kernel_rfl)⟩) hHeld ?_ ?_
            rotate_left
            · simp only [Act.put, List.setIfInBounds_toArray, List.set_cons_zero, List.set_cons_succ, i64_w, i32_w]; rfl
            refine take_ (i := 1) (N := some 52) (v := .agg (row31 b2 (.slice A19 x.f18.length c19) (.slice none 0 0))) (a' := ?_) #[true, true, false, false] rfl rfl (by kernel_rfl) (fun _ _ _ h => h) (Or.inl ⟨by rfl, fun w' hs => Go.Proofs.Ythapknnppabdaaa.Fill.row_yields 31 _ rfl (p2 + 1 + 1 + 1) rfl 31 _ (0, 0) _ hs.b6 hu31.out rfl (by kernel_rfl)⟩) hHeld ?_ ?_
            rotate_left
            · simp only [Act.put, List.setIfInBounds_toArray, List.set_cons_zero, List.set_cons_succ, i64_w, i32_w]; rfl
            obtain ⟨old, ho, hsz⟩ := hHeld.b4; have HO := Aside0.mk (And.intro ho hsz); clear ho hsz
            have HJ := Aside0.mk hHeld
            refine one_ (i := 2) (N := none) #[true, true, true, false] rfl rfl (by kernel_rfl) (by decide) (fun K hK => ?_)
            refine Go.Proofs.Ythapknnppabdaaa.Fill.skip_event (by rfl) rfl 29 _ _ rfl (p2 + 1) (row29 a2 (.slice A16 x.f15.length c16) (.slice none 0 0) (.slice A20 x.f19.length c20)) rfl rfl 29 old HO.out.1 (by kernel_rfl) (by rw [HO.out.2]; rfl) (by kernel_rfl) ?_
            intro w6 hbk hkp hbl
            have g2 := KeepBut.blk hkp HJ.out.b2 (by omega) (by simp)
            have g6 := KeepBut.blk hkp HJ.out.b6 (by omega) (by simp)
            obtain ⟨o5, ho5, hs5⟩ := HJ.out.b5
            have g5 := KeepBut.blk hkp ho5 (by omega) (by simp)
            have hb6 := hbl _ _ HJ.out.bel (by have := HJ.out.lo; omega)
            refine hK.out _ _ ⟨g2, g6, ⟨_, hbk, by rfl⟩, ⟨o5, g5, hs5⟩, hb6, HJ.out.lo⟩ (fun hHeld2 => ?_)
            clear hK K
            have HN := Aside0.mk (And.intro hbk (And.intro g5 hs5)); have HJ2 := Aside0.mk hHeld2; clear g2 g6 ho5 hs5 g5 hb6 hbk hkp hbl HO
            refine one_ (i := 3) (N := none) #[true, true, true, true] rfl rfl (by kernel_rfl) (by decide) (fun K hK => ?_)
            refine Go.Proofs.Ythapknnppabdaaa.Fill.skip_event (by rfl) rfl 31 _ _ rfl (p2 + 1 + 1) (row31 b2 (.slice A19 x.f18.length c19) (.slice none 0 0)) rfl rfl 31 o5 HN.out.2.1 (by kernel_rfl) (by rw [HN.out.2.2]; rfl) (by kernel_rfl) ?_
            intro w7 hbk hkp hbl
            have g2 := KeepBut.blk hkp HJ2.out.b2 (by omega) (by simp)
            have g6 := KeepBut.blk hkp HJ2.out.b6 (by omega) (by simp)
            have g4 := KeepBut.blk hkp HN.out.1 (by omega) (by simp)
            have hb7 := hbl _ _ HJ2.out.bel (by have := HJ2.out.lo; omega)
            refine hK.out _ _ ⟨g2, g6, ⟨_, g4, by rfl⟩, ⟨_, hbk, by rfl⟩, hb7, HJ2.out.lo⟩ (fun hHeld3 => ?_)
            clear hK K
            refine done_ (by kernel_rfl) ?_
            try go_wp2
            refine bodyPost_ret (results_cc (fn := Try.f10) (p := 4) (p' := 5) (ty := 29) (ty' := 31) (by rfl) _ _ (p2 + 1) (p2 + 1 + 1) 29 31 (row29 a2 (.slice A16 x.f15.length c16) (.slice none 0 0) (.slice A20 x.f19.length c20)) (row31 b2 (.slice A19 x.f18.length c19) (.slice none 0 0)) (0, 0) (0, 0) _ _ (by rfl) g4 hu29.out rfl (by kernel_rfl) (by rfl) hbk hu31.out rfl (by kernel_rfl)) rfl ?_
            have HE := Aside0.mk hb7
            refine ⟨_, _, rfl, rfl, rfl, ?_, ?_, hb7⟩
            · have q8 := O8.out; rw [ha.out] at q8; change outB ansB x.f8 15 = _ at q8; have q9 := O9.out; (first | rw [ha2.out, ha.out] at q9 | rw [ha.out] at q9); change outB ansB x.f9 8 = _ at q9; rw [spM_1 x _ _ q8 q9]; (first | rw [ha3.out, ha2.out, ha.out] | rw [ha3.out, ha.out] | rw [ha2.out, ha.out] | rw [ha.out]); exact k29_mk _ { x with f17 := noText, f18 := [], f8 := (bif _ then quest else x.f8), f9 := (bif _ then quest else x.f9) } HG.out.1 (Kd.C_below HG.out.2.1 HE.out) (Nat.le_refl _) (nilC _ _) HG.out.2.2.2.2.1 (Kd.C_below HG.out.2.2.2.2.2 HE.out)
            · have q8 := O8.out; rw [ha.out] at q8; change outB ansB x.f8 15 = _ at q8; have q9 := O9.out; (first | rw [ha2.out, ha.out] at q9 | rw [ha.out] at q9); change outB ansB x.f9 8 = _ at q9; rw [spR_1 x _ _ q8 q9]; (first | rw [hb3.out, hb2.out, hb.out] | rw [hb3.out, hb.out] | rw [hb2.out, hb.out] | rw [hb.out]); (try rw [ha2.out]); (try rw [ha.out]); exact k31_mk _ ⟨x.f17, (bif _ then x.f8 else noText), (bif _ then x.f9 else noText), x.f18, []⟩ HG.out.2.2.1 (Kd.C_below HG.out.2.2.2.1 HE.out) (Nat.le_refl _) (nilC _ _)
          · have m0 : (a2.f9.toList == ([] : List UInt8)) = false := beq_eq_false_iff_ne.mpr h9
            have m1 : (a2.f9.toList != ([] : List UInt8)) = true := bne_iff_ne.mpr h9
            replace h9 := Aside0.mk h9
            cases q0 : ansB a2.f9 8 with
            | true =>
              have O9 : Aside0 (outB ansB a2.f9 8 = false) := ⟨by unfold outB; rw [q0, m1]; rfl⟩
              go_upto_region 12 with (go_at_call 19; refine (ans19 _ _ _ S9.out).mono ?_; rintro e w59 ⟨rfl, hd⟩; rw [q0]; have J59 := Aside0.mk (J3.out.below hd.below); clear hd; have c5 : w59.cell? ⟨p2, 9, none⟩ = some (.string a2.f9) := (blk_cell J59.out.b2 9).trans rfl; have z5 := blk_frozen J59.out.b2 9; have d5 : w59.cell? ⟨p2 + 1 + 1 + 1, 2, none⟩ = some (.string b2.f2) := (blk_cell J59.out.b6 2).trans rfl; have y5 : w59.frozen? ⟨p2 + 1 + 1 + 1, 2, none⟩ = false := blk_frozen J59.out.b6 2)
              clear m0 m1 c8 z8 c5 z5 d5 y5 q0
              replace J59 := Aside0.mk (J59.out.below (below_drew1 (Below.refl _ w59)))
              refine start_ (n := 4) (ds := []) (S := fun w' => JT w p2 a2 (.slice A16 x.f15.length c16) (.slice none 0 0) (.slice A20 x.f19.length c20) b2 (.slice A19 x.f18.length c19) (.slice none 0 0) w') #[false, false, false, false] (by rfl) (by rfl) (by rfl) J59.out (fun hHeld => ?_)
              generalize w59.drew = wd at hHeld ⊢
              refine take_ (i := 0) (N := some 51) (v := .agg (row29 a2 (.slice A16 x.f15.length c16) (.slice none 0 0) (.slice A20 x.f19.length c20))) (a' := ?_) #[true, false, false, false] rfl rfl (by kernel_rfl) (fun _ _ _ h => h) (Or.inl ⟨by rfl, fun w' hs => Go.Proofs.Ythapknnppabdaaa.Fill.row_yields 29 _ rfl p2 rfl 29 _ (0, 0) _ hs.b2 hu29.out rfl (by kernel_rfl)⟩) hHeld ?_ ?_
              rotate_left
              · simp only [Act.put, List.setIfInBounds_toArray, List.set_cons_zero, List.set_cons_succ, i64_w, i32_w]; rfl
              refine take_ (i := 1) (N := some 52) (v := .agg (row31 b2 (.slice A19 x.f18.length c19) (.slice none 0 0))) (a' := ?_) #[true, true, false, false] rfl rfl (by kernel_rfl) (fun _ _ _ h => h) (Or.inl ⟨by rfl, fun w' hs => Go.Proofs.Ythapknnppabdaaa.Fill.row_yields 31 _ rfl (p2 + 1 + 1 + 1) rfl 31 _ (0, 0) _ hs.b6 hu31.out rfl (by kernel_rfl)⟩) hHeld ?_ ?_
              rotate_left
              · simp only [Act.put, List.setIfInBounds_toArray, List.set_cons_zero, List.set_cons_succ, i64_w, i32_w]; rfl
              obtain ⟨old, ho, hsz⟩ := hHeld.b4; have HO := Aside0.mk (And.intro ho hsz); clear ho hsz
              have HJ := Aside0.mk hHeld
              refine one_ (i := 2) (N := none) #[true, true, true, false] rfl rfl (by kernel_rfl) (by decide) (fun K hK => ?_)
              refine Go.Proofs.Ythapknnppabdaaa.Fill.skip_event (by rfl) rfl 29 _ _ rfl (p2 + 1) (row29 a2 (.slice A16 x.f15.length c16) (.slice none 0 0) (.slice A20 x.f19.length c20)) rfl rfl 29 old HO.out.1 (by kernel_rfl) (by rw [HO.out.2]; rfl) (by kernel_rfl) ?_
              intro w6 hbk hkp hbl
              have g2 := KeepBut.blk hkp HJ.out.b2 (by omega) (by simp)
              have g6 := KeepBut.blk hkp HJ.out.b6 (by omega) (by simp)
              obtain ⟨o5, ho5, hs5⟩ := HJ.out.b5
              have g5 := KeepBut.blk hkp ho5 (by omega) (by simp)
              have hb6 := hbl _ _ HJ.out.bel (by have := HJ.out.lo; omega)
              refine hK.out _ _ ⟨g2, g6, ⟨_, hbk, by rfl⟩, ⟨o5, g5, hs5⟩, hb6, HJ.out.lo⟩ (fun hHeld2 => ?_)
              clear hK K
              have HN := Aside0.mk (And.intro hbk (And.intro g5 hs5)); have HJ2 := Aside0.mk hHeld2; clear g2 g6 ho5 hs5 g5 hb6 hbk hkp hbl HO
              refine one_ (i := 3) (N := none) #[true, true, true, true] rfl rfl (by kernel_rfl) (by decide) (fun K hK => ?_)
              refine Go.Proofs.Ythapknnppabdaaa.Fill.skip_event (by rfl) rfl 31 _ _ rfl (p2 + 1 + 1) (row31 b2 (.slice A19 x.f18.length c19) (.slice none 0 0)) rfl rfl 31 o5 HN.out.2.1 (by kernel_rfl) (by rw [HN.out.2.2]; rfl) (by kernel_rfl) ?_
              intro w7 hbk hkp hbl
              have g2 := KeepBut.blk hkp HJ2.out.b2 (by omega) (by simp)
              have g6 := KeepBut.blk hkp HJ2.out.b6 (by omega) (by simp)
              have g4 := KeepBut.blk hkp HN.out.1 (by omega) (by simp)
              have hb7 := hbl _ _ HJ2.out.bel (by have := HJ2.out.lo; omega)
              refine hK.out _ _ ⟨g2, g6, ⟨_, g4, by rfl⟩, ⟨_, hbk, by rfl⟩, hb7, HJ2.out.lo⟩ (fun hHeld3 => ?_)
              clear hK K
              refine done_ (by kernel_rfl) ?_
              try go_wp2
              refine bodyPost_ret (results_cc (fn := Try.f10) (p := 4) (p' := 5) (ty := 29) (ty' := 31) (by rfl) _ _ (p2 + 1) (p2 + 1 + 1) 29 31 (row29 a2 (.slice A16 x.f15.length c16) (.slice none 0 0) (.slice A20 x.f19.length c20)) (row31 b2 (.slice A19 x.f18.length c19) (.slice none 0 0)) (0, 0) (0, 0) _ _ (by rfl) g4 hu29.out rfl (by kernel_rfl) (by rfl) hbk hu31.out rfl (by kernel_rfl)) rfl ?_
              have HE := Aside0.mk hb7
              refine ⟨_, _, rfl, rfl, rfl, ?_, ?_, hb7⟩
              · have q8 := O8.out; rw [ha.out] at q8; change outB ansB x.f8 15 = _ at q8; have q9 := O9.out; (first | rw [ha2.out, ha.out] at q9 | rw [ha.out] at q9); change outB ansB x.f9 8 = _ at q9; rw [spM_1 x _ _ q8 q9]; (first | rw [ha3.out, ha2.out, ha.out] | rw [ha3.out, ha.out] | rw [ha2.out, ha.out] | rw [ha.out]); exact k29_mk _ { x with f17 := noText, f18 := [], f8 := (bif _ then quest else x.f8), f9 := (bif _ then quest else x.f9) } HG.out.1 (Kd.C_below HG.out.2.1 HE.out) (Nat.le_refl _) (nilC _ _) HG.out.2.2.2.2.1 (Kd.C_below HG.out.2.2.2.2.2 HE.out)
              · have q8 := O8.out; rw [ha.out] at q8; change outB ansB x.f8 15 = _ at q8; have q9 := O9.out; (first | rw [ha2.out, ha.out] at q9 | rw [ha.out] at q9); change outB ansB x.f9 8 = _ at q9; rw [spR_1 x _ _ q8 q9]; (first | rw [hb3.out, hb2.out, hb.out] | rw [hb3.out, hb.out] | rw [hb2.out, hb.out] | rw [hb.out]); (try rw [ha2.out]); (try rw [ha.out]); exact k31_mk _ ⟨x.f17, (bif _ then x.f8 else noText), (bif _ then x.f9 else noText), x.f18, []⟩ HG.out.2.2.1 (Kd.C_below HG.out.2.2.2.1 HE.out) (Nat.le_refl _) (nilC _ _)
            | false =>
              have O9 : Aside0 (outB ansB a2.f9 8 = true) := ⟨by unfold outB; rw [q0, m1]; rfl⟩
              go_upto_region 12 with (go_at_call 19; refine (ans19 _ _ _ S9.out).mono ?_; rintro e w59 ⟨rfl, hd⟩; rw [q0]; have J59 := Aside0.mk (J3.out.below hd.below); clear hd; have c5 : w59.cell? ⟨p2, 9, none⟩ = some (.string a2.f9) := (blk_cell J59.out.b2 9).trans rfl; have z5 := blk_frozen J59.out.b2 9; have d5 : w59.cell? ⟨p2 + 1 + 1 + 1, 2, none⟩ = some (.string b2.f2) := (blk_cell J59.out.b6 2).trans rfl; have y5 : w59.frozen? ⟨p2 + 1 + 1 + 1, 2, none⟩ = false := blk_frozen J59.out.b6 2)
              have J4 := (J59.out.set6 (y' := { b2 with f2 := a2.f9 }) (v3' := .slice A19 x.f18.length c19) (v4' := .slice none 0 0) 2 (.string a2.f9) rfl).set2 (x' := { a2 with f9 := quest }) (v19' := .slice none 0 0) (v20' := .slice A20 x.f19.length c20) 9 (.string quest) rfl
              revert J4; change JT _ _ _ _ _ _ _ _ _ ((w59.setCell ⟨p2 + 1 + 1 + 1, 2, none⟩ (.string a2.f9)).setCell ⟨p2, 9, none⟩ (.string ⟨#[63]⟩)) → _; generalize ((World.setCell w59 _ _).setCell _ _) = W4; intro J4; replace J4 := Aside0.mk J4
              clear m0 m1 c8 z8 c5 z5 d5 y5 q0
              obtain ⟨a3, ha3⟩ : ∃ q, q = ({ a2 with f9 := quest } : S29) := ⟨_, rfl⟩; obtain ⟨b3, hb3⟩ : ∃ q, q = ({ b2 with f2 := a2.f9 } : S31) := ⟨_, rfl⟩
              replace J4 := Aside0.mk (show JT w p2 a3 (.slice A16 x.f15.length c16) (.slice none 0 0) (.slice A20 x.f19.length c20) b3 (.slice A19 x.f18.length c19) (.slice none 0 0) W4 by rw [ha3, hb3]; exact J4.out)
              replace ha3 := Aside0.mk ha3; replace hb3 := Aside0.mk hb3
              replace J4 := Aside0.mk (J4.out.below (below_drew1 (Below.refl _ W4)))
              refine start_ (n := 4) (ds := []) (S := fun w' => JT w p2 a3 (.slice A16 x.f15.length c16) (.slice none 0 0) (.slice A20 x.f19.length c20) b3 (.slice A19 x.f18.length c19) (.slice none 0 0) w') #[false, false, false, false] (by rfl) (by rfl) (by rfl) J4.out (fun hHeld => ?_)
              generalize W4.drew = wd at hHeld ⊢
              refine take_ (i := 0) (N := some 51) (v := .agg (row29 a3 (.slice A16 x.f15.length c16) (.slice none 0 0) (.slice A20 x.f19.length c20))) (a' := ?_) #[true, false, false, false] rfl rfl (by kernel_rfl) (fun _ _ _ h => h) (Or.inl ⟨by rfl, fun w' hs => Go.Proofs.Ythapknnppabdaaa.Fill.row_yields 29 _ rfl p2 rfl 29 _ (0, 0) _ hs.b2 hu29.out rfl (by kernel_rfl)⟩) hHeld ?_ ?_
              rotate_left
              · simp only [Act.put, List.setIfInBounds_toArray, List.set_cons_zero, List.set_cons_succ, i64_w, i32_w]; rfl
              refine take_ (i := 1) (N := some 52) (v := .agg (row31 b3 (.slice A19 x.f18.length c19) (.slice none 0 0))) (a' := ?_) #[true, true, false, false] rfl rfl (by kernel_rfl) (fun _ _ _ h => h) (Or.inl ⟨by rfl, fun w' hs => Go.Proofs.Ythapknnppabdaaa.Fill.row_yields 31 _ rfl (p2 + 1 + 1 + 1) rfl 31 _ (0, 0) _ hs.b6 hu31.out rfl (by kernel_rfl)⟩) hHeld ?_ ?_
              rotate_left
              · simp only [Act.put, List.setIfInBounds_toArray, List.set_cons_zero, List.set_cons_succ, i64_w, i32_w]; rfl
              obtain ⟨old, ho, hsz⟩ := hHeld.b4; have HO := Aside0.mk (And.intro ho hsz); clear ho hsz
              have HJ := Aside0.mk hHeld
              refine one_ (i := 2) (N := none) #[true, true, true, false] rfl rfl (by kernel_rfl) (by decide) (fun K hK => ?_)
              refine Go.Proofs.Ythapknnppabdaaa.Fill.skip_event (by rfl) rfl 29 _ _ rfl (p2 + 1) (row29 a3 (.slice A16 x.f15.length c16) (.slice none 0 0) (.slice A20 x.f19.length c20)) rfl rfl 29 old HO.out.1 (by kernel_rfl) (by rw [HO.out.2]; rfl) (by kernel_rfl) ?_
              intro w6 hbk hkp hbl
              have g2 := KeepBut.blk hkp HJ.out.b2 (by omega) (by simp)
              have g6 := KeepBut.blk hkp HJ.out.b6 (by omega) (by simp)
              obtain ⟨o5, ho5, hs5⟩ := HJ.out.b5
              have g5 := KeepBut.blk hkp ho5 (by omega) (by simp)
              have hb6 := hbl _ _ HJ.out.bel (by have := HJ.out.lo; omega)
              refine hK.out _ _ ⟨g2, g6, ⟨_, hbk, by rfl⟩, ⟨o5, g5, hs5⟩, hb6, HJ.out.lo⟩ (fun hHeld2 => ?_)
              clear hK K
              have HN := Aside0.mk (And.intro hbk (And.intro g5 hs5)); have HJ2 := Aside0.mk hHeld2; clear g2 g6 ho5 hs5 g5 hb6 hbk hkp hbl HO
              refine one_ (i := 3) (N := none) #[true, true, true, true] rfl rfl (by kernel_rfl) (by decide) (fun K hK => ?_)
              refine Go.Proofs.Ythapknnppabdaaa.Fill.skip_event (by rfl) rfl 31 _ _ rfl (p2 + 1 + 1) (row31 b3 (.slice A19 x.f18.length c19) (.slice none 0 0)) rfl rfl 31 o5 HN.out.2.1 (by kernel_rfl) (by rw [HN.out.2.2]; rfl) (by kernel_rfl) ?_
              intro w7 hbk hkp hbl
              have g2 := KeepBut.blk hkp HJ2.out.b2 (by omega) (by simp)
              have g6 := KeepBut.blk hkp HJ2.out.b6 (by omega) (by simp)
              have g4 := KeepBut.blk hkp HN.out.1 (by omega) (by simp)
              have hb7 := hbl _ _ HJ2.out.bel (by have := HJ2.out.lo; omega)
              refine hK.out _ _ ⟨g2, g6, ⟨_, g4, by rfl⟩, ⟨_, hbk, by rfl⟩, hb7, HJ2.out.lo⟩ (fun hHeld3 => ?_)
              clear hK K
              refine done_ (by kernel_rfl) ?_
              try go_wp2
              refine bodyPost_ret (results_cc (fn := Try.f10) (p := 4) (p' := 5) (ty := 29) (ty' := 31) (by rfl) _ _ (p2 + 1) (p2 + 1 + 1) 29 31 (row29 a3 (.slice A16 x.f15.length c16) (.slice none 0 0) (.slice A20 x.f19.length c20)) (row31 b3 (.slice A19 x.f18.length c19) (.slice none 0 0)) (0, 0) (0, 0) _ _ (by rfl) g4 hu29.out rfl (by kernel_rfl) (by rfl) hbk hu31.out rfl (by kernel_rfl)) rfl ?_
              have HE := Aside0.mk hb7
              refine ⟨_, _, rfl, rfl, rfl, ?_, ?_, hb7⟩
              · have q8 := O8.out; rw [ha.out] at q8; change outB ansB x.f8 15 = _ at q8; have q9 := O9.out; (first | rw [ha2.out, ha.out] at q9 | rw [ha.out] at q9); change outB ansB x.f9 8 = _ at q9; rw [spM_1 x _ _ q8 q9]; (first | rw [ha3.out, ha2.out, ha.out] | rw [ha3.out, ha.out] | rw [ha2.out, ha.out] | rw [ha.out]); exact k29_mk _ { x with f17 := noText, f18 := [], f8 := (bif _ then quest else x.f8), f9 := (bif _ then quest else x.f9) } HG.out.1 (Kd.C_below HG.out.2.1 HE.out) (Nat.le_refl _) (nilC _ _) HG.out.2.2.2.2.1 (Kd.C_below HG.out.2.2.2.2.2 HE.out)
              · have q8 := O8.out; rw [ha.out] at q8; change outB ansB x.f8 15 = _ at q8; have q9 := O9.out; (first | rw [ha2.out, ha.out] at q9 | rw [ha.out] at q9); change outB ansB x.f9 8 = _ at q9; rw [spR_1 x _ _ q8 q9]; (first | rw [hb3.out, hb2.out, hb.out] | rw [hb3.out, hb.out] | rw [hb2.out, hb.out] | rw [hb.out]); (try rw [ha2.out]); (try rw [ha.out]); exact k31_mk _ ⟨x.f17, (bif _ then x.f8 else noText), (bif _ then x.f9 else noText), x.f18, []⟩ HG.out.2.2.1 (Kd.C_below HG.out.2.2.2.1 HE.out) (Nat.le_refl _) (nilC _ _)
    · have b1 : (side == 1) = false := beq_eq_false_iff_ne.mpr s1
      replace s0 := Aside0.mk s0; replace s1 := Aside0.mk s1
      go_upto_region 12 with fail
      replace J0 := Aside0.mk (J0.out.below (below_drew1 (Below.refl _ W1)))
      refine start_ (n := 4) (ds := []) (S := fun w' => JT w p2 x (.slice A16 x.f15.length c16) (.slice A19 x.f18.length c19) (.slice A20 x.f19.length c20) ⟨noText, noText, noText, [], []⟩ (.slice none 0 0) (.slice none 0 0) w') #[false, false, false, false] (by rfl) (by rfl) (by rfl) J0.out (fun hHeld => ?_)
      generalize W1.drew = wd at hHeld ⊢
      refine take_ (i := 0) (N := some 51) (v := .agg (row29 x (.slice A16 x.f15.length c16) (.slice A19 x.f18.length c19) (.slice A20 x.f19.length c20))) (a' := ?_) #[true, false, false, false] rfl rfl (by kernel_rfl) (fun _ _ _ h => h) (Or.inl ⟨by rfl, fun w' hs => Go.Proofs.Ythapknnppabdaaa.Fill.row_yields 29 _ rfl p2 rfl 29 _ (0, 0) _ hs.b2 hu29.out rfl (by kernel_rfl)⟩) hHeld ?_ ?_
      rotate_left
      · simp only [Act.put, List.setIfInBounds_toArray, List.set_cons_zero, List.set_cons_succ, i64_w, i32_w]; rfl
      refine take_ (i := 1) (N := some 52) (v := .agg (row31 ⟨noText, noText, noText, [], []⟩ (.slice none 0 0) (.slice none 0 0))) (a' := ?_) #[true, true, false, false] rfl rfl (by kernel_rfl) (fun _ _ _ h => h) (Or.inl ⟨by rfl, fun w' hs => Go.Proofs.Ythapknnppabdaaa.Fill.row_yields 31 _ rfl (p2 + 1 + 1 + 1) rfl 31 _ (0, 0) _ hs.b6 hu31.out rfl (by kernel_rfl)⟩) hHeld ?_ ?_
      rotate_left
      · simp only [Act.put, List.setIfInBounds_toArray, List.set_cons_zero, List.set_cons_succ, i64_w, i32_w]; rfl
      obtain ⟨old, ho, hsz⟩ := hHeld.b4; have HO := Aside0.mk (And.intro ho hsz); clear ho hsz
      have HJ := Aside0.mk hHeld
      refine one_ (i := 2) (N := none) #[true, true, true, false] rfl rfl (by kernel_rfl) (by decide) (fun K hK => ?_)
      refine Go.Proofs.Ythapknnppabdaaa.Fill.skip_event (by rfl) rfl 29 _ _ rfl (p2 + 1) (row29 x (.slice A16 x.f15.length c16) (.slice A19 x.f18.length c19) (.slice A20 x.f19.length c20)) rfl rfl 29 old HO.out.1 (by kernel_rfl) (by rw [HO.out.2]; rfl) (by kernel_rfl) ?_
      intro w6 hbk hkp hbl
      have g2 := KeepBut.blk hkp HJ.out.b2 (by omega) (by simp)
      have g6 := KeepBut.blk hkp HJ.out.b6 (by omega) (by simp)
      obtain ⟨o5, ho5, hs5⟩ := HJ.out.b5
      have g5 := KeepBut.blk hkp ho5 (by omega) (by simp)
      have hb6 := hbl _ _ HJ.out.bel (by have := HJ.out.lo; omega)
      refine hK.out _ _ ⟨g2, g6, ⟨_, hbk, by rfl⟩, ⟨o5, g5, hs5⟩, hb6, HJ.out.lo⟩ (fun hHeld2 => ?_)
      clear hK K
      have HN := Aside0.mk (And.intro hbk (And.intro g5 hs5)); have HJ2 := Aside0.mk hHeld2; clear g2 g6 ho5 hs5 g5 hb6 hbk hkp hbl HO
      refine one_ (i := 3) (N := none) #[true, true, true, true] rfl rfl (by kernel_rfl) (by decide) (fun K hK => ?_)
      refine Go.Proofs.Ythapknnppabdaaa.Fill.skip_event (by rfl) rfl 31 _ _ rfl (p2 + 1 + 1) (row31 ⟨noText, noText, noText, [], []⟩ (.slice none 0 0) (.slice none 0 0)) rfl rfl 31 o5 HN.out.2.1 (by kernel_rfl) (by rw [HN.out.2.2]; rfl) (by kernel_rfl) ?_
      intro w7 hbk hkp hbl
      have g2 := KeepBut.blk hkp HJ2.out.b2 (by omega) (by simp)
      have g6 := KeepBut.blk hkp HJ2.out.b6 (by omega) (by simp)
      have g4 := KeepBut.blk hkp HN.out.1 (by omega) (by simp)
      have hb7 := hbl _ _ HJ2.out.bel (by have := HJ2.out.lo; omega)
      refine hK.out _ _ ⟨g2, g6, ⟨_, g4, by rfl⟩, ⟨_, hbk, by rfl⟩, hb7, HJ2.out.lo⟩ (fun hHeld3 => ?_)
      clear hK K
      refine done_ (by kernel_rfl) ?_
      try go_wp2
      refine bodyPost_ret (results_cc (fn := Try.f10) (p := 4) (p' := 5) (ty := 29) (ty' := 31) (by rfl) _ _ (p2 + 1) (p2 + 1 + 1) 29 31 (row29 x (.slice A16 x.f15.length c16) (.slice A19 x.f18.length c19) (.slice A20 x.f19.length c20)) (row31 ⟨noText, noText, noText, [], []⟩ (.slice none 0 0) (.slice none 0 0)) (0, 0) (0, 0) _ _ (by rfl) g4 hu29.out rfl (by kernel_rfl) (by rfl) hbk hu31.out rfl (by kernel_rfl)) rfl ?_
      have HE := Aside0.mk hb7
      refine ⟨_, _, rfl, rfl, rfl, ?_, ?_, hb7⟩
      · rw [show spM ansB x side = x from (if_neg s0.out).trans (if_neg s1.out)]; exact k29_mk _ x HG.out.1 (Kd.C_below HG.out.2.1 HE.out) HG.out.2.2.1 (Kd.C_below HG.out.2.2.2.1 HE.out) HG.out.2.2.2.2.1 (Kd.C_below HG.out.2.2.2.2.2 HE.out)
      · rw [show spR ansB x side = ⟨noText, noText, noText, [], []⟩ from (if_neg s0.out).trans (if_neg s1.out)]; exact k31_mk _ ⟨noText, noText, noText, [], []⟩ (Nat.le_refl _) (nilC _ _) (Nat.le_refl _) (nilC _ _)
end Go.Proofs.Ythapknnppabdaaa.MR
