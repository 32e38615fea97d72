/- comptoirref16.Join: the walk. -/
import Derived.Test.YthapknnppabdaaaHJoin14
namespace Go.Proofs.Ythapknnppabdaaa.MR
open Go.RowKit Go.Proofs.YthapknnppabdaaaW.PrintWords Go.Proofs.YthapknnppabdaaaW.PrintLast Go.Proofs.YthapknnppabdaaaW.PrintMore
set_option linter.unusedVariables false
set_option linter.unusedSimpArgs false

theorem js_start (w : World) (x : S29) (v16 v19 v20 : Value) (y : S31) (v3 v4 : Value) (z : Array Value) (hz : z.size = 21) (h : k29.K w x (row29 x v16 v19 v20).toList) :
    JS w w.heap.size x v16 v19 v20 y v3 v4 (((w.alloc (.cells (row29 x v16 v19 v20) 29)).alloc (.cells (row31 y v3 v4) 31)).alloc (.cells z 29)) := by
  have hb : Below w.heap.size w (((w.alloc (.cells (row29 x v16 v19 v20) 29)).alloc (.cells (row31 y v3 v4) 31)).alloc (.cells z 29)) := below_alloc (below_alloc (below_alloc (Below.refl _ w) _) _) _
  refine ⟨blk_alloc (blk_alloc (blk_new w _) _) _, ?_, ⟨z, ?_, hz⟩, hb, Nat.le_refl _, fun W' _ hb' => k29.K_below hb' h⟩
  · have := blk_new (w.alloc (.cells (row29 x v16 v19 v20) 29)) (.cells (row31 y v3 v4) 31)
    rw [show (w.alloc (.cells (row29 x v16 v19 v20) 29)).heap.size = w.heap.size + 1 by simp] at this
    exact blk_alloc this _
  · have := blk_new ((w.alloc (.cells (row29 x v16 v19 v20) 29)).alloc (.cells (row31 y v3 v4) 31)) (.cells z 29)
    rw [show ((w.alloc (.cells (row29 x v16 v19 v20) 29)).alloc (.cells (row31 y v3 v4) 31)).heap.size = w.heap.size + 2 by simp] at this
    exact this
set_option maxHeartbeats 8000000 in
set_option maxRecDepth 100000 in
theorem join14 (x : S29) (y : S31) (mc rc : Array Value) (w : World) (h : k29.K w x mc.toList) (g : k31.K w y rc.toList) (h3 : y.f3.length ≤ 4398046511104) (h4 : y.f4.length ≤ 4398046511104) :
    Calls Try.prog 14 #[.agg mc, .agg rc] w fun e w' => ∃ nc : Array Value, e = .returned (.agg nc) ∧ nc.size = 21 ∧ k29.K w' (joinG x y) nc.toList ∧ Below w.heap.size w w' := by
  have hu29 := Aside0.mk Try.underlying29
  obtain ⟨A16, c16, A19, c19, A20, c20, e, l16, g16, l19, g19, l20, g20⟩ := k29_open h
  obtain ⟨A3, c3, A4, c4, e', l3, g3, l4, g4⟩ := k31_open g
  have em : mc = row29 x (.slice A16 x.f15.length c16) (.slice A19 x.f18.length c19) (.slice A20 x.f19.length c20) := Array.toList_inj.1 e
  have er : rc = row31 y (.slice A3 y.f3.length c3) (.slice A4 y.f4.length c4) := Array.toList_inj.1 e'
  rw [em] at h ⊢
  rw [er]
  have HG := Aside0.mk (And.intro g3 g4)
  have HK := Aside0.mk h
  have HL := Aside0.mk (And.intro h3 h4)
  generalize (.slice A16 x.f15.length c16 : Value) = v16 at HK ⊢
  generalize (.slice A19 x.f18.length c19 : Value) = v19 at HK ⊢
  generalize (.slice A20 x.f19.length c20 : Value) = v20 at HK ⊢
  clear e e' em er l16 g16 l19 g19 l20 g20 l3 g3 l4 g4 h g h3 h4
  go_enter Try.func14, Try.ntmps14
  go_upto_region 1 with fail
  obtain ⟨p2, hp2⟩ : ∃ p, p = w.heap.size := ⟨_, rfl⟩
  have J0 := js_start w x v16 v19 v20 y (.slice A3 y.f3.length c3) (.slice A4 y.f4.length c4) #[.int .i64 0, .int .i64 0, .string ⟨#[]⟩, .string ⟨#[]⟩, .string ⟨#[]⟩, .string ⟨#[]⟩, .int .u64 0, .string ⟨#[]⟩, .string ⟨#[]⟩, .string ⟨#[]⟩, .string ⟨#[]⟩, .int .i64 0, .string ⟨#[]⟩, .string ⟨#[]⟩, .int .i64 0, .string ⟨#[]⟩, .slice none 0 0, .string ⟨#[]⟩, .string ⟨#[]⟩, .slice none 0 0, .slice none 0 0] rfl HK.out
  rw [← hp2] at J0 ⊢; clear hp2; revert J0
  generalize (((w.alloc _).alloc _).alloc _) = W1; intro J0
  replace J0 := Aside0.mk J0
  have c0 : W1.cell? ⟨p2 + 1, 0, none⟩ = some (.string y.f0) := (blk_cell J0.out.b3 0).trans rfl
  have c18 : W1.cell? ⟨p2, 18, none⟩ = some (.string x.f17) := (blk_cell J0.out.b2 18).trans rfl
  go_upto_region 2 with (go_at_call 33; refine (or33 _ _ _).mono ?_; rintro e w5 ⟨rfl, hd⟩; have J5 := (J0).out.below hd.below; clear hd; have z5 := blk_frozen J5.b2 18; have d5 : w5.cell? ⟨p2, 18, none⟩ = some (.string x.f17) := (blk_cell J5.b2 18).trans rfl)
  obtain ⟨a, ha⟩ : ∃ q, q = ({ x with f17 := pickB y.f0 x.f17 } : S29) := ⟨_, rfl⟩
  have J2 := J5.set (x' := a) (v19' := v19) (v20' := v20) 18 (.string (pickB y.f0 x.f17)) (by rw [ha]; rfl) (by rw [ha]; exact fun W' _ _ hk => K_text hk rfl rfl rfl)
  revert J2; generalize (World.setCell w5 _ _) = W2; intro J2; replace J2 := Aside0.mk J2; replace ha := Aside0.mk ha
  clear z5 d5 J5 c0 c18 J0
  have c8 : W2.cell? ⟨p2, 8, none⟩ = some (.string a.f8) := (blk_cell J2.out.b2 8).trans rfl
  by_cases h8 : a.f8.toList = []
  · have m0 : (a.f8.toList == ([] : List UInt8)) = true := beq_iff_eq.mpr h8
    have m1 : (a.f8.toList != ([] : List UInt8)) = false := bne_eq_false_iff_eq.mpr h8
    replace h8 := Aside0.mk h8
    go_upto_region 4 with fail
    clear m0 m1 c8
    have c8 : W2.cell? ⟨p2, 9, none⟩ = some (.string a.f9) := (blk_cell J2.out.b2 9).trans rfl
    by_cases h9 : a.f9.toList = []
    · have m0 : (a.f9.toList == ([] : List UInt8)) = true := beq_iff_eq.mpr h9
      have m1 : (a.f9.toList != ([] : List UInt8)) = false := bne_eq_false_iff_eq.mpr h9
      replace h9 := Aside0.mk h9
      go_upto_region 6 with fail
      clear m0 m1 c8
      have q1 : W2.cell? ⟨p2 + 1, 3, none⟩ = some (.slice A3 y.f3.length c3) := (blk_cell J2.out.b3 3).trans rfl
      by_cases l3 : y.f3.length > 0
      · have m0 : decide ((0 : Int) < (y.f3.length : Int)) = true := decide_eq_true (by omega)
        have m1 : decide (0 < y.f3.length) = true := decide_eq_true (by omega)
        have m2 : (0 : Int) < (y.f3.length : Int) := by omega
        replace l3 := Aside0.mk l3
        have zf := blk_frozen J2.out.b2 19
        have df : W2.cell? ⟨p2, 19, none⟩ = some v19 := (blk_cell J2.out.b2 19).trans rfl
        have hlt : p2 + 2 < W2.heap.size := by obtain ⟨old, ho, _⟩ := J2.out.b4; exact blk_lt ho
        replace hlt := Aside0.mk hlt
        go_upto_region 8 with (at_builtin; refine copy_row k48 (w := w) (p2 + 2) rfl (.const (.slice none 0 0)) (.tmp 34) 26 48 (.agg #[(.string ⟨#[]⟩), (.string ⟨#[]⟩)]) 32 rfl Try.underlying26 info48 rfl (by decide) (by decide) y.f3 A3 c3 rfl rfl HG.out.1 J2.out.bel hlt.out (by have := HL.out.1; omega) ?_; intro A1 d1 w5 hc1 hC1 hb1; have J5 := J2.out.below hb1; have z5 := blk_frozen J5.b2 19; have d5 : w5.cell? ⟨p2, 19, none⟩ = some v19 := (blk_cell J5.b2 19).trans rfl)
        obtain ⟨d, hd⟩ : ∃ q, q = ({ a with f18 := y.f3 } : S29) := ⟨_, rfl⟩
        have J6 := J5.set (x' := d) (v19' := (.slice A1 y.f3.length d1)) (v20' := v20) 19 (.slice A1 y.f3.length d1) (by rw [hd]; rfl) (by rw [hd]; exact fun W' hl hb hk => K_extra hk hc1 (hC1 W' hl hb))
        revert J6; generalize (World.setCell w5 _ _) = W6; intro J6; replace J6 := Aside0.mk J6; replace hd := Aside0.mk hd
        clear z5 d5 J5 m0 m1 m2 q1 zf df hC1
        generalize (.slice A1 y.f3.length d1 : Value) = u19 at J6; clear hc1
        have q1 : W6.cell? ⟨p2 + 1, 4, none⟩ = some (.slice A4 y.f4.length c4) := (blk_cell J6.out.b3 4).trans rfl
        by_cases l4 : y.f4.length > 0
        · have m0 : decide ((0 : Int) < (y.f4.length : Int)) = true := decide_eq_true (by omega)
          have m1 : decide (0 < y.f4.length) = true := decide_eq_true (by omega)
          have m2 : (0 : Int) < (y.f4.length : Int) := by omega
          replace l4 := Aside0.mk l4
          have zf := blk_frozen J6.out.b2 20
          have df : W6.cell? ⟨p2, 20, none⟩ = some v20 := (blk_cell J6.out.b2 20).trans rfl
          have hlt : p2 + 2 < W6.heap.size := by obtain ⟨old, ho, _⟩ := J6.out.b4; exact blk_lt ho
          replace hlt := Aside0.mk hlt
          go_upto_region 10 with (at_builtin; refine copy_row k52 (w := w) (p2 + 2) rfl (.const (.slice none 0 0)) (.tmp 42) 27 52 (.agg #[(.int .i64 0), (.slice none 0 0)]) 32 rfl Try.underlying27 info52 rfl (by decide) (by decide) y.f4 A4 c4 rfl rfl HG.out.2 J6.out.bel hlt.out (by have := HL.out.2; omega) ?_; intro A1 d1 w5 hc1 hC1 hb1; have J5 := J6.out.below hb1; have z5 := blk_frozen J5.b2 20; have d5 : w5.cell? ⟨p2, 20, none⟩ = some v20 := (blk_cell J5.b2 20).trans rfl)
          obtain ⟨f, hf⟩ : ∃ q, q = ({ d with f19 := y.f4 } : S29) := ⟨_, rfl⟩
          have J7 := J5.set (x' := f) (v19' := u19) (v20' := (.slice A1 y.f4.length d1)) 20 (.slice A1 y.f4.length d1) (by rw [hf]; rfl) (by rw [hf]; exact fun W' hl hb hk => K_other hk hc1 (hC1 W' hl hb))
          revert J7; generalize (World.setCell w5 _ _) = W7; intro J7; replace J7 := Aside0.mk J7; replace hf := Aside0.mk hf
          clear z5 d5 J5 m0 m1 m2 q1 zf df hC1
          generalize (.slice A1 y.f4.length d1 : Value) = u20 at J7; clear hc1
          obtain ⟨old, ho, hsz⟩ := J7.out.b4; have HO := Aside0.mk (And.intro ho hsz); clear ho hsz
          go_wp2_with (first | ((with_reducible refine gate_dst (N := 45) rfl ?_); refine wpList_load_row rfl 29 (.tmp 2) rfl p2 rfl 29 (row29 f v16 u19 u20) (0, 0) _ J7.out.b2 hu29.out rfl (by kernel_rfl) ?_) | ((with_reducible refine gate_store (t := 29) (p := 4) rfl ?_); refine Go.Proofs.Ythapknnppabdaaa.Fill.store_event rfl 29 _ _ rfl (p2 + 1 + 1) (row29 f v16 u19 u20) rfl rfl 29 old HO.out.1 (by kernel_rfl) (by rw [HO.out.2]; rfl) (by show Array.all _ _ = true; rw [Array.all_eq_true]; intro i hi; exact k29.K_one (J7.out.k29' _ (Later.refl _ _) J7.out.bel) _ (by rw [Array.mem_toList_iff]; exact Array.getElem_mem hi)) ?_; intro w6 h6 hkeep hbk; have HS6 := Aside0.mk (And.intro h6 (And.intro hkeep hbk)); clear h6 hkeep hbk))
          refine bodyPost_ret (results_cell_row (fn := Try.f14) (p := 4) (ty := 29) (by rfl) _ _ (p2 + 1 + 1) 29 (row29 f v16 u19 u20) (0, 0) _ (by rfl) HS6.out.1 hu29.out rfl (by kernel_rfl)) rfl ?_
          have hb6 := HS6.out.2.2 _ _ J7.out.bel (by have := J7.out.lo; omega)
          have hl6 : Later (p2 + 2) W7 w6 := ⟨HS6.out.2.1.1, fun k h1 h2 => HS6.out.2.1.2 k h2 (by omega) (by simp)⟩
          have hj : joinG x y = f := by have ha := ha.out; (try have hb := hb.out); (try have hc := hc.out); (try have hd := hd.out); (try have hf := hf.out); have h8 := h8.out; have h9 := h9.out; have l3 := l3.out; have l4 := l4.out; show jO (jE (jT (jM (jN x y) y) y) y) y = _; rw [show jN x y = a from ha.symm]; (first | rw [jM_pos y h8] | (rw [jM_neg y h8, ← hb])); (first | rw [jT_pos y h9] | (rw [jT_neg y h9, ← hc])); (first | (rw [jE_pos _ l3, ← hd]) | rw [jE_neg _ l3]); (first | (rw [jO_pos _ l4, ← hf]) | rw [jO_neg _ l4])
          refine ⟨_, rfl, rfl, ?_, hb6⟩
          rw [hj]; exact J7.out.k29' w6 hl6 hb6
        · have m0 : decide ((0 : Int) < (y.f4.length : Int)) = false := decide_eq_false (by omega)
          have m1 : decide (0 < y.f4.length) = false := decide_eq_false (by omega)
          have m2 : ¬ (0 : Int) < (y.f4.length : Int) := by omega
          replace l4 := Aside0.mk l4
          go_upto_region 10 with fail
          clear m0 m1 m2 q1
          obtain ⟨old, ho, hsz⟩ := J6.out.b4; have HO := Aside0.mk (And.intro ho hsz); clear ho hsz
          go_wp2_with (first | ((with_reducible refine gate_dst (N := 45) rfl ?_); refine wpList_load_row rfl 29 (.tmp 2) rfl p2 rfl 29 (row29 d v16 u19 v20) (0, 0) _ J6.out.b2 hu29.out rfl (by kernel_rfl) ?_) | ((with_reducible refine gate_store (t := 29) (p := 4) rfl ?_); refine Go.Proofs.Ythapknnppabdaaa.Fill.store_event rfl 29 _ _ rfl (p2 + 1 + 1) (row29 d v16 u19 v20) rfl rfl 29 old HO.out.1 (by kernel_rfl) (by rw [HO.out.2]; rfl) (by show Array.all _ _ = true; rw [Array.all_eq_true]; intro i hi; exact k29.K_one (J6.out.k29' _ (Later.refl _ _) J6.out.bel) _ (by rw [Array.mem_toList_iff]; exact Array.getElem_mem hi)) ?_; intro w6 h6 hkeep hbk; have HS6 := Aside0.mk (And.intro h6 (And.intro hkeep hbk)); clear h6 hkeep hbk))
          refine bodyPost_ret (results_cell_row (fn := Try.f14) (p := 4) (ty := 29) (by rfl) _ _ (p2 + 1 + 1) 29 (row29 d v16 u19 v20) (0, 0) _ (by rfl) HS6.out.1 hu29.out rfl (by kernel_rfl)) rfl ?_
          have hb6 := HS6.out.2.2 _ _ J6.out.bel (by have := J6.out.lo; omega)
          have hl6 : Later (p2 + 2) W6 w6 := ⟨HS6.out.2.1.1, fun k h1 h2 => HS6.out.2.1.2 k h2 (by omega) (by simp)⟩
          have hj : joinG x y = d := by have ha := ha.out; (try have hb := hb.out); (try have hc := hc.out); (try have hd := hd.out); (try have hf := hf.out); have h8 := h8.out; have h9 := h9.out; have l3 := l3.out; have l4 := l4.out; show jO (jE (jT (jM (jN x y) y) y) y) y = _; rw [show jN x y = a from ha.symm]; (first | rw [jM_pos y h8] | (rw [jM_neg y h8, ← hb])); (first | rw [jT_pos y h9] | (rw [jT_neg y h9, ← hc])); (first | (rw [jE_pos _ l3, ← hd]) | rw [jE_neg _ l3]); (first | (rw [jO_pos _ l4, ← hf]) | rw [jO_neg _ l4])
          refine ⟨_, rfl, rfl, ?_, hb6⟩
          rw [hj]; exact J6.out.k29' w6 hl6 hb6
      · have m0 : decide ((0 : Int) < (y.f3.length : Int)) = false := decide_eq_false (by omega)
        have m1 : decide (0 < y.f3.length) = false := decide_eq_false (by omega)
        have m2 : ¬ (0 : Int) < (y.f3.length : Int) := by omega
        replace l3 := Aside0.mk l3
        go_upto_region 8 with fail
        clear m0 m1 m2 q1
        have q1 : W2.cell? ⟨p2 + 1, 4, none⟩ = some (.slice A4 y.f4.length c4) := (blk_cell J2.out.b3 4).trans rfl
        by_cases l4 : y.f4.length > 0
        · have m0 : decide ((0 : Int) < (y.f4.length : Int)) = true := decide_eq_true (by omega)
          have m1 : decide (0 < y.f4.length) = true := decide_eq_true (by omega)
          have m2 : (0 : Int) < (y.f4.length : Int) := by omega
          replace l4 := Aside0.mk l4
          have zf := blk_frozen J2.out.b2 20
          have df : W2.cell? ⟨p2, 20, none⟩ = some v20 := (blk_cell J2.out.b2 20).trans rfl
          have hlt : p2 + 2 < W2.heap.size := by obtain ⟨old, ho, _⟩ := J2.out.b4; exact blk_lt ho
          replace hlt := Aside0.mk hlt
          go_upto_region 10 with (at_builtin; refine copy_row k52 (w := w) (p2 + 2) rfl (.const (.slice none 0 0)) (.tmp 42) 27 52 (.agg #[(.int .i64 0), (.slice none 0 0)]) 32 rfl Try.underlying27 info52 rfl (by decide) (by decide) y.f4 A4 c4 rfl rfl HG.out.2 J2.out.bel hlt.out (by have := HL.out.2; omega) ?_; intro A1 d1 w5 hc1 hC1 hb1; have J5 := J2.out.below hb1; have z5 := blk_frozen J5.b2 20; have d5 : w5.cell? ⟨p2, 20, none⟩ = some v20 := (blk_cell J5.b2 20).trans rfl)
          obtain ⟨f, hf⟩ : ∃ q, q = ({ a with f19 := y.f4 } : S29) := ⟨_, rfl⟩
          have J7 := J5.set (x' := f) (v19' := v19) (v20' := (.slice A1 y.f4.length d1)) 20 (.slice A1 y.f4.length d1) (by rw [hf]; rfl) (by rw [hf]; exact fun W' hl hb hk => K_other hk hc1 (hC1 W' hl hb))
          revert J7; generalize (World.setCell w5 _ _) = W7; intro J7; replace J7 := Aside0.mk J7; replace hf := Aside0.mk hf
          clear z5 d5 J5 m0 m1 m2 q1 zf df hC1
          generalize (.slice A1 y.f4.length d1 : Value) = u20 at J7; clear hc1
          obtain ⟨old, ho, hsz⟩ := J7.out.b4; have HO := Aside0.mk (And.intro ho hsz); clear ho hsz
          go_wp2_with (first | ((with_reducible refine gate_dst (N := 45) rfl ?_); refine wpList_load_row rfl 29 (.tmp 2) rfl p2 rfl 29 (row29 f v16 v19 u20) (0, 0) _ J7.out.b2 hu29.out rfl (by kernel_rfl) ?_) | ((with_reducible refine gate_store (t := 29) (p := 4) rfl ?_); refine Go.Proofs.Ythapknnppabdaaa.Fill.store_event rfl 29 _ _ rfl (p2 + 1 + 1) (row29 f v16 v19 u20) rfl rfl 29 old HO.out.1 (by kernel_rfl) (by rw [HO.out.2]; rfl) (by show Array.all _ _ = true; rw [Array.all_eq_true]; intro i hi; exact k29.K_one (J7.out.k29' _ (Later.refl _ _) J7.out.bel) _ (by rw [Array.mem_toList_iff]; exact Array.getElem_mem hi)) ?_; intro w6 h6 hkeep hbk; have HS6 := Aside0.mk (And.intro h6 (And.intro hkeep hbk)); clear h6 hkeep hbk))
          refine bodyPost_ret (results_cell_row (fn := Try.f14) (p := 4) (ty := 29) (by rfl) _ _ (p2 + 1 + 1) 29 (row29 f v16 v19 u20) (0, 0) _ (by rfl) HS6.out.1 hu29.out rfl (by kernel_rfl)) rfl ?_
          have hb6 := HS6.out.2.2 _ _ J7.out.bel (by have := J7.out.lo; omega)
          have hl6 : Later (p2 + 2) W7 w6 := ⟨HS6.out.2.1.1, fun k h1 h2 => HS6.out.2.1.2 k h2 (by omega) (by simp)⟩
          have hj : joinG x y = f := by have ha := ha.out; (try have hb := hb.out); (try have hc := hc.out); (try have hd := hd.out); (try have hf := hf.out); have h8 := h8.out; have h9 := h9.out; have l3 := l3.out; have l4 := l4.out; show jO (jE (jT (jM (jN x y) y) y) y) y = _; rw [show jN x y = a from ha.symm]; (first | rw [jM_pos y h8] | (rw [jM_neg y h8, ← hb])); (first | rw [jT_pos y h9] | (rw [jT_neg y h9, ← hc])); (first | (rw [jE_pos _ l3, ← hd]) | rw [jE_neg _ l3]); (first | (rw [jO_pos _ l4, ← hf]) | rw [jO_neg _ l4])
          refine ⟨_, rfl, rfl, ?_, hb6⟩
          rw [hj]; exact J7.out.k29' w6 hl6 hb6
        · have m0 : decide ((0 : Int) < (y.f4.length : Int)) = false := decide_eq_false (by omega)
          have m1 : decide (0 < y.f4.length) = false := decide_eq_false (by omega)
          have m2 : ¬ (0 : Int) < (y.f4.length : Int) := by omega
          replace l4 := Aside0.mk l4
          go_upto_region 10 with fail
          clear m0 m1 m2 q1
          obtain ⟨old, ho, hsz⟩ := J2.out.b4; have HO := Aside0.mk (And.intro ho hsz); clear ho hsz
          go_wp2_with (first | ((with_reducible refine gate_dst (N := 45) rfl ?_); refine wpList_load_row rfl 29 (.tmp 2) rfl p2 rfl 29 (row29 a v16 v19 v20) (0, 0) _ J2.out.b2 hu29.out rfl (by kernel_rfl) ?_) | ((with_reducible refine gate_store (t := 29) (p := 4) rfl ?_); refine Go.Proofs.Ythapknnppabdaaa.Fill.store_event rfl 29 _ _ rfl (p2 + 1 + 1) (row29 a v16 v19 v20) rfl rfl 29 old HO.out.1 (by kernel_rfl) (by rw [HO.out.2]; rfl) (by show Array.all _ _ = true; rw [Array.all_eq_true]; intro i hi; exact k29.K_one (J2.out.k29' _ (Later.refl _ _) J2.out.bel) _ (by rw [Array.mem_toList_iff]; exact Array.getElem_mem hi)) ?_; intro w6 h6 hkeep hbk; have HS6 := Aside0.mk (And.intro h6 (And.intro hkeep hbk)); clear h6 hkeep hbk))
          refine bodyPost_ret (results_cell_row (fn := Try.f14) (p := 4) (ty := 29) (by rfl) _ _ (p2 + 1 + 1) 29 (row29 a v16 v19 v20) (0, 0) _ (by rfl) HS6.out.1 hu29.out rfl (by kernel_rfl)) rfl ?_
          have hb6 := HS6.out.2.2 _ _ J2.out.bel (by have := J2.out.lo; omega)
          have hl6 : Later (p2 + 2) W2 w6 := ⟨HS6.out.2.1.1, fun k h1 h2 => HS6.out.2.1.2 k h2 (by omega) (by simp)⟩
          have hj : joinG x y = a := by have ha := ha.out; (try have hb := hb.out); (try have hc := hc.out); (try have hd := hd.out); (try have hf := hf.out); have h8 := h8.out; have h9 := h9.out; have l3 := l3.out; have l4 := l4.out; show jO (jE (jT (jM (jN x y) y) y) y) y = _; rw [show jN x y = a from ha.symm]; (first | rw [jM_pos y h8] | (rw [jM_neg y h8, ← hb])); (first | rw [jT_pos y h9] | (rw [jT_neg y h9, ← hc])); (first | (rw [jE_pos _ l3, ← hd]) | rw [jE_neg _ l3]); (first | (rw [jO_pos _ l4, ← hf]) | rw [jO_neg _ l4])
          refine ⟨_, rfl, rfl, ?_, hb6⟩
          rw [hj]; exact J2.out.k29' w6 hl6 hb6
    · have m0 : (a.f9.toList == ([] : List UInt8)) = false := beq_eq_false_iff_ne.mpr h9
      have m1 : (a.f9.toList != ([] : List UInt8)) = true := bne_iff_ne.mpr h9
      replace h9 := Aside0.mk h9
      have c1 : W2.cell? ⟨p2 + 1, 2, none⟩ = some (.string y.f2) := (blk_cell J2.out.b3 2).trans rfl
      go_upto_region 6 with (go_at_call 33; refine (or33 _ _ _).mono ?_; rintro e w5 ⟨rfl, hd⟩; have J5 := (J2).out.below hd.below; clear hd; have z5 := blk_frozen J5.b2 9; have d5 : w5.cell? ⟨p2, 9, none⟩ = some (.string a.f9) := (blk_cell J5.b2 9).trans rfl)
      obtain ⟨c, hc⟩ : ∃ q, q = ({ a with f9 := pickB y.f2 a.f9 } : S29) := ⟨_, rfl⟩
      have J4 := J5.set (x' := c) (v19' := v19) (v20' := v20) 9 (.string (pickB y.f2 a.f9)) (by rw [hc]; rfl) (by rw [hc]; exact fun W' _ _ hk => K_text hk rfl rfl rfl)
      revert J4; generalize (World.setCell w5 _ _) = W4; intro J4; replace J4 := Aside0.mk J4; replace hc := Aside0.mk hc
      clear z5 d5 J5 m0 m1 c1 c8
      have q1 : W4.cell? ⟨p2 + 1, 3, none⟩ = some (.slice A3 y.f3.length c3) := (blk_cell J4.out.b3 3).trans rfl
      by_cases l3 : y.f3.length > 0
      · have m0 : decide ((0 : Int) < (y.f3.length : Int)) = true := decide_eq_true (by omega)
        have m1 : decide (0 < y.f3.length) = true := decide_eq_true (by omega)
        have m2 : (0 : Int) < (y.f3.length : Int) := by omega
        replace l3 := Aside0.mk l3
        have zf := blk_frozen J4.out.b2 19
        have df : W4.cell? ⟨p2, 19, none⟩ = some v19 := (blk_cell J4.out.b2 19).trans rfl
        have hlt : p2 + 2 < W4.heap.size := by obtain ⟨old, ho, _⟩ := J4.out.b4; exact blk_lt ho
        replace hlt := Aside0.mk hlt
        go_upto_region 8 with (at_builtin; refine copy_row k48 (w := w) (p2 + 2) rfl (.const (.slice none 0 0)) (.tmp 34) 26 48 (.agg #[(.string ⟨#[]⟩), (.string ⟨#[]⟩)]) 32 rfl Try.underlying26 info48 rfl (by decide) (by decide) y.f3 A3 c3 rfl rfl HG.out.1 J4.out.bel hlt.out (by have := HL.out.1; omega) ?_; intro A1 d1 w5 hc1 hC1 hb1; have J5 := J4.out.below hb1; have z5 := blk_frozen J5.b2 19; have d5 : w5.cell? ⟨p2, 19, none⟩ = some v19 := (blk_cell J5.b2 19).trans rfl)
        obtain ⟨d, hd⟩ : ∃ q, q = ({ c with f18 := y.f3 } : S29) := ⟨_, rfl⟩
        have J6 := J5.set (x' := d) (v19' := (.slice A1 y.f3.length d1)) (v20' := v20) 19 (.slice A1 y.f3.length d1) (by rw [hd]; rfl) (by rw [hd]; exact fun W' hl hb hk => K_extra hk hc1 (hC1 W' hl hb))
        revert J6; generalize (World.setCell w5 _ _) = W6; intro J6; replace J6 := Aside0.mk J6; replace hd := Aside0.mk hd
        clear z5 d5 J5 m0 m1 m2 q1 zf df hC1
        generalize (.slice A1 y.f3.length d1 : Value) = u19 at J6; clear hc1
        have q1 : W6.cell? ⟨p2 + 1, 4, none⟩ = some (.slice A4 y.f4.length c4) := (blk_cell J6.out.b3 4).trans rfl
        by_cases l4 : y.f4.length > 0
        · have m0 : decide ((0 : Int) < (y.f4.length : Int)) = true := decide_eq_true (by omega)
          have m1 : decide (0 < y.f4.length) = true := decide_eq_true (by omega)
          have m2 : (0 : Int) < (y.f4.length : Int) := by omega
          replace l4 := Aside0.mk l4
          have zf := blk_frozen J6.out.b2 20
          have df : W6.cell? ⟨p2, 20, none⟩ = some v20 := (blk_cell J6.out.b2 20).trans rfl
          have hlt : p2 + 2 < W6.heap.size := by obtain ⟨old, ho, _⟩ := J6.out.b4; exact blk_lt ho
          replace hlt := Aside0.mk hlt
          go_upto_region 10 with (at_builtin; refine copy_row k52 (w := w) (p2 + 2) rfl (.const (.slice none 0 0)) (.tmp 42) 27 52 (.agg #[(.int .i64 0), (.slice none 0 0)]) 32 rfl Try.underlying27 info52 rfl (by decide) (by decide) y.f4 A4 c4 rfl rfl HG.out.2 J6.out.bel hlt.out (by have := HL.out.2; omega) ?_; intro A1 d1 w5 hc1 hC1 hb1; have J5 := J6.out.below hb1; have z5 := blk_frozen J5.b2 20; have d5 : w5.cell? ⟨p2, 20, none⟩ = some v20 := (blk_cell J5.b2 20).trans rfl)
          obtain ⟨f, hf⟩ : ∃ q, q = ({ d with f19 := y.f4 } : S29) := ⟨_, rfl⟩
          have J7 := J5.set (x' := f) (v19' := u19) (v20' := (.slice A1 y.f4.length d1)) 20 (.slice A1 y.f4.length d1) (by rw [hf]; rfl) (by rw [hf]; exact fun W' hl hb hk => K_other hk hc1 (hC1 W' hl hb))
          revert J7; generalize (World.setCell w5 _ _) = W7; intro J7; replace J7 := Aside0.mk J7; replace hf := Aside0.mk hf
          clear z5 d5 J5 m0 m1 m2 q1 zf df hC1
          generalize (.slice A1 y.f4.length d1 : Value) = u20 at J7; clear hc1
          obtain ⟨old, ho, hsz⟩ := J7.out.b4; have HO := Aside0.mk (And.intro ho hsz); clear ho hsz
          go_wp2_with (first | ((with_reducible refine gate_dst (N := 45) rfl ?_); refine wpList_load_row rfl 29 (.tmp 2) rfl p2 rfl 29 (row29 f v16 u19 u20) (0, 0) _ J7.out.b2 hu29.out rfl (by kernel_rfl) ?_) | ((with_reducible refine gate_store (t := 29) (p := 4) rfl ?_); refine Go.Proofs.Ythapknnppabdaaa.Fill.store_event rfl 29 _ _ rfl (p2 + 1 + 1) (row29 f v16 u19 u20) rfl rfl 29 old HO.out.1 (by kernel_rfl) (by rw [HO.out.2]; rfl) (by show Array.all _ _ = true; rw [Array.all_eq_true]; intro i hi; exact k29.K_one (J7.out.k29' _ (Later.refl _ _) J7.out.bel) _ (by rw [Array.mem_toList_iff]; exact Array.getElem_mem hi)) ?_; intro w6 h6 hkeep hbk; have HS6 := Aside0.mk (And.intro h6 (And.intro hkeep hbk)); clear h6 hkeep hbk))
          refine bodyPost_ret (results_cell_row (fn := Try.f14) (p := 4) (ty := 29) (by rfl) _ _ (p2 + 1 + 1) 29 (row29 f v16 u19 u20) (0, 0) _ (by rfl) HS6.out.1 hu29.out rfl (by kernel_rfl)) rfl ?_
          have hb6 := HS6.out.2.2 _ _ J7.out.bel (by have := J7.out.lo; omega)
          have hl6 : Later (p2 + 2) W7 w6 := ⟨HS6.out.2.1.1, fun k h1 h2 => HS6.out.2.1.2 k h2 (by omega) (by simp)⟩
          have hj : joinG x y = f := by have ha := ha.out; (try have hb := hb.out); (try have hc := hc.out); (try have hd := hd.out); (try have hf := hf.out); have h8 := h8.out; have h9 := h9.out; have l3 := l3.out; have l4 := l4.out; show jO (jE (jT (jM (jN x y) y) y) y) y = _; rw [show jN x y = a from ha.symm]; (first | rw [jM_pos y h8] | (rw [jM_neg y h8, ← hb])); (first | rw [jT_pos y h9] | (rw [jT_neg y h9, ← hc])); (first | (rw [jE_pos _ l3, ← hd]) | rw [jE_neg _ l3]); (first | (rw [jO_pos _ l4, ← hf]) | rw [jO_neg _ l4])
          refine ⟨_, rfl, rfl, ?_, hb6⟩
          rw [hj]; exact J7.out.k29' w6 hl6 hb6
        · have m0 : decide ((0 : Int) < (y.f4.length : Int)) = false := decide_eq_false (by omega)
          have m1 : decide (0 < y.f4.length) = false := decide_eq_false (by omega)
          have m2 : ¬ (0 : Int) < (y.f4.length : Int) := by omega
          replace l4 := Aside0.mk l4
          go_upto_region 10 with fail
          clear m0 m1 m2 q1
          obtain ⟨old, ho, hsz⟩ := J6.out.b4; have HO := Aside0.mk (And.intro ho hsz); clear ho hsz
          go_wp2_with (first | ((with_reducible refine gate_dst (N := 45) rfl ?_); refine wpList_load_row rfl 29 (.tmp 2) rfl p2 rfl 29 (row29 d v16 u19 v20) (0, 0) _ J6.out.b2 hu29.out rfl (by kernel_rfl) ?_) | ((with_reducible refine gate_store (t := 29) (p := 4) rfl ?_); refine Go.Proofs.Ythapknnppabdaaa.Fill.store_event rfl 29 _ _ rfl (p2 + 1 + 1) (row29 d v16 u19 v20) rfl rfl 29 old HO.out.1 (by kernel_rfl) (by rw [HO.out.2]; rfl) (by show Array.all _ _ = true; rw [Array.all_eq_true]; intro i hi; exact k29.K_one (J6.out.k29' _ (Later.refl _ _) J6.out.bel) _ (by rw [Array.mem_toList_iff]; exact Array.getElem_mem hi)) ?_; intro w6 h6 hkeep hbk; have HS6 := Aside0.mk (And.intro h6 (And.intro hkeep hbk)); clear h6 hkeep hbk))
          refine bodyPost_ret (results_cell_row (fn := Try.f14) (p := 4) (ty := 29) (by rfl) _ _ (p2 + 1 + 1) 29 (row29 d v16 u19 v20) (0, 0) _ (by rfl) HS6.out.1 hu29.out rfl (by kernel_rfl)) rfl ?_
          have hb6 := HS6.out.2.2 _ _ J6.out.bel (by have := J6.out.lo; omega)
          have hl6 : Later (p2 + 2) W6 w6 := ⟨HS6.out.2.1.1, fun k h1 h2 => HS6.out.2.1.2 k h2 (by omega) (by simp)⟩
          have hj : joinG x y = d := by have ha := ha.out; (try have hb := hb.out); (try have hc := hc.out); (try have hd := hd.out); (try have hf := hf.out); have h8 := h8.out; have h9 := h9.out; have l3 := l3.out; have l4 := l4.out; show jO (jE (jT (jM (jN x y) y) y) y) y = _; rw [show jN x y = a from ha.symm]; (first | rw [jM_pos y h8] | (rw [jM_neg y h8, ← hb])); (first | rw [jT_pos y h9] | (rw [jT_neg y h9, ← hc])); (first | (rw [jE_pos _ l3, ← hd]) | rw [jE_neg _ l3]); (first | (rw [jO_pos _ l4, ← hf]) | rw [jO_neg _ l4])
          refine ⟨_, rfl, rfl, ?_, hb6⟩
          rw [hj]; exact J6.out.k29' w6 hl6 hb6
      · have m0 : decide ((0 : Int) < (y.f3.length : Int)) = false := decide_eq_false (by omega)
        have m1 : decide (0 < y.f3.length) = false := decide_eq_false (by omega)
        have m2 : ¬ (0 : Int) < (y.f3.length : Int) := by omega
        replace l3 := Aside0.mk l3
        go_upto_region 8 with fail
        clear m0 m1 m2 q1
        have q1 : W4.cell? ⟨p2 + 1, 4, none⟩ = some (.slice A4 y.f4.length c4) := (blk_cell J4.out.b3 4).trans rfl
        by_cases l4 : y.f4.length > 0
        · have m0 : decide ((0 : Int) < (y.f4.length : Int)) = true := decide_eq_true (by omega)
          have m1 : decide (0 < y.f4.length) = true := decide_eq_true (by omega)
          have m2 : (0 : Int) < (y.f4.length : Int) := by omega
          replace l4 := Aside0.mk l4
          have zf := blk_frozen J4.out.b2 20
          have df : W4.cell? ⟨p2, 20, none⟩ = some v20 := (blk_cell J4.out.b2 20).trans rfl
          have hlt : p2 + 2 < W4.heap.size := by obtain ⟨old, ho, _⟩ := J4.out.b4; exact blk_lt ho
          replace hlt := Aside0.mk hlt
          go_upto_region 10 with (at_builtin; refine copy_row k52 (w := w) (p2 + 2) rfl (.const (.slice none 0 0)) (.tmp 42) 27 52 (.agg #[(.int .i64 0), (.slice none 0 0)]) 32 rfl Try.underlying27 info52 rfl (by decide) (by decide) y.f4 A4 c4 rfl rfl HG.out.2 J4.out.bel hlt.out (by have := HL.out.2; omega) ?_; intro A1 d1 w5 hc1 hC1 hb1; have J5 := J4.out.below hb1; have z5 := blk_frozen J5.b2 20; have d5 : w5.cell? ⟨p2, 20, none⟩ = some v20 := (blk_cell J5.b2 20).trans rfl)
          obtain ⟨f, hf⟩ : ∃ q, q = ({ c with f19 := y.f4 } : S29) := ⟨_, rfl⟩
          have J7 := J5.set (x' := f) (v19' := v19) (v20' := (.slice A1 y.f4.length d1)) 20 (.slice A1 y.f4.length d1) (by rw [hf]; rfl) (by rw [hf]; exact fun W' hl hb hk => K_other hk hc1 (hC1 W' hl hb))
          revert J7; generalize (World.setCell w5 _ _) = W7; intro J7; replace J7 := Aside0.mk J7; replace hf := Aside0.mk hf
          clear z5 d5 J5 m0 m1 m2 q1 zf df hC1
          generalize (.slice A1 y.f4.length d1 : Value) = u20 at J7; clear hc1
          obtain ⟨old, ho, hsz⟩ := J7.out.b4; have HO := Aside0.mk (And.intro ho hsz); clear ho hsz
          go_wp2_with (first | ((with_reducible refine gate_dst (N := 45) rfl ?_); refine wpList_load_row rfl 29 (.tmp 2) rfl p2 rfl 29 (row29 f v16 v19 u20) (0, 0) _ J7.out.b2 hu29.out rfl (by kernel_rfl) ?_) | ((with_reducible refine gate_store (t := 29) (p := 4) rfl ?_); refine Go.Proofs.Ythapknnppabdaaa.Fill.store_event rfl 29 _ _ rfl (p2 + 1 + 1) (row29 f v16 v19 u20) rfl rfl 29 old HO.out.1 (by kernel_rfl) (by rw [HO.out.2]; rfl) (by show Array.all _ _ = true; rw [Array.all_eq_true]; intro i hi; exact k29.K_one (J7.out.k29' _ (Later.refl _ _) J7.out.bel) _ (by rw [Array.mem_toList_iff]; exact Array.getElem_mem hi)) ?_; intro w6 h6 hkeep hbk; have HS6 := Aside0.mk (And.intro h6 (And.intro hkeep hbk)); clear h6 hkeep hbk))
          refine bodyPost_ret (results_cell_row (fn := Try.f14) (p := 4) (ty := 29) (by rfl) _ _ (p2 + 1 + 1) 29 (row29 f v16 v19 u20) (0, 0) _ (by rfl) HS6.out.1 hu29.out rfl (by kernel_rfl)) rfl ?_
          have hb6 := HS6.out.2.2 _ _ J7.out.bel (by have := J7.out.lo; omega)
          have hl6 : Later (p2 + 2) W7 w6 := ⟨HS6.out.2.1.1, fun k h1 h2 => HS6.out.2.1.2 k h2 (by omega) (by simp)⟩
          have hj : joinG x y = f := by have ha := ha.out; (try have hb := hb.out); (try have hc := hc.out); (try have hd := hd.out); (try have hf := hf.out); have h8 := h8.out; have h9 := h9.out; have l3 := l3.out; have l4 := l4.out; show jO (jE (jT (jM (jN x y) y) y) y) y = _; rw [show jN x y = a from ha.symm]; (first | rw [jM_pos y h8] | (rw [jM_neg y h8, ← hb])); (first | rw [jT_pos y h9] | (rw [jT_neg y h9, ← hc])); (first | (rw [jE_pos _ l3, ← hd]) | rw [jE_neg _ l3]); (first | (rw [jO_pos _ l4, ← hf]) | rw [jO_neg _ l4])
          refine ⟨_, rfl, rfl, ?_, hb6⟩
          rw [hj]; exact J7.out.k29' w6 hl6 hb6
        · have m0 : decide ((0 : Int) < (y.f4.length : Int)) = false := decide_eq_false (by omega)
          have m1 : decide (0 < y.f4.length) = false := decide_eq_false (by omega)
          have m2 : ¬ (0 : Int) < (y.f4.length : Int) := by omega
          replace l4 := Aside0.mk l4
          go_upto_region 10 with fail
          clear m0 m1 m2 q1
          obtain ⟨old, ho, hsz⟩ := J4.out.b4; have HO := Aside0.mk (And.intro ho hsz); clear ho hsz
          go_wp2_with (first | ((with_reducible refine gate_dst (N := 45) rfl ?_); refine wpList_load_row rfl 29 (.tmp 2) rfl p2 rfl 29 (row29 c v16 v19 v20) (0, 0) _ J4.out.b2 hu29.out rfl (by kernel_rfl) ?_) | ((with_reducible refine gate_store (t := 29) (p := 4) rfl ?_); refine Go.Proofs.Ythapknnppabdaaa.Fill.store_event rfl 29 _ _ rfl (p2 + 1 + 1) (row29 c v16 v19 v20) rfl rfl 29 old HO.out.1 (by kernel_rfl) (by rw [HO.out.2]; rfl) (by show Array.all _ _ = true; rw [Array.all_eq_true]; intro i hi; exact k29.K_one (J4.out.k29' _ (Later.refl _ _) J4.out.bel) _ (by rw [Array.mem_toList_iff]; exact Array.getElem_mem hi)) ?_; intro w6 h6 hkeep hbk; have HS6 := Aside0.mk (And.intro h6 (And.intro hkeep hbk)); clear h6 hkeep hbk))
          refine bodyPost_ret (results_cell_row (fn := Try.f14) (p := 4) (ty := 29) (by rfl) _ _ (p2 + 1 + 1) 29 (row29 c v16 v19 v20) (0, 0) _ (by rfl) HS6.out.1 hu29.out rfl (by kernel_rfl)) rfl ?_
          have hb6 := HS6.out.2.2 _ _ J4.out.bel (by have := J4.out.lo; omega)
          have hl6 : Later (p2 + 2) W4 w6 := ⟨HS6.out.2.1.1, fun k h1 h2 => HS6.out.2.1.2 k h2 (by omega) (by simp)⟩
          have hj : joinG x y = c := by have ha := ha.out; (try have hb := hb.out); (try have hc := hc.out); (try have hd := hd.out); (try have hf := hf.out); have h8 := h8.out; have h9 := h9.out; have l3 := l3.out; have l4 := l4.out; show jO (jE (jT (jM (jN x y) y) y) y) y = _; rw [show jN x y = a from ha.symm]; (first | rw [jM_pos y h8] | (rw [jM_neg y h8, ← hb])); (first | rw [jT_pos y h9] | (rw [jT_neg y h9, ← hc])); (first | (rw [jE_pos _ l3, ← hd]) | rw [jE_neg _ l3]); (first | (rw [jO_pos _ l4, ← hf]) | rw [jO_neg _ l4])
          refine ⟨_, rfl, rfl, ?_, hb6⟩
          rw [hj]; exact J4.out.k29' w6 hl6 hb6
  · have m0 : (a.f8.toList == ([] : List UInt8)) = false := beq_eq_false_iff_ne.mpr h8
    have m1 : (a.f8.toList != ([] : List UInt8)) = true := bne_iff_ne.mpr h8
    replace h8 := Aside0.mk h8
    have c1 : W2.cell? ⟨p2 + 1, 1, none⟩ = some (.string y.f1) := (blk_cell J2.out.b3 1).trans rfl
    go_upto_region 4 with (go_at_call 33; refine (or33 _ _ _).mono ?_; rintro e w5 ⟨rfl, hd⟩; have J5 := (J2).out.below hd.below; clear hd; have z5 := blk_frozen J5.b2 8; have d5 : w5.cell? ⟨p2, 8, none⟩ = some (.string a.f8) := (blk_cell J5.b2 8).trans rfl)
    obtain ⟨b, hb⟩ : ∃ q, q = ({ a with f8 := pickB y.f1 a.f8 } : S29) := ⟨_, rfl⟩
    have J3 := J5.set (x' := b) (v19' := v19) (v20' := v20) 8 (.string (pickB y.f1 a.f8)) (by rw [hb]; rfl) (by rw [hb]; exact fun W' _ _ hk => K_text hk rfl rfl rfl)
    revert J3; generalize (World.setCell w5 _ _) = W3; intro J3; replace J3 := Aside0.mk J3; replace hb := Aside0.mk hb
    clear z5 d5 J5 m0 m1 c1 c8
    have c8 : W3.cell? ⟨p2, 9, none⟩ = some (.string b.f9) := (blk_cell J3.out.b2 9).trans rfl
    by_cases h9 : b.f9.toList = []
    · have m0 : (b.f9.toList == ([] : List UInt8)) = true := beq_iff_eq.mpr h9
      have m1 : (b.f9.toList != ([] : List UInt8)) = false := bne_eq_false_iff_eq.mpr h9
      replace h9 := Aside0.mk h9
      go_upto_region 6 with fail
      clear m0 m1 c8
      have q1 : W3.cell? ⟨p2 + 1, 3, none⟩ = some (.slice A3 y.f3.length c3) := (blk_cell J3.out.b3 3).trans rfl
      by_cases l3 : y.f3.length > 0
      · have m0 : decide ((0 : Int) < (y.f3.length : Int)) = true := decide_eq_true (by omega)
        have m1 : decide (0 < y.f3.length) = true := decide_eq_true (by omega)
        have m2 : (0 : Int) < (y.f3.length : Int) := by omega
        replace l3 := Aside0.mk l3
        have zf := blk_frozen J3.out.b2 19
        have df : W3.cell? ⟨p2, 19, none⟩ = some v19 := (blk_cell J3.out.b2 19).trans rfl
        have hlt : p2 + 2 < W3.heap.size := by obtain ⟨old, ho, _⟩ := J3.out.b4; exact blk_lt ho
        replace hlt := Aside0.mk hlt
        go_upto_region 8 with (at_builtin; refine copy_row k48 (w := w) (p2 + 2) rfl (.const (.slice none 0 0)) (.tmp 34) 26 48 (.agg #[(.string ⟨#[]⟩), (.string ⟨#[]⟩)]) 32 rfl Try.underlying26 info48 rfl (by decide) (by decide) y.f3 A3 c3 rfl rfl HG.out.1 J3.out.bel hlt.out (by have := HL.out.1; omega) ?_; intro A1 d1 w5 hc1 hC1 hb1; have J5 := J3.out.below hb1; have z5 := blk_frozen J5.b2 19; have d5 : w5.cell? ⟨p2, 19, none⟩ = some v19 := (blk_cell J5.b2 19).trans rfl)
        obtain ⟨d, hd⟩ : ∃ q, q = ({ b with f18 := y.f3 } : S29) := ⟨_, rfl⟩
        have J6 := J5.set (x' := d) (v19' := (.slice A1 y.f3.length d1)) (v20' := v20) 19 (.slice A1 y.f3.length d1) (by rw [hd]; rfl) (by rw [hd]; exact fun W' hl hb hk => K_extra hk hc1 (hC1 W' hl hb))
        revert J6; generalize (World.setCell w5 _ _) = W6; intro J6; replace J6 := Aside0.mk J6; replace hd := Aside0.mk hd
        clear z5 d5 J5 m0 m1 m2 q1 zf df hC1
        generalize (.slice A1 y.f3.length d1 : Value) = u19 at J6; clear hc1
        have q1 : W6.cell? ⟨p2 + 1, 4, none⟩ = some (.slice A4 y.f4.length c4) := (blk_cell J6.out.b3 4).trans rfl
        by_cases l4 : y.f4.length > 0
        · have m0 : decide ((0 : Int) < (y.f4.length : Int)) = true := decide_eq_true (by omega)
          have m1 : decide (0 < y.f4.length) = true := decide_eq_true (by omega)
          have m2 : (0 : Int) < (y.f4.length : Int) := by omega
          replace l4 := Aside0.mk l4
          have zf := blk_frozen J6.out.b2 20
          have df : W6.cell? ⟨p2, 20, none⟩ = some v20 := (blk_cell J6.out.b2 20).trans rfl
          have hlt : p2 + 2 < W6.heap.size := by obtain ⟨old, ho, _⟩ := J6.out.b4; exact blk_lt ho
          replace hlt := Aside0.mk hlt
          go_upto_region 10 with (at_builtin; refine copy_row k52 (w := w) (p2 + 2) rfl (.const (.slice none 0 0)) (.tmp 42) 27 52 (.agg #[(.int .i64 0), (.slice none 0 0)]) 32 rfl Try.underlying27 info52 rfl (by decide) (by decide) y.f4 A4 c4 rfl rfl HG.out.2 J6.out.bel hlt.out (by have := HL.out.2; omega) ?_; intro A1 d1 w5 hc1 hC1 hb1; have J5 := J6.out.below hb1; have z5 := blk_frozen J5.b2 20; have d5 : w5.cell? ⟨p2, 20, none⟩ = some v20 := (blk_cell J5.b2 20).trans rfl)
          obtain ⟨f, hf⟩ : ∃ q, q = ({ d with f19 := y.f4 } : S29) := ⟨_, rfl⟩
          have J7 := J5.set (x' := f) (v19' := u19) (v20' := (.slice A1 y.f4.length d1)) 20 (.slice A1 y.f4.length d1) (by rw [hf]; rfl) (by rw [hf]; exact fun W' hl hb hk => K_other hk hc1 (hC1 W' hl hb))
          revert J7; generalize (World.setCell w5 _ _) = W7; intro J7; replace J7 := Aside0.mk J7; replace hf := Aside0.mk hf
          clear z5 d5 J5 m0 m1 m2 q1 zf df hC1
          generalize (.slice A1 y.f4.length d1 : Value) = u20 at J7; clear hc1
          obtain ⟨old, ho, hsz⟩ := J7.out.b4; have HO := Aside0.mk (And.intro ho hsz); clear ho hsz
          go_wp2_with (first | ((with_reducible refine gate_dst (N := 45) rfl ?_); refine wpList_load_row rfl 29 (.tmp 2) rfl p2 rfl 29 (row29 f v16 u19 u20) (0, 0) _ J7.out.b2 hu29.out rfl (by kernel_rfl) ?_) | ((with_reducible refine gate_store (t := 29) (p := 4) rfl ?_); refine Go.Proofs.Ythapknnppabdaaa.Fill.store_event rfl 29 _ _ rfl (p2 + 1 + 1) (row29 f v16 u19 u20) rfl rfl 29 old HO.out.1 (by kernel_rfl) (by rw [HO.out.2]; rfl) (by show Array.all _ _ = true; rw [Array.all_eq_true]; intro i hi; exact k29.K_one (J7.out.k29' _ (Later.refl _ _) J7.out.bel) _ (by rw [Array.mem_toList_iff]; exact Array.getElem_mem hi)) ?_; intro w6 h6 hkeep hbk; have HS6 := Aside0.mk (And.intro h6 (And.intro hkeep hbk)); clear h6 hkeep hbk))
          refine bodyPost_ret (results_cell_row (fn := Try.f14) (p := 4) (ty := 29) (by rfl) _ _ (p2 + 1 + 1) 29 (row29 f v16 u19 u20) (0, 0) _ (by rfl) HS6.out.1 hu29.out rfl (by kernel_rfl)) rfl ?_
          have hb6 := HS6.out.2.2 _ _ J7.out.bel (by have := J7.out.lo; omega)
          have hl6 : Later (p2 + 2) W7 w6 := ⟨HS6.out.2.1.1, fun k h1 h2 => HS6.out.2.1.2 k h2 (by omega) (by simp)⟩
          have hj : joinG x y = f := by have ha := ha.out; (try have hb := hb.out); (try have hc := hc.out); (try have hd := hd.out); (try have hf := hf.out); have h8 := h8.out; have h9 := h9.out; have l3 := l3.out; have l4 := l4.out; show jO (jE (jT (jM (jN x y) y) y) y) y = _; rw [show jN x y = a from ha.symm]; (first | rw [jM_pos y h8] | (rw [jM_neg y h8, ← hb])); (first | rw [jT_pos y h9] | (rw [jT_neg y h9, ← hc])); (first | (rw [jE_pos _ l3, ← hd]) | rw [jE_neg _ l3]); (first | (rw [jO_pos _ l4, ← hf]) | rw [jO_neg _ l4])
          refine ⟨_, rfl, rfl, ?_, hb6⟩
          rw [hj]; exact J7.out.k29' w6 hl6 hb6
        · have m0 : decide ((0 : Int) < (y.f4.length : Int)) = false := decide_eq_false (by omega)
          have m1 : decide (0 < y.f4.length) = false := decide_eq_false (by omega)
          have m2 : ¬ (0 : Int) < (y.f4.length : Int) := by omega
          replace l4 := Aside0.mk l4
          go_upto_region 10 with fail
          clear m0 m1 m2 q1
          obtain ⟨old, ho, hsz⟩ := J6.out.b4; have HO := Aside0.mk (And.intro ho hsz); clear ho hsz
          go_wp2_with (first | ((with_reducible refine gate_dst (N := 45) rfl ?_); refine wpList_load_row rfl 29 (.tmp 2) rfl p2 rfl 29 (row29 d v16 u19 v20) (0, 0) _ J6.out.b2 hu29.out rfl (by kernel_rfl) ?_) | ((with_reducible refine gate_store (t := 29) (p := 4) rfl ?_); refine Go.Proofs.Ythapknnppabdaaa.Fill.store_event rfl 29 _ _ rfl (p2 + 1 + 1) (row29 d v16 u19 v20) rfl rfl 29 old HO.out.1 (by kernel_rfl) (by rw [HO.out.2]; rfl) (by show Array.all _ _ = true; rw [Array.all_eq_true]; intro i hi; exact k29.K_one (J6.out.k29' _ (Later.refl _ _) J6.out.bel) _ (by rw [Array.mem_toList_iff]; exact Array.getElem_mem hi)) ?_; intro w6 h6 hkeep hbk; have HS6 := Aside0.mk (And.intro h6 (And.intro hkeep hbk)); clear h6 hkeep hbk))
          refine bodyPost_ret (results_cell_row (fn := Try.f14) (p := 4) (ty := 29) (by rfl) _ _ (p2 + 1 + 1) 29 (row29 d v16 u19 v20) (0, 0) _ (by rfl) HS6.out.1 hu29.out rfl (by kernel_rfl)) rfl ?_
          have hb6 := HS6.out.2.2 _ _ J6.out.bel (by have := J6.out.lo; omega)
          have hl6 : Later (p2 + 2) W6 w6 := ⟨HS6.out.2.1.1, fun k h1 h2 => HS6.out.2.1.2 k h2 (by omega) (by simp)⟩
          have hj : joinG x y = d := by have ha := ha.out; (try have hb := hb.out); (try have hc := hc.out); (try have hd := hd.out); (try have hf := hf.out); have h8 := h8.out; have h9 := h9.out; have l3 := l3.out; have l4 := l4.out; show jO (jE (jT (jM (jN x y) y) y) y) y = _; rw [show jN x y = a from ha.symm]; (first | rw [jM_pos y h8] | (rw [jM_neg y h8, ← hb])); (first | rw [jT_pos y h9] | (rw [jT_neg y h9, ← hc])); (first | (rw [jE_pos _ l3, ← hd]) | rw [jE_neg _ l3]); (first | (rw [jO_pos _ l4, ← hf]) | rw [jO_neg _ l4])
          refine ⟨_, rfl, rfl, ?_, hb6⟩
          rw [hj]; exact J6.out.k29' w6 hl6 hb6
      · have m0 : decide ((0 : Int) < (y.f3.length : Int)) = false := decide_eq_false (by omega)
        have m1 : decide (0 < y.f3.length) = false := decide_eq_false (by omega)
        have m2 : ¬ (0 : Int) < (y.f3.length : Int) := by omega
        replace l3 := Aside0.mk l3
        go_upto_region 8 with fail
        clear m0 m1 m2 q1
        have q1 : W3.cell? ⟨p2 + 1, 4, none⟩ = some (.slice A4 y.f4.length c4) := (blk_cell J3.out.b3 4).trans rfl
        by_cases l4 : y.f4.length > 0
        · have m0 : decide ((0 : Int) < (y.f4.length : Int)) = true := decide_eq_true (by omega)
          have m1 : decide (0 < y.f4.length) = true := decide_eq_true (by omega)
          have m2 : (0 : Int) < (y.f4.length : Int) := by omega
          replace l4 := Aside0.mk l4
          have zf := blk_frozen J3.out.b2 20
          have df : W3.cell? ⟨p2, 20, none⟩ = some v20 := (blk_cell J3.out.b2 20).trans rfl
          have hlt : p2 + 2 < W3.heap.size := by obtain ⟨old, ho, _⟩ := J3.out.b4; exact blk_lt ho
          replace hlt := Aside0.mk hlt
          go_upto_region 10 with (at_builtin; refine copy_row k52 (w := w) (p2 + 2) rfl (.const (.slice none 0 0)) (.tmp 42) 27 52 (.agg #[(.int .i64 0), (.slice none 0 0)]) 32 rfl Try.underlying27 info52 rfl (by decide) (by decide) y.f4 A4 c4 rfl rfl HG.out.2 J3.out.bel hlt.out (by have := HL.out.2; omega) ?_; intro A1 d1 w5 hc1 hC1 hb1; have J5 := J3.out.below hb1; have z5 := blk_frozen J5.b2 20; have d5 : w5.cell? ⟨p2, 20, none⟩ = some v20 := (blk_cell J5.b2 20).trans rfl)
          obtain ⟨f, hf⟩ : ∃ q, q = ({ b with f19 := y.f4 } : S29) := ⟨_, rfl⟩
          have J7 := J5.set (x' := f) (v19' := v19) (v20' := (.slice A1 y.f4.length d1)) 20 (.slice A1 y.f4.length d1) (by rw [hf]; rfl) (by rw [hf]; exact fun W' hl hb hk => K_other hk hc1 (hC1 W' hl hb))
          revert J7; generalize (World.setCell w5 _ _) = W7; intro J7; replace J7 := Aside0.mk J7; replace hf := Aside0.mk hf
          clear z5 d5 J5 m0 m1 m2 q1 zf df hC1
          generalize (.slice A1 y.f4.length d1 : Value) = u20 at J7; clear hc1
          obtain ⟨old, ho, hsz⟩ := J7.out.b4; have HO := Aside0.mk (And.intro ho hsz); clear ho hsz
          go_wp2_with (first | ((with_reducible refine gate_dst (N := 45) rfl ?_); refine wpList_load_row rfl 29 (.tmp 2) rfl p2 rfl 29 (row29 f v16 v19 u20) (0, 0) _ J7.out.b2 hu29.out rfl (by kernel_rfl) ?_) | ((with_reducible refine gate_store (t := 29) (p := 4) rfl ?_); refine Go.Proofs.Ythapknnppabdaaa.Fill.store_event rfl 29 _ _ rfl (p2 + 1 + 1) (row29 f v16 v19 u20) rfl rfl 29 old HO.out.1 (by kernel_rfl) (by rw [HO.out.2]; rfl) (by show Array.all _ _ = true; rw [Array.all_eq_true]; intro i hi; exact k29.K_one (J7.out.k29' _ (Later.refl _ _) J7.out.bel) _ (by rw [Array.mem_toList_iff]; exact Array.getElem_mem hi)) ?_; intro w6 h6 hkeep hbk; have HS6 := Aside0.mk (And.intro h6 (And.intro hkeep hbk)); clear h6 hkeep hbk))
          refine bodyPost_ret (results_cell_row (fn := Try.f14) (p := 4) (ty := 29) (by rfl) _ _ (p2 + 1 + 1) 29 (row29 f v16 v19 u20) (0, 0) _ (by rfl) HS6.out.1 hu29.out rfl (by kernel_rfl)) rfl ?_
          have hb6 := HS6.out.2.2 _ _ J7.out.bel (by have := J7.out.lo; omega)
          have hl6 : Later (p2 + 2) W7 w6 := ⟨HS6.out.2.1.1, fun k h1 h2 => HS6.out.2.1.2 k h2 (by omega) (by simp)⟩
          have hj : joinG x y = f := by have ha := ha.out; (try have hb := hb.out); (try have hc := hc.out); (try have hd := hd.out); (try have hf := hf.out); have h8 := h8.out; have h9 := h9.out; have l3 := l3.out; have l4 := l4.out; show jO (jE (jT (jM (jN x y) y) y) y) y = _; rw [show jN x y = a from ha.symm]; (first | rw [jM_pos y h8] | (rw [jM_neg y h8, ← hb])); (first | rw [jT_pos y h9] | (rw [jT_neg y h9, ← hc])); (first | (rw [jE_pos _ l3, ← hd]) | rw [jE_neg _ l3]); (first | (rw [jO_pos _ l4, ← hf]) | rw [jO_neg _ l4])
          refine ⟨_, rfl, rfl, ?_, hb6⟩
          rw [hj]; exact J7.out.k29' w6 hl6 hb6
        · have m0 : decide ((0 : Int) < (y.f4.length : Int)) = false := decide_eq_false (by omega)
          have m1 : decide (0 < y.f4.length) = false := decide_eq_false (by omega)
          have m2 : ¬ (0 : Int) < (y.f4.length : Int) := by omega
          replace l4 := Aside0.mk l4
          go_upto_region 10 with fail
          clear m0 m1 m2 q1
          obtain ⟨old, ho, hsz⟩ := J3.out.b4; have HO := Aside0.mk (And.intro ho hsz); clear ho hsz
          go_wp2_with (first | ((with_reducible refine gate_dst (N := 45) rfl ?_); refine wpList_load_row rfl 29 (.tmp 2) rfl p2 rfl 29 (row29 b v16 v19 v20) (0, 0) _ J3.out.b2 hu29.out rfl (by kernel_rfl) ?_) | ((with_reducible refine gate_store (t := 29) (p := 4) rfl ?_); refine Go.Proofs.Ythapknnppabdaaa.Fill.store_event rfl 29 _ _ rfl (p2 + 1 + 1) (row29 b v16 v19 v20) rfl rfl 29 old HO.out.1 (by kernel_rfl) (by rw [HO.out.2]; rfl) (by show Array.all _ _ = true; rw [Array.all_eq_true]; intro i hi; exact k29.K_one (J3.out.k29' _ (Later.refl _ _) J3.out.bel) _ (by rw [Array.mem_toList_iff]; exact Array.getElem_mem hi)) ?_; intro w6 h6 hkeep hbk; have HS6 := Aside0.mk (And.intro h6 (And.intro hkeep hbk)); clear h6 hkeep hbk))
          refine bodyPost_ret (results_cell_row (fn := Try.f14) (p := 4) (ty := 29) (by rfl) _ _ (p2 + 1 + 1) 29 (row29 b v16 v19 v20) (0, 0) _ (by rfl) HS6.out.1 hu29.out rfl (by kernel_rfl)) rfl ?_
          have hb6 := HS6.out.2.2 _ _ J3.out.bel (by have := J3.out.lo; omega)
          have hl6 : Later (p2 + 2) W3 w6 := ⟨HS6.out.2.1.1, fun k h1 h2 => HS6.out.2.1.2 k h2 (by omega) (by simp)⟩
          have hj : joinG x y = b := by have ha := ha.out; (try have hb := hb.out); (try have hc := hc.out); (try have hd := hd.out); (try have hf := hf.out); have h8 := h8.out; have h9 := h9.out; have l3 := l3.out; have l4 := l4.out; show jO (jE (jT (jM (jN x y) y) y) y) y = _; rw [show jN x y = a from ha.symm]; (first | rw [jM_pos y h8] | (rw [jM_neg y h8, ← hb])); (first | rw [jT_pos y h9] | (rw [jT_neg y h9, ← hc])); (first | (rw [jE_pos _ l3, ← hd]) | rw [jE_neg _ l3]); (first | (rw [jO_pos _ l4, ← hf]) | rw [jO_neg _ l4])
          refine ⟨_, rfl, rfl, ?_, hb6⟩
          rw [hj]; exact J3.out.k29' w6 hl6 hb6
    · have m0 : (b.f9.toList == ([] : List UInt8)) = false := beq_eq_false_iff_ne.mpr h9
      have m1 : (b.f9.toList != ([] : List UInt8)) = true := bne_iff_ne.mpr h9
      replace h9 := Aside0.mk h9
      have c1 : W3.cell? ⟨p2 + 1, 2, none⟩ = some (.string y.f2) := (blk_cell J3.out.b3 2).trans rfl
      go_upto_region 6 with (go_at_call 33; refine (or33 _ _ _).mono ?_; rintro e w5 ⟨rfl, hd⟩; have J5 := (J3).out.below hd.below; clear hd; have z5 := blk_frozen J5.b2 9; have d5 : w5.cell? ⟨p2, 9, none⟩ = some (.string b.f9) := (blk_cell J5.b2 9).trans rfl)
      obtain ⟨c, hc⟩ : ∃ q, q = ({ b with f9 := pickB y.f2 b.f9 } : S29) := ⟨_, rfl⟩
      have J4 := J5.set (x' := c) (v19' := v19) (v20' := v20) 9 (.string (pickB y.f2 b.f9)) (by rw [hc]; rfl) (by rw [hc]; exact fun W' _ _ hk => K_text hk rfl rfl rfl)
      revert J4; generalize (World.setCell w5 _ _) = W4; intro J4; replace J4 := Aside0.mk J4; replace hc := Aside0.mk hc
      clear z5 d5 J5 m0 m1 c1 c8
      have q1 : W4.cell? ⟨p2 + 1, 3, none⟩ = some (.slice A3 y.f3.length c3) := (blk_cell J4.out.b3 3).trans rfl
      by_cases l3 : y.f3.length > 0
      · have m0 : decide ((0 : Int) < (y.f3.length : Int)) = true := decide_eq_true (by omega)
        have m1 : decide (0 < y.f3.length) = true := decide_eq_true (by omega)
        have m2 : (0 : Int) < (y.f3.length : Int) := by omega
        replace l3 := Aside0.mk l3
        have zf := blk_frozen J4.out.b2 19
        have df : W4.cell? ⟨p2, 19, none⟩ = some v19 := (blk_cell J4.out.b2 19).trans rfl
        have hlt : p2 + 2 < W4.heap.size := by obtain ⟨old, ho, _⟩ := J4.out.b4; exact blk_lt ho
        replace hlt := Aside0.mk hlt
        go_upto_region 8 with (at_builtin; refine copy_row k48 (w := w) (p2 + 2) rfl (.const (.slice none 0 0)) (.tmp 34) 26 48 (.agg #[(.string ⟨#[]⟩), (.string ⟨#[]⟩)]) 32 rfl Try.underlying26 info48 rfl (by decide) (by decide) y.f3 A3 c3 rfl rfl HG.out.1 J4.out.bel hlt.out (by have := HL.out.1; omega) ?_; intro A1 d1 w5 hc1 hC1 hb1; have J5 := J4.out.below hb1; have z5 := blk_frozen J5.b2 19; have d5 : w5.cell? ⟨p2, 19, none⟩ = some v19 := (blk_cell J5.b2 19).trans rfl)
        obtain ⟨d, hd⟩ : ∃ q, q = ({ c with f18 := y.f3 } : S29) := ⟨_, rfl⟩
        have J6 := J5.set (x' := d) (v19' := (.slice A1 y.f3.length d1)) (v20' := v20) 19 (.slice A1 y.f3.length d1) (by rw [hd]; rfl) (by rw [hd]; exact fun W' hl hb hk => K_extra hk hc1 (hC1 W' hl hb))
        revert J6; generalize (World.setCell w5 _ _) = W6; intro J6; replace J6 := Aside0.mk J6; replace hd := Aside0.mk hd
        clear z5 d5 J5 m0 m1 m2 q1 zf df hC1
        generalize (.slice A1 y.f3.length d1 : Value) = u19 at J6; clear hc1
        have q1 : W6.cell? ⟨p2 + 1, 4, none⟩ = some (.slice A4 y.f4.length c4) := (blk_cell J6.out.b3 4).trans rfl
        by_cases l4 : y.f4.length > 0
        · have m0 : decide ((0 : Int) < (y.f4.length : Int)) = true := decide_eq_true (by omega)
          have m1 : decide (0 < y.f4.length) = true := decide_eq_true (by omega)
          have m2 : (0 : Int) < (y.f4.length : Int) := by omega
          replace l4 := Aside0.mk l4
          have zf := blk_frozen J6.out.b2 20
          have df : W6.cell? ⟨p2, 20, none⟩ = some v20 := (blk_cell J6.out.b2 20).trans rfl
          have hlt : p2 + 2 < W6.heap.size := by obtain ⟨old, ho, _⟩ := J6.out.b4; exact blk_lt ho
          replace hlt := Aside0.mk hlt
          go_upto_region 10 with (at_builtin; refine copy_row k52 (w := w) (p2 + 2) rfl (.const (.slice none 0 0)) (.tmp 42) 27 52 (.agg #[(.int .i64 0), (.slice none 0 0)]) 32 rfl Try.underlying27 info52 rfl (by decide) (by decide) y.f4 A4 c4 rfl rfl HG.out.2 J6.out.bel hlt.out (by have := HL.out.2; omega) ?_; intro A1 d1 w5 hc1 hC1 hb1; have J5 := J6.out.below hb1; have z5 := blk_frozen J5.b2 20; have d5 : w5.cell? ⟨p2, 20, none⟩ = some v20 := (blk_cell J5.b2 20).trans rfl)
          obtain ⟨f, hf⟩ : ∃ q, q = ({ d with f19 := y.f4 } : S29) := ⟨_, rfl⟩
          have J7 := J5.set (x' := f) (v19' := u19) (v20' := (.slice A1 y.f4.length d1)) 20 (.slice A1 y.f4.length d1) (by rw [hf]; rfl) (by rw [hf]; exact fun W' hl hb hk => K_other hk hc1 (hC1 W' hl hb))
          revert J7; generalize (World.setCell w5 _ _) = W7; intro J7; replace J7 := Aside0.mk J7; replace hf := Aside0.mk hf
          clear z5 d5 J5 m0 m1 m2 q1 zf df hC1
          generalize (.slice A1 y.f4.length d1 : Value) = u20 at J7; clear hc1
          obtain ⟨old, ho, hsz⟩ := J7.out.b4; have HO := Aside0.mk (And.intro ho hsz); clear ho hsz
          go_wp2_with (first | ((with_reducible refine gate_dst (N := 45) rfl ?_); refine wpList_load_row rfl 29 (.tmp 2) rfl p2 rfl 29 (row29 f v16 u19 u20) (0, 0) _ J7.out.b2 hu29.out rfl (by kernel_rfl) ?_) | ((with_reducible refine gate_store (t := 29) (p := 4) rfl ?_); refine Go.Proofs.Ythapknnppabdaaa.Fill.store_event rfl 29 _ _ rfl (p2 + 1 + 1) (row29 f v16 u19 u20) rfl rfl 29 old HO.out.1 (by kernel_rfl) (by rw [HO.out.2]; rfl) (by show Array.all _ _ = true; rw [Array.all_eq_true]; intro i hi; exact k29.K_one (J7.out.k29' _ (Later.refl _ _) J7.out.bel) _ (by rw [Array.mem_toList_iff]; exact Array.getElem_mem hi)) ?_; intro w6 h6 hkeep hbk; have HS6 := Aside0.mk (And.intro h6 (And.intro hkeep hbk)); clear h6 hkeep hbk))
          refine bodyPost_ret (results_cell_row (fn := Try.f14) (p := 4) (ty := 29) (by rfl) _ _ (p2 + 1 + 1) 29 (row29 f v16 u19 u20) (0, 0) _ (by rfl) HS6.out.1 hu29.out rfl (by kernel_rfl)) rfl ?_
          have hb6 := HS6.out.2.2 _ _ J7.out.bel (by have := J7.out.lo; omega)
          have hl6 : Later (p2 + 2) W7 w6 := ⟨HS6.out.2.1.1, fun k h1 h2 => HS6.out.2.1.2 k h2 (by omega) (by simp)⟩
          have hj : joinG x y = f := by have ha := ha.out; (try have hb := hb.out); (try have hc := hc.out); (try have hd := hd.out); (try have hf := hf.out); have h8 := h8.out; have h9 := h9.out; have l3 := l3.out; have l4 := l4.out; show jO (jE (jT (jM (jN x y) y) y) y) y = _; rw [show jN x y = a from ha.symm]; (first | rw [jM_pos y h8] | (rw [jM_neg y h8, ← hb])); (first | rw [jT_pos y h9] | (rw [jT_neg y h9, ← hc])); (first | (rw [jE_pos _ l3, ← hd]) | rw [jE_neg _ l3]); (first | (rw [jO_pos _ l4, ← hf]) | rw [jO_neg _ l4])
          refine ⟨_, rfl, rfl, ?_, hb6⟩
          rw [hj]; exact J7.out.k29' w6 hl6 hb6
        · have m0 : decide ((0 : Int) < (y.f4.length : Int)) = false := decide_eq_false (by omega)
          have m1 : decide (0 < y.f4.length) = false := decide_eq_false (by omega)
          have m2 : ¬ (0 : Int) < (y.f4.length : Int) := by omega
          replace l4 := Aside0.mk l4
          go_upto_region 10 with fail
          clear m0 m1 m2 q1
          obtain ⟨old, ho, hsz⟩ := J6.out.b4; have HO := Aside0.mk (And.intro ho hsz); clear ho hsz
          go_wp2_with (first | ((with_reducible refine gate_dst (N := 45) rfl ?_); refine wpList_load_row rfl 29 (.tmp 2) rfl p2 rfl 29 (row29 d v16 u19 v20) (0, 0) _ J6.out.b2 hu29.out rfl (by kernel_rfl) ?_) | ((with_reducible refine gate_store (t := 29) (p := 4) rfl ?_); refine Go.Proofs.Ythapknnppabdaaa.Fill.store_event rfl 29 _ _ rfl (p2 + 1 + 1) (row29 d v16 u19 v20) rfl rfl 29 old HO.out.1 (by kernel_rfl) (by rw [HO.out.2]; rfl) (by show Array.all _ _ = true; rw [Array.all_eq_true]; intro i hi; exact k29.K_one (J6.out.k29' _ (Later.refl _ _) J6.out.bel) _ (by rw [Array.mem_toList_iff]; exact Array.getElem_mem hi)) ?_; intro w6 h6 hkeep hbk; have HS6 := Aside0.mk (And.intro h6 (And.intro hkeep hbk)); clear h6 hkeep hbk))
          refine bodyPost_ret (results_cell_row (fn := Try.f14) (p := 4) (ty := 29) (by rfl) _ _ (p2 + 1 + 1) 29 (row29 d v16 u19 v20) (0, 0) _ (by rfl) HS6.out.1 hu29.out rfl (by kernel_rfl)) rfl ?_
          have hb6 := HS6.out.2.2 _ _ J6.out.bel (by have := J6.out.lo; omega)
          have hl6 : Later (p2 + 2) W6 w6 := ⟨HS6.out.2.1.1, fun k h1 h2 => HS6.out.2.1.2 k h2 (by omega) (by simp)⟩
          have hj : joinG x y = d := by have ha := ha.out; (try have hb := hb.out); (try have hc := hc.out); (try have hd := hd.out); (try have hf := hf.out); have h8 := h8.out; have h9 := h9.out; have l3 := l3.out; have l4 := l4.out; show jO (jE (jT (jM (jN x y) y) y) y) y = _; rw [show jN x y = a from ha.symm]; (first | rw [jM_pos y h8] | (rw [jM_neg y h8, ← hb])); (first | rw [jT_pos y h9] | (rw [jT_neg y h9, ← hc])); (first | (rw [jE_pos _ l3, ← hd]) | rw [jE_neg _ l3]); (first | (rw [jO_pos _ l4, ← hf]) | rw [jO_neg _ l4])
          refine ⟨_, rfl, rfl, ?_, hb6⟩
          rw [hj]; exact J6.out.k29' w6 hl6 hb6
      · have m0 : decide ((0 : Int) < (y.f3.length : Int)) = false := decide_eq_false (by omega)
        have m1 : decide (0 < y.f3.length) = false := decide_eq_false (by omega)
        have m2 : ¬ (0 : Int) < (y.f3.length : Int) := by omega
        replace l3 := Aside0.mk l3
        go_upto_region 8 with fail
        clear m0 m1 m2 q1
        have q1 : W4.cell? ⟨p2 + 1, 4, none⟩ = some (.slice A4 y.f4.length c4) := (blk_cell J4.out.b3 4).trans rfl
        by_cases l4 : y.f4.length > 0
        · have m0 : decide ((0 : Int) < (y.f4.length : Int)) = true := decide_eq_true (by omega)
          have m1 : decide (0 < y.f4.length) = true := decide_eq_true (by omega)
          have m2 : (0 : Int) < (y.f4.length : Int) := by omega
          replace l4 := Aside0.mk l4
          have zf := blk_frozen J4.out.b2 20
          have df : W4.cell? ⟨p2, 20, none⟩ = some v20 := (blk_cell J4.out.b2 20).trans rfl
          have hlt : p2 + 2 < W4.heap.size := by obtain ⟨old, ho, _⟩ := J4.out.b4; exact blk_lt ho
          replace hlt := Aside0.mk hlt
          go_upto_region 10 with (at_builtin; refine copy_row k52 (w := w) (p2 + 2) rfl (.const (.slice none 0 0)) (.tmp 42) 27 52 (.agg #[(.int .i64 0), (.slice none 0 0)]) 32 rfl Try.underlying27 info52 rfl (by decide) (by decide) y.f4 A4 c4 rfl rfl HG.out.2 J4.out.bel hlt.out (by have := HL.out.2; omega) ?_; intro A1 d1 w5 hc1 hC1 hb1; have J5 := J4.out.below hb1; have z5 := blk_frozen J5.b2 20; have d5 : w5.cell? ⟨p2, 20, none⟩ = some v20 := (blk_cell J5.b2 20).trans rfl)
          obtain ⟨f, hf⟩ : ∃ q, q = ({ c with f19 := y.f4 } : S29) := ⟨_, rfl⟩
          have J7 := J5.set (x' := f) (v19' := v19) (v20' := (.slice A1 y.f4.length d1)) 20 (.slice A1 y.f4.length d1) (by rw [hf]; rfl) (by rw [hf]; exact fun W' hl hb hk => K_other hk hc1 (hC1 W' hl hb))
          revert J7; generalize (World.setCell w5 _ _) = W7; intro J7; replace J7 := Aside0.mk J7; replace hf := Aside0.mk hf
          clear z5 d5 J5 m0 m1 m2 q1 zf df hC1
          generalize (.slice A1 y.f4.length d1 : Value) = u20 at J7; clear hc1
          obtain ⟨old, ho, hsz⟩ := J7.out.b4; have HO := Aside0.mk (And.intro ho hsz); clear ho hsz
          go_wp2_with (first | ((with_reducible refine gate_dst (N := 45) rfl ?_); refine wpList_load_row rfl 29 (.tmp 2) rfl p2 rfl 29 (row29 f v16 v19 u20) (0, 0) _ J7.out.b2 hu29.out rfl (by kernel_rfl) ?_) | ((with_reducible refine gate_store (t := 29) (p := 4) rfl ?_); refine Go.Proofs.Ythapknnppabdaaa.Fill.store_event rfl 29 _ _ rfl (p2 + 1 + 1) (row29 f v16 v19 u20) rfl rfl 29 old HO.out.1 (by kernel_rfl) (by rw [HO.out.2]; rfl) (by show Array.all _ _ = true; rw [Array.all_eq_true]; intro i hi; exact k29.K_one (J7.out.k29' _ (Later.refl _ _) J7.out.bel) _ (by rw [Array.mem_toList_iff]; exact Array.getElem_mem hi)) ?_; intro w6 h6 hkeep hbk; have HS6 := Aside0.mk (And.intro h6 (And.intro hkeep hbk)); clear h6 hkeep hbk))
          refine bodyPost_ret (results_cell_row (fn := Try.f14) (p := 4) (ty := 29) (by rfl) _ _ (p2 + 1 + 1) 29 (row29 f v16 v19 u20) (0, 0) _ (by rfl) HS6.out.1 hu29.out rfl (by kernel_rfl)) rfl ?_
          have hb6 := HS6.out.2.2 _ _ J7.out.bel (by have := J7.out.lo; omega)
          have hl6 : Later (p2 + 2) W7 w6 := ⟨HS6.out.2.1.1, fun k h1 h2 => HS6.out.2.1.2 k h2 (by omega) (by simp)⟩
          have hj : joinG x y = f := by have ha := ha.out; (try have hb := hb.out); (try have hc := hc.out); (try have hd := hd.out); (try have hf := hf.out); have h8 := h8.out; have h9 := h9.out; have l3 := l3.out; have l4 := l4.out; show jO (jE (jT (jM (jN x y) y) y) y) y = _; rw [show jN x y = a from ha.symm]; (first | rw [jM_pos y h8] | (rw [jM_neg y h8, ← hb])); (first | rw [jT_pos y h9] | (rw [jT_neg y h9, ← hc])); (first | (rw [jE_pos _ l3, ← hd]) | rw [jE_neg _ l3]); (first | (rw [jO_pos _ l4, ← hf]) | rw [jO_neg _ l4])
          refine ⟨_, rfl, rfl, ?_, hb6⟩
          rw [hj]; exact J7.out.k29' w6 hl6 hb6
        · have m0 : decide ((0 : Int) < (y.f4.length : Int)) = false := decide_eq_false (by omega)
          have m1 : decide (0 < y.f4.length) = false := decide_eq_false (by omega)
          have m2 : ¬ (0 : Int) < (y.f4.length : Int) := by omega
          replace l4 := Aside0.mk l4
          go_upto_region 10 with fail
          clear m0 m1 m2 q1
          obtain ⟨old, ho, hsz⟩ := J4.out.b4; have HO := Aside0.mk (And.intro ho hsz); clear ho hsz
          go_wp2_with (first | ((with_reducible refine gate_dst (N := 45) rfl ?_); refine wpList_load_row rfl 29 (.tmp 2) rfl p2 rfl 29 (row29 c v16 v19 v20) (0, 0) _ J4.out.b2 hu29.out rfl (by kernel_rfl) ?_) | ((with_reducible refine gate_store (t := 29) (p := 4) rfl ?_); refine Go.Proofs.Ythapknnppabdaaa.Fill.store_event rfl 29 _ _ rfl (p2 + 1 + 1) (row29 c v16 v19 v20) rfl rfl 29 old HO.out.1 (by kernel_rfl) (by rw [HO.out.2]; rfl) (by show Array.all _ _ = true; rw [Array.all_eq_true]; intro i hi; exact k29.K_one (J4.out.k29' _ (Later.refl _ _) J4.out.bel) _ (by rw [Array.mem_toList_iff]; exact Array.getElem_mem hi)) ?_; intro w6 h6 hkeep hbk; have HS6 := Aside0.mk (And.intro h6 (And.intro hkeep hbk)); clear h6 hkeep hbk))
          refine bodyPost_ret (results_cell_row (fn := Try.f14) (p := 4) (ty := 29) (by rfl) _ _ (p2 + 1 + 1) 29 (row29 c v16 v19 v20) (0, 0) _ (by rfl) HS6.out.1 hu29.out rfl (by kernel_rfl)) rfl ?_
          have hb6 := HS6.out.2.2 _ _ J4.out.bel (by have := J4.out.lo; omega)
          have hl6 : Later (p2 + 2) W4 w6 := ⟨HS6.out.2.1.1, fun k h1 h2 => HS6.out.2.1.2 k h2 (by omega) (by simp)⟩
          have hj : joinG x y = c := by have ha := ha.out; (try have hb := hb.out); (try have hc := hc.out); (try have hd := hd.out); (try have hf := hf.out); have h8 := h8.out; have h9 := h9.out; have l3 := l3.out; have l4 := l4.out; show jO (jE (jT (jM (jN x y) y) y) y) y = _; rw [show jN x y = a from ha.symm]; (first | rw [jM_pos y h8] | (rw [jM_neg y h8, ← hb])); (first | rw [jT_pos y h9] | (rw [jT_neg y h9, ← hc])); (first | (rw [jE_pos _ l3, ← hd]) | rw [jE_neg _ l3]); (first | (rw [jO_pos _ l4, ← hf]) | rw [jO_neg _ l4])
          refine ⟨_, rfl, rfl, ?_, hb6⟩
          rw [hj]; exact J4.out.k29' w6 hl6 hb6
end Go.Proofs.Ythapknnppabdaaa.MR
