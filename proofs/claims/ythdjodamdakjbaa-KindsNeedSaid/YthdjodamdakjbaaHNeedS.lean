/- comptoirlaw11.set: a field, or nothing of it. -/
import Derived.Test.YthdjodamdakjbaaHNeedC
namespace Go.Proofs.Ythdjodamdakjbaa.MK
open Go.RowKit Go.Proofs.YthdjodamdakjbaaW.PrintWords Go.Proofs.YthdjodamdakjbaaW.PrintLast Go.Proofs.YthdjodamdakjbaaW.PrintMore
set_option linter.unusedVariables false
set_option linter.unusedSimpArgs false

theorem MM.set {w : World} {p : Nat} {mc mc' : Array Value} {W : World} (h : MM w p mc W) (i : Nat) (v : Value) (hr : mc.setIfInBounds i v = mc') : MM w p mc' (W.setCell ⟨p, i, none⟩ v) := by
  obtain ⟨old, ho, hs⟩ := h.r
  exact ⟨by rw [← hr]; exact blk_set h.m _ _, ⟨old, (Below.heap_setCell _ _ _ _ (by show p + 1 ≠ p; omega)).trans ho, hs⟩, below_set h.bel (by show w.heap.size ≤ p; exact h.lo), h.lo⟩
theorem R_C {α : Type} {d : Kd α} {e : Nat} {w : World} {base : Nat} {ok : Nat → Prop} {v : Value} {xs : List α} (h : Kd.R d e w base ok v xs) : ∃ A c, v = .slice A xs.length c ∧ xs.length ≤ c ∧ d.C w A xs.length xs := by
  obtain ⟨_, ho⟩ := h
  obtain ⟨A, c, e1, e2, e3⟩ := ho.reads
  exact ⟨A, c, e1, e2, ReadsRow.imp_ e3 (Below.refl _ _) (fun p c hp => d.K_of_M hp)⟩
theorem rowM_one3 (x : S29) {v16 v19 v20 : Value} (h : v16.oneCell' = true) (h9 : v19.oneCell' = true) (h0 : v20.oneCell' = true) : (rowM x v16 v19 v20).all (·.oneCell') = true := by
  rw [← Array.all_toList]
  simp only [rowM, List.all_cons, List.all_nil, h, h9, h0]
  rfl
set_option maxHeartbeats 8000000 in
set_option maxRecDepth 100000 in
theorem set_x0 (ok : Nat → Prop) (z : S29) (v : Bool) (mc : Array Value) (w : World) (h : KS ok w z mc) (hok : ∀ k, w.heap.size ≤ k → ok k) : Calls Try.prog 14 #[.agg mc, .int .u8 80, .bool v] w fun e w' => ∃ nc : Array Value, e = .returned (.agg nc) ∧ KS ok w' (setM z 0 v) nc ∧ Below w.heap.size w w' := by
  have hu29 := Aside0.mk Try.underlying29
  have hu24 := Try.underlying24
  obtain ⟨A16, c16, A19, c19, A20, c20, em, l16, l19, l20, hC⟩ := KS_open h
  have HG := Aside0.mk (And.intro l16 (And.intro l19 (And.intro l20 hC)))
  have HEM := Aside0.mk em
  have HOK := Aside0.mk hok
  clear h em l16 l19 l20 hC hok
  go_enter Try.func14, Try.ntmps14
  go_upto_region 1 with fail
  obtain ⟨p, hp⟩ : ∃ p, p = w.heap.size := ⟨_, rfl⟩
  have J0 := mm_start w mc
  rw [← hp] at J0 ⊢
  clear hp
  revert J0
  change MM w p mc ((w.alloc (.cells mc 29)).alloc (.cells zeroM 29)) → Code.wp _ _ _ _ ((w.alloc (.cells mc 29)).alloc (.cells zeroM 29))
  generalize ((w.alloc (.cells mc 29)).alloc (.cells zeroM 29)) = W0
  intro J0
  rw [HEM.out] at J0
  replace J0 := Aside0.mk J0
  clear HEM
  cases v with
  | true =>
    have dq4 := (blk_cell J0.out.m 4).trans (show _ = some (Value.string z.f4) from rfl); have zq4 := blk_frozen J0.out.m 4
    go_upto_region 26 with fail
    have J1 := Aside0.mk (MM.set (mc' := rowM (setM z 0 true) (.slice A16 z.f15.length c16) (.slice A19 z.f18.length c19) (.slice A20 z.f19.length c20)) J0.out 4 (.string (nowS true)) rfl)
    clear J0 dq4 zq4
    obtain ⟨old, ho, hs⟩ := J1.out.r
    have HOLD := Aside0.mk (And.intro ho hs)
    clear ho hs
    obtain ⟨q, hq⟩ : ∃ q, q = rowM (setM z 0 true) (.slice A16 z.f15.length c16) (.slice A19 z.f18.length c19) (.slice A20 z.f19.length c20) := ⟨_, rfl⟩
    rw [← hq] at J1
    have HQ := Aside0.mk hq
    clear hq
    go_wp2_with (first | ((with_reducible refine gate_dst (N := 56) rfl ?_); refine wpList_load_row rfl 29 (.tmp 3) rfl p rfl 29 q (0, 0) _ J1.out.m hu29.out rfl (by rw [HQ.out]; kernel_rfl) ?_) | ((with_reducible refine gate_store (t := 29) (p := 6) rfl ?_); refine Go.Proofs.Ythdjodamdakjbaa.Fill.store_event rfl 29 _ _ rfl (p + 1) q rfl rfl 29 old HOLD.out.1 (by rw [HQ.out]; kernel_rfl) (by rw [HOLD.out.2, HQ.out]; rfl) (by rw [HQ.out]; exact rowM_one3 _ (by rfl) (by rfl) (by rfl)) ?_; intro w9 ea eb ec; have HF := Aside0.mk (And.intro ea (And.intro eb ec)); clear ea eb ec))
    refine bodyPost_ret (results_cell_row (fn := Try.f14) (p := 6) (ty := 29) (by rfl) _ _ (p + 1) 29 q (0, 0) _ (by rfl) HF.out.1 hu29.out rfl (by rw [HQ.out]; kernel_rfl)) rfl ?_
    have bel := HF.out.2.2 _ _ J1.out.bel (by have := J1.out.lo; omega)
    exact ⟨q, rfl, fun W' hW => by rw [HQ.out]; obtain ⟨n16, n19, n20⟩ := HG.out.2.2.2 W' (fun k h1 h2 => (hW k (by have := bel.size; omega) h2).trans (bel.block k h1)); exact k29_mk W' (setM z 0 true) HG.out.1 n16 HG.out.2.1 n19 HG.out.2.2.1 n20, bel⟩
  | false =>
    have dq4 := (blk_cell J0.out.m 4).trans (show _ = some (Value.string z.f4) from rfl); have zq4 := blk_frozen J0.out.m 4
    go_upto_region 26 with fail
    have J1 := Aside0.mk (MM.set (mc' := rowM (setM z 0 false) (.slice A16 z.f15.length c16) (.slice A19 z.f18.length c19) (.slice A20 z.f19.length c20)) J0.out 4 (.string (nowS false)) rfl)
    clear J0 dq4 zq4
    obtain ⟨old, ho, hs⟩ := J1.out.r
    have HOLD := Aside0.mk (And.intro ho hs)
    clear ho hs
    obtain ⟨q, hq⟩ : ∃ q, q = rowM (setM z 0 false) (.slice A16 z.f15.length c16) (.slice A19 z.f18.length c19) (.slice A20 z.f19.length c20) := ⟨_, rfl⟩
    rw [← hq] at J1
    have HQ := Aside0.mk hq
    clear hq
    go_wp2_with (first | ((with_reducible refine gate_dst (N := 56) rfl ?_); refine wpList_load_row rfl 29 (.tmp 3) rfl p rfl 29 q (0, 0) _ J1.out.m hu29.out rfl (by rw [HQ.out]; kernel_rfl) ?_) | ((with_reducible refine gate_store (t := 29) (p := 6) rfl ?_); refine Go.Proofs.Ythdjodamdakjbaa.Fill.store_event rfl 29 _ _ rfl (p + 1) q rfl rfl 29 old HOLD.out.1 (by rw [HQ.out]; kernel_rfl) (by rw [HOLD.out.2, HQ.out]; rfl) (by rw [HQ.out]; exact rowM_one3 _ (by rfl) (by rfl) (by rfl)) ?_; intro w9 ea eb ec; have HF := Aside0.mk (And.intro ea (And.intro eb ec)); clear ea eb ec))
    refine bodyPost_ret (results_cell_row (fn := Try.f14) (p := 6) (ty := 29) (by rfl) _ _ (p + 1) 29 q (0, 0) _ (by rfl) HF.out.1 hu29.out rfl (by rw [HQ.out]; kernel_rfl)) rfl ?_
    have bel := HF.out.2.2 _ _ J1.out.bel (by have := J1.out.lo; omega)
    exact ⟨q, rfl, fun W' hW => by rw [HQ.out]; obtain ⟨n16, n19, n20⟩ := HG.out.2.2.2 W' (fun k h1 h2 => (hW k (by have := bel.size; omega) h2).trans (bel.block k h1)); exact k29_mk W' (setM z 0 false) HG.out.1 n16 HG.out.2.1 n19 HG.out.2.2.1 n20, bel⟩
set_option maxHeartbeats 8000000 in
set_option maxRecDepth 100000 in
theorem set_x1 (ok : Nat → Prop) (z : S29) (v : Bool) (mc : Array Value) (w : World) (h : KS ok w z mc) (hok : ∀ k, w.heap.size ≤ k → ok k) : Calls Try.prog 14 #[.agg mc, .int .u8 67, .bool v] w fun e w' => ∃ nc : Array Value, e = .returned (.agg nc) ∧ KS ok w' (setM z 1 v) nc ∧ Below w.heap.size w w' := by
  have hu29 := Aside0.mk Try.underlying29
  have hu24 := Try.underlying24
  obtain ⟨A16, c16, A19, c19, A20, c20, em, l16, l19, l20, hC⟩ := KS_open h
  have HG := Aside0.mk (And.intro l16 (And.intro l19 (And.intro l20 hC)))
  have HEM := Aside0.mk em
  have HOK := Aside0.mk hok
  clear h em l16 l19 l20 hC hok
  go_enter Try.func14, Try.ntmps14
  go_upto_region 1 with fail
  obtain ⟨p, hp⟩ : ∃ p, p = w.heap.size := ⟨_, rfl⟩
  have J0 := mm_start w mc
  rw [← hp] at J0 ⊢
  clear hp
  revert J0
  change MM w p mc ((w.alloc (.cells mc 29)).alloc (.cells zeroM 29)) → Code.wp _ _ _ _ ((w.alloc (.cells mc 29)).alloc (.cells zeroM 29))
  generalize ((w.alloc (.cells mc 29)).alloc (.cells zeroM 29)) = W0
  intro J0
  rw [HEM.out] at J0
  replace J0 := Aside0.mk J0
  clear HEM
  cases v with
  | true =>
    have dq5 := (blk_cell J0.out.m 5).trans (show _ = some (Value.string z.f5) from rfl); have zq5 := blk_frozen J0.out.m 5
    have dq6 := (blk_cell J0.out.m 6).trans (show _ = some (Value.int .u64 z.f6) from rfl); have zq6 := blk_frozen J0.out.m 6
    go_upto_region 26 with fail
    have J1 := Aside0.mk (MM.set (mc' := rowM (setM z 1 true) (.slice A16 z.f15.length c16) (.slice A19 z.f18.length c19) (.slice A20 z.f19.length c20)) (MM.set (mc' := rowM { z with f5 := nowS true } (.slice A16 z.f15.length c16) (.slice A19 z.f18.length c19) (.slice A20 z.f19.length c20)) J0.out 5 (.string (nowS true)) rfl) 6 (.int .u64 0) rfl)
    clear J0 dq5 zq5 dq6 zq6
    obtain ⟨old, ho, hs⟩ := J1.out.r
    have HOLD := Aside0.mk (And.intro ho hs)
    clear ho hs
    obtain ⟨q, hq⟩ : ∃ q, q = rowM (setM z 1 true) (.slice A16 z.f15.length c16) (.slice A19 z.f18.length c19) (.slice A20 z.f19.length c20) := ⟨_, rfl⟩
    rw [← hq] at J1
    have HQ := Aside0.mk hq
    clear hq
    go_wp2_with (first | ((with_reducible refine gate_dst (N := 56) rfl ?_); refine wpList_load_row rfl 29 (.tmp 3) rfl p rfl 29 q (0, 0) _ J1.out.m hu29.out rfl (by rw [HQ.out]; kernel_rfl) ?_) | ((with_reducible refine gate_store (t := 29) (p := 6) rfl ?_); refine Go.Proofs.Ythdjodamdakjbaa.Fill.store_event rfl 29 _ _ rfl (p + 1) q rfl rfl 29 old HOLD.out.1 (by rw [HQ.out]; kernel_rfl) (by rw [HOLD.out.2, HQ.out]; rfl) (by rw [HQ.out]; exact rowM_one3 _ (by rfl) (by rfl) (by rfl)) ?_; intro w9 ea eb ec; have HF := Aside0.mk (And.intro ea (And.intro eb ec)); clear ea eb ec))
    refine bodyPost_ret (results_cell_row (fn := Try.f14) (p := 6) (ty := 29) (by rfl) _ _ (p + 1) 29 q (0, 0) _ (by rfl) HF.out.1 hu29.out rfl (by rw [HQ.out]; kernel_rfl)) rfl ?_
    have bel := HF.out.2.2 _ _ J1.out.bel (by have := J1.out.lo; omega)
    exact ⟨q, rfl, fun W' hW => by rw [HQ.out]; obtain ⟨n16, n19, n20⟩ := HG.out.2.2.2 W' (fun k h1 h2 => (hW k (by have := bel.size; omega) h2).trans (bel.block k h1)); exact k29_mk W' (setM z 1 true) HG.out.1 n16 HG.out.2.1 n19 HG.out.2.2.1 n20, bel⟩
  | false =>
    have dq5 := (blk_cell J0.out.m 5).trans (show _ = some (Value.string z.f5) from rfl); have zq5 := blk_frozen J0.out.m 5
    have dq6 := (blk_cell J0.out.m 6).trans (show _ = some (Value.int .u64 z.f6) from rfl); have zq6 := blk_frozen J0.out.m 6
    go_upto_region 26 with fail
    have J1 := Aside0.mk (MM.set (mc' := rowM (setM z 1 false) (.slice A16 z.f15.length c16) (.slice A19 z.f18.length c19) (.slice A20 z.f19.length c20)) (MM.set (mc' := rowM { z with f5 := nowS false } (.slice A16 z.f15.length c16) (.slice A19 z.f18.length c19) (.slice A20 z.f19.length c20)) J0.out 5 (.string (nowS false)) rfl) 6 (.int .u64 0) rfl)
    clear J0 dq5 zq5 dq6 zq6
    obtain ⟨old, ho, hs⟩ := J1.out.r
    have HOLD := Aside0.mk (And.intro ho hs)
    clear ho hs
    obtain ⟨q, hq⟩ : ∃ q, q = rowM (setM z 1 false) (.slice A16 z.f15.length c16) (.slice A19 z.f18.length c19) (.slice A20 z.f19.length c20) := ⟨_, rfl⟩
    rw [← hq] at J1
    have HQ := Aside0.mk hq
    clear hq
    go_wp2_with (first | ((with_reducible refine gate_dst (N := 56) rfl ?_); refine wpList_load_row rfl 29 (.tmp 3) rfl p rfl 29 q (0, 0) _ J1.out.m hu29.out rfl (by rw [HQ.out]; kernel_rfl) ?_) | ((with_reducible refine gate_store (t := 29) (p := 6) rfl ?_); refine Go.Proofs.Ythdjodamdakjbaa.Fill.store_event rfl 29 _ _ rfl (p + 1) q rfl rfl 29 old HOLD.out.1 (by rw [HQ.out]; kernel_rfl) (by rw [HOLD.out.2, HQ.out]; rfl) (by rw [HQ.out]; exact rowM_one3 _ (by rfl) (by rfl) (by rfl)) ?_; intro w9 ea eb ec; have HF := Aside0.mk (And.intro ea (And.intro eb ec)); clear ea eb ec))
    refine bodyPost_ret (results_cell_row (fn := Try.f14) (p := 6) (ty := 29) (by rfl) _ _ (p + 1) 29 q (0, 0) _ (by rfl) HF.out.1 hu29.out rfl (by rw [HQ.out]; kernel_rfl)) rfl ?_
    have bel := HF.out.2.2 _ _ J1.out.bel (by have := J1.out.lo; omega)
    exact ⟨q, rfl, fun W' hW => by rw [HQ.out]; obtain ⟨n16, n19, n20⟩ := HG.out.2.2.2 W' (fun k h1 h2 => (hW k (by have := bel.size; omega) h2).trans (bel.block k h1)); exact k29_mk W' (setM z 1 false) HG.out.1 n16 HG.out.2.1 n19 HG.out.2.2.1 n20, bel⟩
set_option maxHeartbeats 8000000 in
set_option maxRecDepth 100000 in
theorem set_x2 (ok : Nat → Prop) (z : S29) (v : Bool) (mc : Array Value) (w : World) (h : KS ok w z mc) (hok : ∀ k, w.heap.size ≤ k → ok k) : Calls Try.prog 14 #[.agg mc, .int .u8 82, .bool v] w fun e w' => ∃ nc : Array Value, e = .returned (.agg nc) ∧ KS ok w' (setM z 2 v) nc ∧ Below w.heap.size w w' := by
  have hu29 := Aside0.mk Try.underlying29
  have hu24 := Try.underlying24
  obtain ⟨A16, c16, A19, c19, A20, c20, em, l16, l19, l20, hC⟩ := KS_open h
  have HG := Aside0.mk (And.intro l16 (And.intro l19 (And.intro l20 hC)))
  have HEM := Aside0.mk em
  have HOK := Aside0.mk hok
  clear h em l16 l19 l20 hC hok
  go_enter Try.func14, Try.ntmps14
  go_upto_region 1 with fail
  obtain ⟨p, hp⟩ : ∃ p, p = w.heap.size := ⟨_, rfl⟩
  have J0 := mm_start w mc
  rw [← hp] at J0 ⊢
  clear hp
  revert J0
  change MM w p mc ((w.alloc (.cells mc 29)).alloc (.cells zeroM 29)) → Code.wp _ _ _ _ ((w.alloc (.cells mc 29)).alloc (.cells zeroM 29))
  generalize ((w.alloc (.cells mc 29)).alloc (.cells zeroM 29)) = W0
  intro J0
  rw [HEM.out] at J0
  replace J0 := Aside0.mk J0
  clear HEM
  cases v with
  | true =>
    have dq7 := (blk_cell J0.out.m 7).trans (show _ = some (Value.string z.f7) from rfl); have zq7 := blk_frozen J0.out.m 7
    go_upto_region 26 with fail
    have J1 := Aside0.mk (MM.set (mc' := rowM (setM z 2 true) (.slice A16 z.f15.length c16) (.slice A19 z.f18.length c19) (.slice A20 z.f19.length c20)) J0.out 7 (.string (nowS true)) rfl)
    clear J0 dq7 zq7
    obtain ⟨old, ho, hs⟩ := J1.out.r
    have HOLD := Aside0.mk (And.intro ho hs)
    clear ho hs
    obtain ⟨q, hq⟩ : ∃ q, q = rowM (setM z 2 true) (.slice A16 z.f15.length c16) (.slice A19 z.f18.length c19) (.slice A20 z.f19.length c20) := ⟨_, rfl⟩
    rw [← hq] at J1
    have HQ := Aside0.mk hq
    clear hq
    go_wp2_with (first | ((with_reducible refine gate_dst (N := 56) rfl ?_); refine wpList_load_row rfl 29 (.tmp 3) rfl p rfl 29 q (0, 0) _ J1.out.m hu29.out rfl (by rw [HQ.out]; kernel_rfl) ?_) | ((with_reducible refine gate_store (t := 29) (p := 6) rfl ?_); refine Go.Proofs.Ythdjodamdakjbaa.Fill.store_event rfl 29 _ _ rfl (p + 1) q rfl rfl 29 old HOLD.out.1 (by rw [HQ.out]; kernel_rfl) (by rw [HOLD.out.2, HQ.out]; rfl) (by rw [HQ.out]; exact rowM_one3 _ (by rfl) (by rfl) (by rfl)) ?_; intro w9 ea eb ec; have HF := Aside0.mk (And.intro ea (And.intro eb ec)); clear ea eb ec))
    refine bodyPost_ret (results_cell_row (fn := Try.f14) (p := 6) (ty := 29) (by rfl) _ _ (p + 1) 29 q (0, 0) _ (by rfl) HF.out.1 hu29.out rfl (by rw [HQ.out]; kernel_rfl)) rfl ?_
    have bel := HF.out.2.2 _ _ J1.out.bel (by have := J1.out.lo; omega)
    exact ⟨q, rfl, fun W' hW => by rw [HQ.out]; obtain ⟨n16, n19, n20⟩ := HG.out.2.2.2 W' (fun k h1 h2 => (hW k (by have := bel.size; omega) h2).trans (bel.block k h1)); exact k29_mk W' (setM z 2 true) HG.out.1 n16 HG.out.2.1 n19 HG.out.2.2.1 n20, bel⟩
  | false =>
    have dq7 := (blk_cell J0.out.m 7).trans (show _ = some (Value.string z.f7) from rfl); have zq7 := blk_frozen J0.out.m 7
    go_upto_region 26 with fail
    have J1 := Aside0.mk (MM.set (mc' := rowM (setM z 2 false) (.slice A16 z.f15.length c16) (.slice A19 z.f18.length c19) (.slice A20 z.f19.length c20)) J0.out 7 (.string (nowS false)) rfl)
    clear J0 dq7 zq7
    obtain ⟨old, ho, hs⟩ := J1.out.r
    have HOLD := Aside0.mk (And.intro ho hs)
    clear ho hs
    obtain ⟨q, hq⟩ : ∃ q, q = rowM (setM z 2 false) (.slice A16 z.f15.length c16) (.slice A19 z.f18.length c19) (.slice A20 z.f19.length c20) := ⟨_, rfl⟩
    rw [← hq] at J1
    have HQ := Aside0.mk hq
    clear hq
    go_wp2_with (first | ((with_reducible refine gate_dst (N := 56) rfl ?_); refine wpList_load_row rfl 29 (.tmp 3) rfl p rfl 29 q (0, 0) _ J1.out.m hu29.out rfl (by rw [HQ.out]; kernel_rfl) ?_) | ((with_reducible refine gate_store (t := 29) (p := 6) rfl ?_); refine Go.Proofs.Ythdjodamdakjbaa.Fill.store_event rfl 29 _ _ rfl (p + 1) q rfl rfl 29 old HOLD.out.1 (by rw [HQ.out]; kernel_rfl) (by rw [HOLD.out.2, HQ.out]; rfl) (by rw [HQ.out]; exact rowM_one3 _ (by rfl) (by rfl) (by rfl)) ?_; intro w9 ea eb ec; have HF := Aside0.mk (And.intro ea (And.intro eb ec)); clear ea eb ec))
    refine bodyPost_ret (results_cell_row (fn := Try.f14) (p := 6) (ty := 29) (by rfl) _ _ (p + 1) 29 q (0, 0) _ (by rfl) HF.out.1 hu29.out rfl (by rw [HQ.out]; kernel_rfl)) rfl ?_
    have bel := HF.out.2.2 _ _ J1.out.bel (by have := J1.out.lo; omega)
    exact ⟨q, rfl, fun W' hW => by rw [HQ.out]; obtain ⟨n16, n19, n20⟩ := HG.out.2.2.2 W' (fun k h1 h2 => (hW k (by have := bel.size; omega) h2).trans (bel.block k h1)); exact k29_mk W' (setM z 2 false) HG.out.1 n16 HG.out.2.1 n19 HG.out.2.2.1 n20, bel⟩
set_option maxHeartbeats 8000000 in
set_option maxRecDepth 100000 in
theorem set_x3 (ok : Nat → Prop) (z : S29) (v : Bool) (mc : Array Value) (w : World) (h : KS ok w z mc) (hok : ∀ k, w.heap.size ≤ k → ok k) : Calls Try.prog 14 #[.agg mc, .int .u8 77, .bool v] w fun e w' => ∃ nc : Array Value, e = .returned (.agg nc) ∧ KS ok w' (setM z 3 v) nc ∧ Below w.heap.size w w' := by
  have hu29 := Aside0.mk Try.underlying29
  have hu24 := Try.underlying24
  obtain ⟨A16, c16, A19, c19, A20, c20, em, l16, l19, l20, hC⟩ := KS_open h
  have HG := Aside0.mk (And.intro l16 (And.intro l19 (And.intro l20 hC)))
  have HEM := Aside0.mk em
  have HOK := Aside0.mk hok
  clear h em l16 l19 l20 hC hok
  go_enter Try.func14, Try.ntmps14
  go_upto_region 1 with fail
  obtain ⟨p, hp⟩ : ∃ p, p = w.heap.size := ⟨_, rfl⟩
  have J0 := mm_start w mc
  rw [← hp] at J0 ⊢
  clear hp
  revert J0
  change MM w p mc ((w.alloc (.cells mc 29)).alloc (.cells zeroM 29)) → Code.wp _ _ _ _ ((w.alloc (.cells mc 29)).alloc (.cells zeroM 29))
  generalize ((w.alloc (.cells mc 29)).alloc (.cells zeroM 29)) = W0
  intro J0
  rw [HEM.out] at J0
  replace J0 := Aside0.mk J0
  clear HEM
  cases v with
  | true =>
    have dq8 := (blk_cell J0.out.m 8).trans (show _ = some (Value.string z.f8) from rfl); have zq8 := blk_frozen J0.out.m 8
    go_upto_region 26 with fail
    have J1 := Aside0.mk (MM.set (mc' := rowM (setM z 3 true) (.slice A16 z.f15.length c16) (.slice A19 z.f18.length c19) (.slice A20 z.f19.length c20)) J0.out 8 (.string (nowS true)) rfl)
    clear J0 dq8 zq8
    obtain ⟨old, ho, hs⟩ := J1.out.r
    have HOLD := Aside0.mk (And.intro ho hs)
    clear ho hs
    obtain ⟨q, hq⟩ : ∃ q, q = rowM (setM z 3 true) (.slice A16 z.f15.length c16) (.slice A19 z.f18.length c19) (.slice A20 z.f19.length c20) := ⟨_, rfl⟩
    rw [← hq] at J1
    have HQ := Aside0.mk hq
    clear hq
    go_wp2_with (first | ((with_reducible refine gate_dst (N := 56) rfl ?_); refine wpList_load_row rfl 29 (.tmp 3) rfl p rfl 29 q (0, 0) _ J1.out.m hu29.out rfl (by rw [HQ.out]; kernel_rfl) ?_) | ((with_reducible refine gate_store (t := 29) (p := 6) rfl ?_); refine Go.Proofs.Ythdjodamdakjbaa.Fill.store_event rfl 29 _ _ rfl (p + 1) q rfl rfl 29 old HOLD.out.1 (by rw [HQ.out]; kernel_rfl) (by rw [HOLD.out.2, HQ.out]; rfl) (by rw [HQ.out]; exact rowM_one3 _ (by rfl) (by rfl) (by rfl)) ?_; intro w9 ea eb ec; have HF := Aside0.mk (And.intro ea (And.intro eb ec)); clear ea eb ec))
    refine bodyPost_ret (results_cell_row (fn := Try.f14) (p := 6) (ty := 29) (by rfl) _ _ (p + 1) 29 q (0, 0) _ (by rfl) HF.out.1 hu29.out rfl (by rw [HQ.out]; kernel_rfl)) rfl ?_
    have bel := HF.out.2.2 _ _ J1.out.bel (by have := J1.out.lo; omega)
    exact ⟨q, rfl, fun W' hW => by rw [HQ.out]; obtain ⟨n16, n19, n20⟩ := HG.out.2.2.2 W' (fun k h1 h2 => (hW k (by have := bel.size; omega) h2).trans (bel.block k h1)); exact k29_mk W' (setM z 3 true) HG.out.1 n16 HG.out.2.1 n19 HG.out.2.2.1 n20, bel⟩
  | false =>
    have dq8 := (blk_cell J0.out.m 8).trans (show _ = some (Value.string z.f8) from rfl); have zq8 := blk_frozen J0.out.m 8
    go_upto_region 26 with fail
    have J1 := Aside0.mk (MM.set (mc' := rowM (setM z 3 false) (.slice A16 z.f15.length c16) (.slice A19 z.f18.length c19) (.slice A20 z.f19.length c20)) J0.out 8 (.string (nowS false)) rfl)
    clear J0 dq8 zq8
    obtain ⟨old, ho, hs⟩ := J1.out.r
    have HOLD := Aside0.mk (And.intro ho hs)
    clear ho hs
    obtain ⟨q, hq⟩ : ∃ q, q = rowM (setM z 3 false) (.slice A16 z.f15.length c16) (.slice A19 z.f18.length c19) (.slice A20 z.f19.length c20) := ⟨_, rfl⟩
    rw [← hq] at J1
    have HQ := Aside0.mk hq
    clear hq
    go_wp2_with (first | ((with_reducible refine gate_dst (N := 56) rfl ?_); refine wpList_load_row rfl 29 (.tmp 3) rfl p rfl 29 q (0, 0) _ J1.out.m hu29.out rfl (by rw [HQ.out]; kernel_rfl) ?_) | ((with_reducible refine gate_store (t := 29) (p := 6) rfl ?_); refine Go.Proofs.Ythdjodamdakjbaa.Fill.store_event rfl 29 _ _ rfl (p + 1) q rfl rfl 29 old HOLD.out.1 (by rw [HQ.out]; kernel_rfl) (by rw [HOLD.out.2, HQ.out]; rfl) (by rw [HQ.out]; exact rowM_one3 _ (by rfl) (by rfl) (by rfl)) ?_; intro w9 ea eb ec; have HF := Aside0.mk (And.intro ea (And.intro eb ec)); clear ea eb ec))
    refine bodyPost_ret (results_cell_row (fn := Try.f14) (p := 6) (ty := 29) (by rfl) _ _ (p + 1) 29 q (0, 0) _ (by rfl) HF.out.1 hu29.out rfl (by rw [HQ.out]; kernel_rfl)) rfl ?_
    have bel := HF.out.2.2 _ _ J1.out.bel (by have := J1.out.lo; omega)
    exact ⟨q, rfl, fun W' hW => by rw [HQ.out]; obtain ⟨n16, n19, n20⟩ := HG.out.2.2.2 W' (fun k h1 h2 => (hW k (by have := bel.size; omega) h2).trans (bel.block k h1)); exact k29_mk W' (setM z 3 false) HG.out.1 n16 HG.out.2.1 n19 HG.out.2.2.1 n20, bel⟩
set_option maxHeartbeats 8000000 in
set_option maxRecDepth 100000 in
theorem set_x4 (ok : Nat → Prop) (z : S29) (v : Bool) (mc : Array Value) (w : World) (h : KS ok w z mc) (hok : ∀ k, w.heap.size ≤ k → ok k) : Calls Try.prog 14 #[.agg mc, .int .u8 84, .bool v] w fun e w' => ∃ nc : Array Value, e = .returned (.agg nc) ∧ KS ok w' (setM z 4 v) nc ∧ Below w.heap.size w w' := by
  have hu29 := Aside0.mk Try.underlying29
  have hu24 := Try.underlying24
  obtain ⟨A16, c16, A19, c19, A20, c20, em, l16, l19, l20, hC⟩ := KS_open h
  have HG := Aside0.mk (And.intro l16 (And.intro l19 (And.intro l20 hC)))
  have HEM := Aside0.mk em
  have HOK := Aside0.mk hok
  clear h em l16 l19 l20 hC hok
  go_enter Try.func14, Try.ntmps14
  go_upto_region 1 with fail
  obtain ⟨p, hp⟩ : ∃ p, p = w.heap.size := ⟨_, rfl⟩
  have J0 := mm_start w mc
  rw [← hp] at J0 ⊢
  clear hp
  revert J0
  change MM w p mc ((w.alloc (.cells mc 29)).alloc (.cells zeroM 29)) → Code.wp _ _ _ _ ((w.alloc (.cells mc 29)).alloc (.cells zeroM 29))
  generalize ((w.alloc (.cells mc 29)).alloc (.cells zeroM 29)) = W0
  intro J0
  rw [HEM.out] at J0
  replace J0 := Aside0.mk J0
  clear HEM
  cases v with
  | true =>
    have dq9 := (blk_cell J0.out.m 9).trans (show _ = some (Value.string z.f9) from rfl); have zq9 := blk_frozen J0.out.m 9
    go_upto_region 26 with fail
    have J1 := Aside0.mk (MM.set (mc' := rowM (setM z 4 true) (.slice A16 z.f15.length c16) (.slice A19 z.f18.length c19) (.slice A20 z.f19.length c20)) J0.out 9 (.string (nowS true)) rfl)
    clear J0 dq9 zq9
    obtain ⟨old, ho, hs⟩ := J1.out.r
    have HOLD := Aside0.mk (And.intro ho hs)
    clear ho hs
    obtain ⟨q, hq⟩ : ∃ q, q = rowM (setM z 4 true) (.slice A16 z.f15.length c16) (.slice A19 z.f18.length c19) (.slice A20 z.f19.length c20) := ⟨_, rfl⟩
    rw [← hq] at J1
    have HQ := Aside0.mk hq
    clear hq
    go_wp2_with (first | ((with_reducible refine gate_dst (N := 56) rfl ?_); refine wpList_load_row rfl 29 (.tmp 3) rfl p rfl 29 q (0, 0) _ J1.out.m hu29.out rfl (by rw [HQ.out]; kernel_rfl) ?_) | ((with_reducible refine gate_store (t := 29) (p := 6) rfl ?_); refine Go.Proofs.Ythdjodamdakjbaa.Fill.store_event rfl 29 _ _ rfl (p + 1) q rfl rfl 29 old HOLD.out.1 (by rw [HQ.out]; kernel_rfl) (by rw [HOLD.out.2, HQ.out]; rfl) (by rw [HQ.out]; exact rowM_one3 _ (by rfl) (by rfl) (by rfl)) ?_; intro w9 ea eb ec; have HF := Aside0.mk (And.intro ea (And.intro eb ec)); clear ea eb ec))
    refine bodyPost_ret (results_cell_row (fn := Try.f14) (p := 6) (ty := 29) (by rfl) _ _ (p + 1) 29 q (0, 0) _ (by rfl) HF.out.1 hu29.out rfl (by rw [HQ.out]; kernel_rfl)) rfl ?_
    have bel := HF.out.2.2 _ _ J1.out.bel (by have := J1.out.lo; omega)
    exact ⟨q, rfl, fun W' hW => by rw [HQ.out]; obtain ⟨n16, n19, n20⟩ := HG.out.2.2.2 W' (fun k h1 h2 => (hW k (by have := bel.size; omega) h2).trans (bel.block k h1)); exact k29_mk W' (setM z 4 true) HG.out.1 n16 HG.out.2.1 n19 HG.out.2.2.1 n20, bel⟩
  | false =>
    have dq9 := (blk_cell J0.out.m 9).trans (show _ = some (Value.string z.f9) from rfl); have zq9 := blk_frozen J0.out.m 9
    go_upto_region 26 with fail
    have J1 := Aside0.mk (MM.set (mc' := rowM (setM z 4 false) (.slice A16 z.f15.length c16) (.slice A19 z.f18.length c19) (.slice A20 z.f19.length c20)) J0.out 9 (.string (nowS false)) rfl)
    clear J0 dq9 zq9
    obtain ⟨old, ho, hs⟩ := J1.out.r
    have HOLD := Aside0.mk (And.intro ho hs)
    clear ho hs
    obtain ⟨q, hq⟩ : ∃ q, q = rowM (setM z 4 false) (.slice A16 z.f15.length c16) (.slice A19 z.f18.length c19) (.slice A20 z.f19.length c20) := ⟨_, rfl⟩
    rw [← hq] at J1
    have HQ := Aside0.mk hq
    clear hq
    go_wp2_with (first | ((with_reducible refine gate_dst (N := 56) rfl ?_); refine wpList_load_row rfl 29 (.tmp 3) rfl p rfl 29 q (0, 0) _ J1.out.m hu29.out rfl (by rw [HQ.out]; kernel_rfl) ?_) | ((with_reducible refine gate_store (t := 29) (p := 6) rfl ?_); refine Go.Proofs.Ythdjodamdakjbaa.Fill.store_event rfl 29 _ _ rfl (p + 1) q rfl rfl 29 old HOLD.out.1 (by rw [HQ.out]; kernel_rfl) (by rw [HOLD.out.2, HQ.out]; rfl) (by rw [HQ.out]; exact rowM_one3 _ (by rfl) (by rfl) (by rfl)) ?_; intro w9 ea eb ec; have HF := Aside0.mk (And.intro ea (And.intro eb ec)); clear ea eb ec))
    refine bodyPost_ret (results_cell_row (fn := Try.f14) (p := 6) (ty := 29) (by rfl) _ _ (p + 1) 29 q (0, 0) _ (by rfl) HF.out.1 hu29.out rfl (by rw [HQ.out]; kernel_rfl)) rfl ?_
    have bel := HF.out.2.2 _ _ J1.out.bel (by have := J1.out.lo; omega)
    exact ⟨q, rfl, fun W' hW => by rw [HQ.out]; obtain ⟨n16, n19, n20⟩ := HG.out.2.2.2 W' (fun k h1 h2 => (hW k (by have := bel.size; omega) h2).trans (bel.block k h1)); exact k29_mk W' (setM z 4 false) HG.out.1 n16 HG.out.2.1 n19 HG.out.2.2.1 n20, bel⟩
set_option maxHeartbeats 8000000 in
set_option maxRecDepth 100000 in
theorem set_x5 (ok : Nat → Prop) (z : S29) (v : Bool) (mc : Array Value) (w : World) (h : KS ok w z mc) (hok : ∀ k, w.heap.size ≤ k → ok k) : Calls Try.prog 14 #[.agg mc, .int .u8 65, .bool v] w fun e w' => ∃ nc : Array Value, e = .returned (.agg nc) ∧ KS ok w' (setM z 5 v) nc ∧ Below w.heap.size w w' := by
  have hu29 := Aside0.mk Try.underlying29
  have hu24 := Try.underlying24
  obtain ⟨A16, c16, A19, c19, A20, c20, em, l16, l19, l20, hC⟩ := KS_open h
  have HG := Aside0.mk (And.intro l16 (And.intro l19 (And.intro l20 hC)))
  have HEM := Aside0.mk em
  have HOK := Aside0.mk hok
  clear h em l16 l19 l20 hC hok
  go_enter Try.func14, Try.ntmps14
  go_upto_region 1 with fail
  obtain ⟨p, hp⟩ : ∃ p, p = w.heap.size := ⟨_, rfl⟩
  have J0 := mm_start w mc
  rw [← hp] at J0 ⊢
  clear hp
  revert J0
  change MM w p mc ((w.alloc (.cells mc 29)).alloc (.cells zeroM 29)) → Code.wp _ _ _ _ ((w.alloc (.cells mc 29)).alloc (.cells zeroM 29))
  generalize ((w.alloc (.cells mc 29)).alloc (.cells zeroM 29)) = W0
  intro J0
  rw [HEM.out] at J0
  replace J0 := Aside0.mk J0
  clear HEM
  cases v with
  | true =>
    have dq10 := (blk_cell J0.out.m 10).trans (show _ = some (Value.string z.f10) from rfl); have zq10 := blk_frozen J0.out.m 10
    go_upto_region 26 with fail
    have J1 := Aside0.mk (MM.set (mc' := rowM (setM z 5 true) (.slice A16 z.f15.length c16) (.slice A19 z.f18.length c19) (.slice A20 z.f19.length c20)) J0.out 10 (.string (nowS true)) rfl)
    clear J0 dq10 zq10
    obtain ⟨old, ho, hs⟩ := J1.out.r
    have HOLD := Aside0.mk (And.intro ho hs)
    clear ho hs
    obtain ⟨q, hq⟩ : ∃ q, q = rowM (setM z 5 true) (.slice A16 z.f15.length c16) (.slice A19 z.f18.length c19) (.slice A20 z.f19.length c20) := ⟨_, rfl⟩
    rw [← hq] at J1
    have HQ := Aside0.mk hq
    clear hq
    go_wp2_with (first | ((with_reducible refine gate_dst (N := 56) rfl ?_); refine wpList_load_row rfl 29 (.tmp 3) rfl p rfl 29 q (0, 0) _ J1.out.m hu29.out rfl (by rw [HQ.out]; kernel_rfl) ?_) | ((with_reducible refine gate_store (t := 29) (p := 6) rfl ?_); refine Go.Proofs.Ythdjodamdakjbaa.Fill.store_event rfl 29 _ _ rfl (p + 1) q rfl rfl 29 old HOLD.out.1 (by rw [HQ.out]; kernel_rfl) (by rw [HOLD.out.2, HQ.out]; rfl) (by rw [HQ.out]; exact rowM_one3 _ (by rfl) (by rfl) (by rfl)) ?_; intro w9 ea eb ec; have HF := Aside0.mk (And.intro ea (And.intro eb ec)); clear ea eb ec))
    refine bodyPost_ret (results_cell_row (fn := Try.f14) (p := 6) (ty := 29) (by rfl) _ _ (p + 1) 29 q (0, 0) _ (by rfl) HF.out.1 hu29.out rfl (by rw [HQ.out]; kernel_rfl)) rfl ?_
    have bel := HF.out.2.2 _ _ J1.out.bel (by have := J1.out.lo; omega)
    exact ⟨q, rfl, fun W' hW => by rw [HQ.out]; obtain ⟨n16, n19, n20⟩ := HG.out.2.2.2 W' (fun k h1 h2 => (hW k (by have := bel.size; omega) h2).trans (bel.block k h1)); exact k29_mk W' (setM z 5 true) HG.out.1 n16 HG.out.2.1 n19 HG.out.2.2.1 n20, bel⟩
  | false =>
    have dq10 := (blk_cell J0.out.m 10).trans (show _ = some (Value.string z.f10) from rfl); have zq10 := blk_frozen J0.out.m 10
    go_upto_region 26 with fail
    have J1 := Aside0.mk (MM.set (mc' := rowM (setM z 5 false) (.slice A16 z.f15.length c16) (.slice A19 z.f18.length c19) (.slice A20 z.f19.length c20)) J0.out 10 (.string (nowS false)) rfl)
    clear J0 dq10 zq10
    obtain ⟨old, ho, hs⟩ := J1.out.r
    have HOLD := Aside0.mk (And.intro ho hs)
    clear ho hs
    obtain ⟨q, hq⟩ : ∃ q, q = rowM (setM z 5 false) (.slice A16 z.f15.length c16) (.slice A19 z.f18.length c19) (.slice A20 z.f19.length c20) := ⟨_, rfl⟩
    rw [← hq] at J1
    have HQ := Aside0.mk hq
    clear hq
    go_wp2_with (first | ((with_reducible refine gate_dst (N := 56) rfl ?_); refine wpList_load_row rfl 29 (.tmp 3) rfl p rfl 29 q (0, 0) _ J1.out.m hu29.out rfl (by rw [HQ.out]; kernel_rfl) ?_) | ((with_reducible refine gate_store (t := 29) (p := 6) rfl ?_); refine Go.Proofs.Ythdjodamdakjbaa.Fill.store_event rfl 29 _ _ rfl (p + 1) q rfl rfl 29 old HOLD.out.1 (by rw [HQ.out]; kernel_rfl) (by rw [HOLD.out.2, HQ.out]; rfl) (by rw [HQ.out]; exact rowM_one3 _ (by rfl) (by rfl) (by rfl)) ?_; intro w9 ea eb ec; have HF := Aside0.mk (And.intro ea (And.intro eb ec)); clear ea eb ec))
    refine bodyPost_ret (results_cell_row (fn := Try.f14) (p := 6) (ty := 29) (by rfl) _ _ (p + 1) 29 q (0, 0) _ (by rfl) HF.out.1 hu29.out rfl (by rw [HQ.out]; kernel_rfl)) rfl ?_
    have bel := HF.out.2.2 _ _ J1.out.bel (by have := J1.out.lo; omega)
    exact ⟨q, rfl, fun W' hW => by rw [HQ.out]; obtain ⟨n16, n19, n20⟩ := HG.out.2.2.2 W' (fun k h1 h2 => (hW k (by have := bel.size; omega) h2).trans (bel.block k h1)); exact k29_mk W' (setM z 5 false) HG.out.1 n16 HG.out.2.1 n19 HG.out.2.2.1 n20, bel⟩
set_option maxHeartbeats 8000000 in
set_option maxRecDepth 100000 in
theorem set_x6 (ok : Nat → Prop) (z : S29) (v : Bool) (mc : Array Value) (w : World) (h : KS ok w z mc) (hok : ∀ k, w.heap.size ≤ k → ok k) : Calls Try.prog 14 #[.agg mc, .int .u8 69, .bool v] w fun e w' => ∃ nc : Array Value, e = .returned (.agg nc) ∧ KS ok w' (setM z 6 v) nc ∧ Below w.heap.size w w' := by
  have hu29 := Aside0.mk Try.underlying29
  have hu24 := Try.underlying24
  obtain ⟨A16, c16, A19, c19, A20, c20, em, l16, l19, l20, hC⟩ := KS_open h
  have HG := Aside0.mk (And.intro l16 (And.intro l19 (And.intro l20 hC)))
  have HEM := Aside0.mk em
  have HOK := Aside0.mk hok
  clear h em l16 l19 l20 hC hok
  go_enter Try.func14, Try.ntmps14
  go_upto_region 1 with fail
  obtain ⟨p, hp⟩ : ∃ p, p = w.heap.size := ⟨_, rfl⟩
  have J0 := mm_start w mc
  rw [← hp] at J0 ⊢
  clear hp
  revert J0
  change MM w p mc ((w.alloc (.cells mc 29)).alloc (.cells zeroM 29)) → Code.wp _ _ _ _ ((w.alloc (.cells mc 29)).alloc (.cells zeroM 29))
  generalize ((w.alloc (.cells mc 29)).alloc (.cells zeroM 29)) = W0
  intro J0
  rw [HEM.out] at J0
  replace J0 := Aside0.mk J0
  clear HEM
  cases v with
  | true =>
    have dq11 := (blk_cell J0.out.m 11).trans (show _ = some (Value.int .i64 z.f11) from rfl); have zq11 := blk_frozen J0.out.m 11
    go_upto_region 26 with fail
    have J1 := Aside0.mk (MM.set (mc' := rowM (setM z 6 true) (.slice A16 z.f15.length c16) (.slice A19 z.f18.length c19) (.slice A20 z.f19.length c20)) J0.out 11 (.int .i64 (oneI true)) rfl)
    clear J0 dq11 zq11
    obtain ⟨old, ho, hs⟩ := J1.out.r
    have HOLD := Aside0.mk (And.intro ho hs)
    clear ho hs
    obtain ⟨q, hq⟩ : ∃ q, q = rowM (setM z 6 true) (.slice A16 z.f15.length c16) (.slice A19 z.f18.length c19) (.slice A20 z.f19.length c20) := ⟨_, rfl⟩
    rw [← hq] at J1
    have HQ := Aside0.mk hq
    clear hq
    go_wp2_with (first | ((with_reducible refine gate_dst (N := 56) rfl ?_); refine wpList_load_row rfl 29 (.tmp 3) rfl p rfl 29 q (0, 0) _ J1.out.m hu29.out rfl (by rw [HQ.out]; kernel_rfl) ?_) | ((with_reducible refine gate_store (t := 29) (p := 6) rfl ?_); refine Go.Proofs.Ythdjodamdakjbaa.Fill.store_event rfl 29 _ _ rfl (p + 1) q rfl rfl 29 old HOLD.out.1 (by rw [HQ.out]; kernel_rfl) (by rw [HOLD.out.2, HQ.out]; rfl) (by rw [HQ.out]; exact rowM_one3 _ (by rfl) (by rfl) (by rfl)) ?_; intro w9 ea eb ec; have HF := Aside0.mk (And.intro ea (And.intro eb ec)); clear ea eb ec))
    refine bodyPost_ret (results_cell_row (fn := Try.f14) (p := 6) (ty := 29) (by rfl) _ _ (p + 1) 29 q (0, 0) _ (by rfl) HF.out.1 hu29.out rfl (by rw [HQ.out]; kernel_rfl)) rfl ?_
    have bel := HF.out.2.2 _ _ J1.out.bel (by have := J1.out.lo; omega)
    exact ⟨q, rfl, fun W' hW => by rw [HQ.out]; obtain ⟨n16, n19, n20⟩ := HG.out.2.2.2 W' (fun k h1 h2 => (hW k (by have := bel.size; omega) h2).trans (bel.block k h1)); exact k29_mk W' (setM z 6 true) HG.out.1 n16 HG.out.2.1 n19 HG.out.2.2.1 n20, bel⟩
  | false =>
    have dq11 := (blk_cell J0.out.m 11).trans (show _ = some (Value.int .i64 z.f11) from rfl); have zq11 := blk_frozen J0.out.m 11
    go_upto_region 26 with fail
    have J1 := Aside0.mk (MM.set (mc' := rowM (setM z 6 false) (.slice A16 z.f15.length c16) (.slice A19 z.f18.length c19) (.slice A20 z.f19.length c20)) J0.out 11 (.int .i64 (oneI false)) rfl)
    clear J0 dq11 zq11
    obtain ⟨old, ho, hs⟩ := J1.out.r
    have HOLD := Aside0.mk (And.intro ho hs)
    clear ho hs
    obtain ⟨q, hq⟩ : ∃ q, q = rowM (setM z 6 false) (.slice A16 z.f15.length c16) (.slice A19 z.f18.length c19) (.slice A20 z.f19.length c20) := ⟨_, rfl⟩
    rw [← hq] at J1
    have HQ := Aside0.mk hq
    clear hq
    go_wp2_with (first | ((with_reducible refine gate_dst (N := 56) rfl ?_); refine wpList_load_row rfl 29 (.tmp 3) rfl p rfl 29 q (0, 0) _ J1.out.m hu29.out rfl (by rw [HQ.out]; kernel_rfl) ?_) | ((with_reducible refine gate_store (t := 29) (p := 6) rfl ?_); refine Go.Proofs.Ythdjodamdakjbaa.Fill.store_event rfl 29 _ _ rfl (p + 1) q rfl rfl 29 old HOLD.out.1 (by rw [HQ.out]; kernel_rfl) (by rw [HOLD.out.2, HQ.out]; rfl) (by rw [HQ.out]; exact rowM_one3 _ (by rfl) (by rfl) (by rfl)) ?_; intro w9 ea eb ec; have HF := Aside0.mk (And.intro ea (And.intro eb ec)); clear ea eb ec))
    refine bodyPost_ret (results_cell_row (fn := Try.f14) (p := 6) (ty := 29) (by rfl) _ _ (p + 1) 29 q (0, 0) _ (by rfl) HF.out.1 hu29.out rfl (by rw [HQ.out]; kernel_rfl)) rfl ?_
    have bel := HF.out.2.2 _ _ J1.out.bel (by have := J1.out.lo; omega)
    exact ⟨q, rfl, fun W' hW => by rw [HQ.out]; obtain ⟨n16, n19, n20⟩ := HG.out.2.2.2 W' (fun k h1 h2 => (hW k (by have := bel.size; omega) h2).trans (bel.block k h1)); exact k29_mk W' (setM z 6 false) HG.out.1 n16 HG.out.2.1 n19 HG.out.2.2.1 n20, bel⟩
set_option maxHeartbeats 8000000 in
set_option maxRecDepth 100000 in
theorem set_x7 (ok : Nat → Prop) (z : S29) (v : Bool) (mc : Array Value) (w : World) (h : KS ok w z mc) (hok : ∀ k, w.heap.size ≤ k → ok k) : Calls Try.prog 14 #[.agg mc, .int .u8 68, .bool v] w fun e w' => ∃ nc : Array Value, e = .returned (.agg nc) ∧ KS ok w' (setM z 7 v) nc ∧ Below w.heap.size w w' := by
  have hu29 := Aside0.mk Try.underlying29
  have hu24 := Try.underlying24
  obtain ⟨A16, c16, A19, c19, A20, c20, em, l16, l19, l20, hC⟩ := KS_open h
  have HG := Aside0.mk (And.intro l16 (And.intro l19 (And.intro l20 hC)))
  have HEM := Aside0.mk em
  have HOK := Aside0.mk hok
  clear h em l16 l19 l20 hC hok
  go_enter Try.func14, Try.ntmps14
  go_upto_region 1 with fail
  obtain ⟨p, hp⟩ : ∃ p, p = w.heap.size := ⟨_, rfl⟩
  have J0 := mm_start w mc
  rw [← hp] at J0 ⊢
  clear hp
  revert J0
  change MM w p mc ((w.alloc (.cells mc 29)).alloc (.cells zeroM 29)) → Code.wp _ _ _ _ ((w.alloc (.cells mc 29)).alloc (.cells zeroM 29))
  generalize ((w.alloc (.cells mc 29)).alloc (.cells zeroM 29)) = W0
  intro J0
  rw [HEM.out] at J0
  replace J0 := Aside0.mk J0
  clear HEM
  cases v with
  | true =>
    have dq12 := (blk_cell J0.out.m 12).trans (show _ = some (Value.string z.f12) from rfl); have zq12 := blk_frozen J0.out.m 12
    go_upto_region 26 with fail
    have J1 := Aside0.mk (MM.set (mc' := rowM (setM z 7 true) (.slice A16 z.f15.length c16) (.slice A19 z.f18.length c19) (.slice A20 z.f19.length c20)) J0.out 12 (.string (nowS true)) rfl)
    clear J0 dq12 zq12
    obtain ⟨old, ho, hs⟩ := J1.out.r
    have HOLD := Aside0.mk (And.intro ho hs)
    clear ho hs
    obtain ⟨q, hq⟩ : ∃ q, q = rowM (setM z 7 true) (.slice A16 z.f15.length c16) (.slice A19 z.f18.length c19) (.slice A20 z.f19.length c20) := ⟨_, rfl⟩
    rw [← hq] at J1
    have HQ := Aside0.mk hq
    clear hq
    go_wp2_with (first | ((with_reducible refine gate_dst (N := 56) rfl ?_); refine wpList_load_row rfl 29 (.tmp 3) rfl p rfl 29 q (0, 0) _ J1.out.m hu29.out rfl (by rw [HQ.out]; kernel_rfl) ?_) | ((with_reducible refine gate_store (t := 29) (p := 6) rfl ?_); refine Go.Proofs.Ythdjodamdakjbaa.Fill.store_event rfl 29 _ _ rfl (p + 1) q rfl rfl 29 old HOLD.out.1 (by rw [HQ.out]; kernel_rfl) (by rw [HOLD.out.2, HQ.out]; rfl) (by rw [HQ.out]; exact rowM_one3 _ (by rfl) (by rfl) (by rfl)) ?_; intro w9 ea eb ec; have HF := Aside0.mk (And.intro ea (And.intro eb ec)); clear ea eb ec))
    refine bodyPost_ret (results_cell_row (fn := Try.f14) (p := 6) (ty := 29) (by rfl) _ _ (p + 1) 29 q (0, 0) _ (by rfl) HF.out.1 hu29.out rfl (by rw [HQ.out]; kernel_rfl)) rfl ?_
    have bel := HF.out.2.2 _ _ J1.out.bel (by have := J1.out.lo; omega)
    exact ⟨q, rfl, fun W' hW => by rw [HQ.out]; obtain ⟨n16, n19, n20⟩ := HG.out.2.2.2 W' (fun k h1 h2 => (hW k (by have := bel.size; omega) h2).trans (bel.block k h1)); exact k29_mk W' (setM z 7 true) HG.out.1 n16 HG.out.2.1 n19 HG.out.2.2.1 n20, bel⟩
  | false =>
    have dq12 := (blk_cell J0.out.m 12).trans (show _ = some (Value.string z.f12) from rfl); have zq12 := blk_frozen J0.out.m 12
    go_upto_region 26 with fail
    have J1 := Aside0.mk (MM.set (mc' := rowM (setM z 7 false) (.slice A16 z.f15.length c16) (.slice A19 z.f18.length c19) (.slice A20 z.f19.length c20)) J0.out 12 (.string (nowS false)) rfl)
    clear J0 dq12 zq12
    obtain ⟨old, ho, hs⟩ := J1.out.r
    have HOLD := Aside0.mk (And.intro ho hs)
    clear ho hs
    obtain ⟨q, hq⟩ : ∃ q, q = rowM (setM z 7 false) (.slice A16 z.f15.length c16) (.slice A19 z.f18.length c19) (.slice A20 z.f19.length c20) := ⟨_, rfl⟩
    rw [← hq] at J1
    have HQ := Aside0.mk hq
    clear hq
    go_wp2_with (first | ((with_reducible refine gate_dst (N := 56) rfl ?_); refine wpList_load_row rfl 29 (.tmp 3) rfl p rfl 29 q (0, 0) _ J1.out.m hu29.out rfl (by rw [HQ.out]; kernel_rfl) ?_) | ((with_reducible refine gate_store (t := 29) (p := 6) rfl ?_); refine Go.Proofs.Ythdjodamdakjbaa.Fill.store_event rfl 29 _ _ rfl (p + 1) q rfl rfl 29 old HOLD.out.1 (by rw [HQ.out]; kernel_rfl) (by rw [HOLD.out.2, HQ.out]; rfl) (by rw [HQ.out]; exact rowM_one3 _ (by rfl) (by rfl) (by rfl)) ?_; intro w9 ea eb ec; have HF := Aside0.mk (And.intro ea (And.intro eb ec)); clear ea eb ec))
    refine bodyPost_ret (results_cell_row (fn := Try.f14) (p := 6) (ty := 29) (by rfl) _ _ (p + 1) 29 q (0, 0) _ (by rfl) HF.out.1 hu29.out rfl (by rw [HQ.out]; kernel_rfl)) rfl ?_
    have bel := HF.out.2.2 _ _ J1.out.bel (by have := J1.out.lo; omega)
    exact ⟨q, rfl, fun W' hW => by rw [HQ.out]; obtain ⟨n16, n19, n20⟩ := HG.out.2.2.2 W' (fun k h1 h2 => (hW k (by have := bel.size; omega) h2).trans (bel.block k h1)); exact k29_mk W' (setM z 7 false) HG.out.1 n16 HG.out.2.1 n19 HG.out.2.2.1 n20, bel⟩
set_option maxHeartbeats 8000000 in
set_option maxRecDepth 100000 in
theorem set_x8 (ok : Nat → Prop) (z : S29) (v : Bool) (mc : Array Value) (w : World) (h : KS ok w z mc) (hok : ∀ k, w.heap.size ≤ k → ok k) : Calls Try.prog 14 #[.agg mc, .int .u8 78, .bool v] w fun e w' => ∃ nc : Array Value, e = .returned (.agg nc) ∧ KS ok w' (setM z 8 v) nc ∧ Below w.heap.size w w' := by
  have hu29 := Aside0.mk Try.underlying29
  have hu24 := Try.underlying24
  obtain ⟨A16, c16, A19, c19, A20, c20, em, l16, l19, l20, hC⟩ := KS_open h
  have HG := Aside0.mk (And.intro l16 (And.intro l19 (And.intro l20 hC)))
  have HEM := Aside0.mk em
  have HOK := Aside0.mk hok
  clear h em l16 l19 l20 hC hok
  go_enter Try.func14, Try.ntmps14
  go_upto_region 1 with fail
  obtain ⟨p, hp⟩ : ∃ p, p = w.heap.size := ⟨_, rfl⟩
  have J0 := mm_start w mc
  rw [← hp] at J0 ⊢
  clear hp
  revert J0
  change MM w p mc ((w.alloc (.cells mc 29)).alloc (.cells zeroM 29)) → Code.wp _ _ _ _ ((w.alloc (.cells mc 29)).alloc (.cells zeroM 29))
  generalize ((w.alloc (.cells mc 29)).alloc (.cells zeroM 29)) = W0
  intro J0
  rw [HEM.out] at J0
  replace J0 := Aside0.mk J0
  clear HEM
  cases v with
  | true =>
    have dq13 := (blk_cell J0.out.m 13).trans (show _ = some (Value.string z.f13) from rfl); have zq13 := blk_frozen J0.out.m 13
    go_upto_region 26 with fail
    have J1 := Aside0.mk (MM.set (mc' := rowM (setM z 8 true) (.slice A16 z.f15.length c16) (.slice A19 z.f18.length c19) (.slice A20 z.f19.length c20)) J0.out 13 (.string (nowS true)) rfl)
    clear J0 dq13 zq13
    obtain ⟨old, ho, hs⟩ := J1.out.r
    have HOLD := Aside0.mk (And.intro ho hs)
    clear ho hs
    obtain ⟨q, hq⟩ : ∃ q, q = rowM (setM z 8 true) (.slice A16 z.f15.length c16) (.slice A19 z.f18.length c19) (.slice A20 z.f19.length c20) := ⟨_, rfl⟩
    rw [← hq] at J1
    have HQ := Aside0.mk hq
    clear hq
    go_wp2_with (first | ((with_reducible refine gate_dst (N := 56) rfl ?_); refine wpList_load_row rfl 29 (.tmp 3) rfl p rfl 29 q (0, 0) _ J1.out.m hu29.out rfl (by rw [HQ.out]; kernel_rfl) ?_) | ((with_reducible refine gate_store (t := 29) (p := 6) rfl ?_); refine Go.Proofs.Ythdjodamdakjbaa.Fill.store_event rfl 29 _ _ rfl (p + 1) q rfl rfl 29 old HOLD.out.1 (by rw [HQ.out]; kernel_rfl) (by rw [HOLD.out.2, HQ.out]; rfl) (by rw [HQ.out]; exact rowM_one3 _ (by rfl) (by rfl) (by rfl)) ?_; intro w9 ea eb ec; have HF := Aside0.mk (And.intro ea (And.intro eb ec)); clear ea eb ec))
    refine bodyPost_ret (results_cell_row (fn := Try.f14) (p := 6) (ty := 29) (by rfl) _ _ (p + 1) 29 q (0, 0) _ (by rfl) HF.out.1 hu29.out rfl (by rw [HQ.out]; kernel_rfl)) rfl ?_
    have bel := HF.out.2.2 _ _ J1.out.bel (by have := J1.out.lo; omega)
    exact ⟨q, rfl, fun W' hW => by rw [HQ.out]; obtain ⟨n16, n19, n20⟩ := HG.out.2.2.2 W' (fun k h1 h2 => (hW k (by have := bel.size; omega) h2).trans (bel.block k h1)); exact k29_mk W' (setM z 8 true) HG.out.1 n16 HG.out.2.1 n19 HG.out.2.2.1 n20, bel⟩
  | false =>
    have dq13 := (blk_cell J0.out.m 13).trans (show _ = some (Value.string z.f13) from rfl); have zq13 := blk_frozen J0.out.m 13
    go_upto_region 26 with fail
    have J1 := Aside0.mk (MM.set (mc' := rowM (setM z 8 false) (.slice A16 z.f15.length c16) (.slice A19 z.f18.length c19) (.slice A20 z.f19.length c20)) J0.out 13 (.string (nowS false)) rfl)
    clear J0 dq13 zq13
    obtain ⟨old, ho, hs⟩ := J1.out.r
    have HOLD := Aside0.mk (And.intro ho hs)
    clear ho hs
    obtain ⟨q, hq⟩ : ∃ q, q = rowM (setM z 8 false) (.slice A16 z.f15.length c16) (.slice A19 z.f18.length c19) (.slice A20 z.f19.length c20) := ⟨_, rfl⟩
    rw [← hq] at J1
    have HQ := Aside0.mk hq
    clear hq
    go_wp2_with (first | ((with_reducible refine gate_dst (N := 56) rfl ?_); refine wpList_load_row rfl 29 (.tmp 3) rfl p rfl 29 q (0, 0) _ J1.out.m hu29.out rfl (by rw [HQ.out]; kernel_rfl) ?_) | ((with_reducible refine gate_store (t := 29) (p := 6) rfl ?_); refine Go.Proofs.Ythdjodamdakjbaa.Fill.store_event rfl 29 _ _ rfl (p + 1) q rfl rfl 29 old HOLD.out.1 (by rw [HQ.out]; kernel_rfl) (by rw [HOLD.out.2, HQ.out]; rfl) (by rw [HQ.out]; exact rowM_one3 _ (by rfl) (by rfl) (by rfl)) ?_; intro w9 ea eb ec; have HF := Aside0.mk (And.intro ea (And.intro eb ec)); clear ea eb ec))
    refine bodyPost_ret (results_cell_row (fn := Try.f14) (p := 6) (ty := 29) (by rfl) _ _ (p + 1) 29 q (0, 0) _ (by rfl) HF.out.1 hu29.out rfl (by rw [HQ.out]; kernel_rfl)) rfl ?_
    have bel := HF.out.2.2 _ _ J1.out.bel (by have := J1.out.lo; omega)
    exact ⟨q, rfl, fun W' hW => by rw [HQ.out]; obtain ⟨n16, n19, n20⟩ := HG.out.2.2.2 W' (fun k h1 h2 => (hW k (by have := bel.size; omega) h2).trans (bel.block k h1)); exact k29_mk W' (setM z 8 false) HG.out.1 n16 HG.out.2.1 n19 HG.out.2.2.1 n20, bel⟩
set_option maxHeartbeats 8000000 in
set_option maxRecDepth 100000 in
theorem set_x9 (ok : Nat → Prop) (z : S29) (v : Bool) (mc : Array Value) (w : World) (h : KS ok w z mc) (hok : ∀ k, w.heap.size ≤ k → ok k) : Calls Try.prog 14 #[.agg mc, .int .u8 79, .bool v] w fun e w' => ∃ nc : Array Value, e = .returned (.agg nc) ∧ KS ok w' (setM z 9 v) nc ∧ Below w.heap.size w w' := by
  have hu29 := Aside0.mk Try.underlying29
  have hu24 := Try.underlying24
  obtain ⟨A16, c16, A19, c19, A20, c20, em, l16, l19, l20, hC⟩ := KS_open h
  have HG := Aside0.mk (And.intro l16 (And.intro l19 (And.intro l20 hC)))
  have HEM := Aside0.mk em
  have HOK := Aside0.mk hok
  clear h em l16 l19 l20 hC hok
  go_enter Try.func14, Try.ntmps14
  go_upto_region 1 with fail
  obtain ⟨p, hp⟩ : ∃ p, p = w.heap.size := ⟨_, rfl⟩
  have J0 := mm_start w mc
  rw [← hp] at J0 ⊢
  clear hp
  revert J0
  change MM w p mc ((w.alloc (.cells mc 29)).alloc (.cells zeroM 29)) → Code.wp _ _ _ _ ((w.alloc (.cells mc 29)).alloc (.cells zeroM 29))
  generalize ((w.alloc (.cells mc 29)).alloc (.cells zeroM 29)) = W0
  intro J0
  rw [HEM.out] at J0
  replace J0 := Aside0.mk J0
  clear HEM
  cases v with
  | true =>
    have dq14 := (blk_cell J0.out.m 14).trans (show _ = some (Value.int .i64 z.f14.f0) from rfl); have zq14 := blk_frozen J0.out.m 14
    have dq15 := (blk_cell J0.out.m 15).trans (show _ = some (Value.string z.f14.f1) from rfl); have zq15 := blk_frozen J0.out.m 15
    go_upto_region 26 with fail
    have J1 := Aside0.mk (MM.set (mc' := rowM (setM z 9 true) (.slice A16 z.f15.length c16) (.slice A19 z.f18.length c19) (.slice A20 z.f19.length c20)) (MM.set (mc' := rowM { z with f14 := ⟨0, z.f14.f1⟩ } (.slice A16 z.f15.length c16) (.slice A19 z.f18.length c19) (.slice A20 z.f19.length c20)) J0.out 14 (.int .i64 0) rfl) 15 (.string (nowS true)) rfl)
    clear J0 dq14 zq14 dq15 zq15
    obtain ⟨old, ho, hs⟩ := J1.out.r
    have HOLD := Aside0.mk (And.intro ho hs)
    clear ho hs
    obtain ⟨q, hq⟩ : ∃ q, q = rowM (setM z 9 true) (.slice A16 z.f15.length c16) (.slice A19 z.f18.length c19) (.slice A20 z.f19.length c20) := ⟨_, rfl⟩
    rw [← hq] at J1
    have HQ := Aside0.mk hq
    clear hq
    go_wp2_with (first | ((with_reducible refine gate_dst (N := 56) rfl ?_); refine wpList_load_row rfl 29 (.tmp 3) rfl p rfl 29 q (0, 0) _ J1.out.m hu29.out rfl (by rw [HQ.out]; kernel_rfl) ?_) | ((with_reducible refine gate_store (t := 29) (p := 6) rfl ?_); refine Go.Proofs.Ythdjodamdakjbaa.Fill.store_event rfl 29 _ _ rfl (p + 1) q rfl rfl 29 old HOLD.out.1 (by rw [HQ.out]; kernel_rfl) (by rw [HOLD.out.2, HQ.out]; rfl) (by rw [HQ.out]; exact rowM_one3 _ (by rfl) (by rfl) (by rfl)) ?_; intro w9 ea eb ec; have HF := Aside0.mk (And.intro ea (And.intro eb ec)); clear ea eb ec))
    refine bodyPost_ret (results_cell_row (fn := Try.f14) (p := 6) (ty := 29) (by rfl) _ _ (p + 1) 29 q (0, 0) _ (by rfl) HF.out.1 hu29.out rfl (by rw [HQ.out]; kernel_rfl)) rfl ?_
    have bel := HF.out.2.2 _ _ J1.out.bel (by have := J1.out.lo; omega)
    exact ⟨q, rfl, fun W' hW => by rw [HQ.out]; obtain ⟨n16, n19, n20⟩ := HG.out.2.2.2 W' (fun k h1 h2 => (hW k (by have := bel.size; omega) h2).trans (bel.block k h1)); exact k29_mk W' (setM z 9 true) HG.out.1 n16 HG.out.2.1 n19 HG.out.2.2.1 n20, bel⟩
  | false =>
    have dq14 := (blk_cell J0.out.m 14).trans (show _ = some (Value.int .i64 z.f14.f0) from rfl); have zq14 := blk_frozen J0.out.m 14
    have dq15 := (blk_cell J0.out.m 15).trans (show _ = some (Value.string z.f14.f1) from rfl); have zq15 := blk_frozen J0.out.m 15
    go_upto_region 26 with fail
    have J1 := Aside0.mk (MM.set (mc' := rowM (setM z 9 false) (.slice A16 z.f15.length c16) (.slice A19 z.f18.length c19) (.slice A20 z.f19.length c20)) (MM.set (mc' := rowM { z with f14 := ⟨0, z.f14.f1⟩ } (.slice A16 z.f15.length c16) (.slice A19 z.f18.length c19) (.slice A20 z.f19.length c20)) J0.out 14 (.int .i64 0) rfl) 15 (.string (nowS false)) rfl)
    clear J0 dq14 zq14 dq15 zq15
    obtain ⟨old, ho, hs⟩ := J1.out.r
    have HOLD := Aside0.mk (And.intro ho hs)
    clear ho hs
    obtain ⟨q, hq⟩ : ∃ q, q = rowM (setM z 9 false) (.slice A16 z.f15.length c16) (.slice A19 z.f18.length c19) (.slice A20 z.f19.length c20) := ⟨_, rfl⟩
    rw [← hq] at J1
    have HQ := Aside0.mk hq
    clear hq
    go_wp2_with (first | ((with_reducible refine gate_dst (N := 56) rfl ?_); refine wpList_load_row rfl 29 (.tmp 3) rfl p rfl 29 q (0, 0) _ J1.out.m hu29.out rfl (by rw [HQ.out]; kernel_rfl) ?_) | ((with_reducible refine gate_store (t := 29) (p := 6) rfl ?_); refine Go.Proofs.Ythdjodamdakjbaa.Fill.store_event rfl 29 _ _ rfl (p + 1) q rfl rfl 29 old HOLD.out.1 (by rw [HQ.out]; kernel_rfl) (by rw [HOLD.out.2, HQ.out]; rfl) (by rw [HQ.out]; exact rowM_one3 _ (by rfl) (by rfl) (by rfl)) ?_; intro w9 ea eb ec; have HF := Aside0.mk (And.intro ea (And.intro eb ec)); clear ea eb ec))
    refine bodyPost_ret (results_cell_row (fn := Try.f14) (p := 6) (ty := 29) (by rfl) _ _ (p + 1) 29 q (0, 0) _ (by rfl) HF.out.1 hu29.out rfl (by rw [HQ.out]; kernel_rfl)) rfl ?_
    have bel := HF.out.2.2 _ _ J1.out.bel (by have := J1.out.lo; omega)
    exact ⟨q, rfl, fun W' hW => by rw [HQ.out]; obtain ⟨n16, n19, n20⟩ := HG.out.2.2.2 W' (fun k h1 h2 => (hW k (by have := bel.size; omega) h2).trans (bel.block k h1)); exact k29_mk W' (setM z 9 false) HG.out.1 n16 HG.out.2.1 n19 HG.out.2.2.1 n20, bel⟩
set_option maxHeartbeats 8000000 in
set_option maxRecDepth 100000 in
theorem set_x10 (ok : Nat → Prop) (z : S29) (v : Bool) (mc : Array Value) (w : World) (h : KS ok w z mc) (hok : ∀ k, w.heap.size ≤ k → ok k) : Calls Try.prog 14 #[.agg mc, .int .u8 71, .bool v] w fun e w' => ∃ nc : Array Value, e = .returned (.agg nc) ∧ KS ok w' (setM z 10 v) nc ∧ Below w.heap.size w w' := by
  have hu29 := Aside0.mk Try.underlying29
  have hu24 := Try.underlying24
  obtain ⟨A16, c16, A19, c19, A20, c20, em, l16, l19, l20, hC⟩ := KS_open h
  have HG := Aside0.mk (And.intro l16 (And.intro l19 (And.intro l20 hC)))
  have HEM := Aside0.mk em
  have HOK := Aside0.mk hok
  clear h em l16 l19 l20 hC hok
  go_enter Try.func14, Try.ntmps14
  go_upto_region 1 with fail
  obtain ⟨p, hp⟩ : ∃ p, p = w.heap.size := ⟨_, rfl⟩
  have J0 := mm_start w mc
  rw [← hp] at J0 ⊢
  clear hp
  revert J0
  change MM w p mc ((w.alloc (.cells mc 29)).alloc (.cells zeroM 29)) → Code.wp _ _ _ _ ((w.alloc (.cells mc 29)).alloc (.cells zeroM 29))
  generalize ((w.alloc (.cells mc 29)).alloc (.cells zeroM 29)) = W0
  intro J0
  rw [HEM.out] at J0
  replace J0 := Aside0.mk J0
  clear HEM
  cases v with
  | true =>
    have HLT : Aside0 (p + 1 < W0.heap.size) := ⟨by obtain ⟨old, ho, _⟩ := J0.out.r; exact (Array.getElem?_eq_some_iff.1 ho).1⟩
    go_upto_region 26 with ((with_reducible refine gate_dst (N := 12) rfl ?_); refine Kd.R_make k51 (w0 := W0) W0.heap.size 51 rfl (N := 12) rfl 25 _ _ rfl 1 rfl rfl Try.underlying25 (.agg #[(.int .i64 0), (.slice none 0 0)]) 32 info51 rfl (by decide) (by decide) z51 (ok := fun k => W0.heap.size ≤ k) (okp := fun _ => False) (k51_mkM _ _ _ z51 (Kd.R_nil _ _ _ _ _)) (fun _ hk => hk.elim) (Nat.le_refl _) (by decide) (by decide) (Below.refl _ _) (Nat.le_refl _) ?_; intro v1 w1 hr hb hg hnew; have JA := Aside0.mk (J0.out.below hb); have HR1 := Aside0.mk hr; have HB1 := Aside0.mk hb; clear hr hb hg hnew; obtain ⟨A, c, rfl, hc1, hC1⟩ := R_C HR1.out; have HC1 := Aside0.mk hc1; clear hc1 hC1; have dq := (blk_cell JA.out.m 16).trans (show _ = some (Value.slice A16 z.f15.length c16) from rfl); have zq := blk_frozen JA.out.m 16)
    have J1 := Aside0.mk (MM.set (mc' := rowM (setM z 10 true) (.slice A (setM z 10 true).f15.length c) (.slice A19 z.f18.length c19) (.slice A20 z.f19.length c20)) JA.out 16 (.slice A (setM z 10 true).f15.length c) rfl)
    have HR2 := Aside0.mk (Kd.R_far HR1.out (p := ⟨p, 16, none⟩) (fun k hk => by show k ≠ p; have := HLT.out; omega) (.slice A (setM z 10 true).f15.length c))
    clear JA HR1 dq zq
    obtain ⟨old, ho, hs⟩ := J1.out.r
    have HOLD := Aside0.mk (And.intro ho hs)
    clear ho hs
    obtain ⟨q, hq⟩ : ∃ q, q = rowM (setM z 10 true) (.slice A (setM z 10 true).f15.length c) (.slice A19 z.f18.length c19) (.slice A20 z.f19.length c20) := ⟨_, rfl⟩
    rw [← hq] at J1
    have HQ := Aside0.mk hq
    clear hq
    go_wp2_with (first | ((with_reducible refine gate_dst (N := 56) rfl ?_); refine wpList_load_row rfl 29 (.tmp 3) rfl p rfl 29 q (0, 0) _ J1.out.m hu29.out rfl (by rw [HQ.out]; kernel_rfl) ?_) | ((with_reducible refine gate_store (t := 29) (p := 6) rfl ?_); refine Go.Proofs.Ythdjodamdakjbaa.Fill.store_event rfl 29 _ _ rfl (p + 1) q rfl rfl 29 old HOLD.out.1 (by rw [HQ.out]; kernel_rfl) (by rw [HOLD.out.2, HQ.out]; rfl) (by rw [HQ.out]; exact rowM_one3 _ (by rfl) (by rfl) (by rfl)) ?_; intro w9 ea eb ec; have HF := Aside0.mk (And.intro ea (And.intro eb ec)); clear ea eb ec))
    refine bodyPost_ret (results_cell_row (fn := Try.f14) (p := 6) (ty := 29) (by rfl) _ _ (p + 1) 29 q (0, 0) _ (by rfl) HF.out.1 hu29.out rfl (by rw [HQ.out]; kernel_rfl)) rfl ?_
    have bel := HF.out.2.2 _ _ J1.out.bel (by have := J1.out.lo; omega)
    have hF := Kd.R_F (Kd.R_keep HR2.out HF.out.2.1 (fun k hk => by have := HLT.out; omega))
    exact ⟨q, rfl, fun W' hW => by rw [HQ.out]; obtain ⟨n16, n19, n20⟩ := HG.out.2.2.2 W' (fun k h1 h2 => (hW k (by have := bel.size; omega) h2).trans (bel.block k h1)); exact k29_mk W' (setM z 10 true) HC1.out (hF W' (fun k h1 h2 => hW k (by omega) (HOK.out k (by have := HLT.out; have := J1.out.lo; omega)))) HG.out.2.1 n19 HG.out.2.2.1 n20, bel⟩
  | false =>
    have HLT : Aside0 (p + 1 < W0.heap.size) := ⟨by obtain ⟨old, ho, _⟩ := J0.out.r; exact (Array.getElem?_eq_some_iff.1 ho).1⟩
    go_upto_region 26 with ((with_reducible refine gate_dst (N := 12) rfl ?_); refine Kd.R_make k51 (w0 := W0) W0.heap.size 51 rfl (N := 12) rfl 25 _ _ rfl 0 rfl rfl Try.underlying25 (.agg #[(.int .i64 0), (.slice none 0 0)]) 32 info51 rfl (by decide) (by decide) z51 (ok := fun k => W0.heap.size ≤ k) (okp := fun _ => False) (k51_mkM _ _ _ z51 (Kd.R_nil _ _ _ _ _)) (fun _ hk => hk.elim) (Nat.le_refl _) (by decide) (by decide) (Below.refl _ _) (Nat.le_refl _) ?_; intro v1 w1 hr hb hg hnew; have JA := Aside0.mk (J0.out.below hb); have HR1 := Aside0.mk hr; have HB1 := Aside0.mk hb; clear hr hb hg hnew; obtain ⟨A, c, rfl, hc1, hC1⟩ := R_C HR1.out; have HC1 := Aside0.mk hc1; clear hc1 hC1; have dq := (blk_cell JA.out.m 16).trans (show _ = some (Value.slice A16 z.f15.length c16) from rfl); have zq := blk_frozen JA.out.m 16)
    have J1 := Aside0.mk (MM.set (mc' := rowM (setM z 10 false) (.slice A (setM z 10 false).f15.length c) (.slice A19 z.f18.length c19) (.slice A20 z.f19.length c20)) JA.out 16 (.slice A (setM z 10 false).f15.length c) rfl)
    have HR2 := Aside0.mk (Kd.R_far HR1.out (p := ⟨p, 16, none⟩) (fun k hk => by show k ≠ p; have := HLT.out; omega) (.slice A (setM z 10 false).f15.length c))
    clear JA HR1 dq zq
    obtain ⟨old, ho, hs⟩ := J1.out.r
    have HOLD := Aside0.mk (And.intro ho hs)
    clear ho hs
    obtain ⟨q, hq⟩ : ∃ q, q = rowM (setM z 10 false) (.slice A (setM z 10 false).f15.length c) (.slice A19 z.f18.length c19) (.slice A20 z.f19.length c20) := ⟨_, rfl⟩
    rw [← hq] at J1
    have HQ := Aside0.mk hq
    clear hq
    go_wp2_with (first | ((with_reducible refine gate_dst (N := 56) rfl ?_); refine wpList_load_row rfl 29 (.tmp 3) rfl p rfl 29 q (0, 0) _ J1.out.m hu29.out rfl (by rw [HQ.out]; kernel_rfl) ?_) | ((with_reducible refine gate_store (t := 29) (p := 6) rfl ?_); refine Go.Proofs.Ythdjodamdakjbaa.Fill.store_event rfl 29 _ _ rfl (p + 1) q rfl rfl 29 old HOLD.out.1 (by rw [HQ.out]; kernel_rfl) (by rw [HOLD.out.2, HQ.out]; rfl) (by rw [HQ.out]; exact rowM_one3 _ (by rfl) (by rfl) (by rfl)) ?_; intro w9 ea eb ec; have HF := Aside0.mk (And.intro ea (And.intro eb ec)); clear ea eb ec))
    refine bodyPost_ret (results_cell_row (fn := Try.f14) (p := 6) (ty := 29) (by rfl) _ _ (p + 1) 29 q (0, 0) _ (by rfl) HF.out.1 hu29.out rfl (by rw [HQ.out]; kernel_rfl)) rfl ?_
    have bel := HF.out.2.2 _ _ J1.out.bel (by have := J1.out.lo; omega)
    have hF := Kd.R_F (Kd.R_keep HR2.out HF.out.2.1 (fun k hk => by have := HLT.out; omega))
    exact ⟨q, rfl, fun W' hW => by rw [HQ.out]; obtain ⟨n16, n19, n20⟩ := HG.out.2.2.2 W' (fun k h1 h2 => (hW k (by have := bel.size; omega) h2).trans (bel.block k h1)); exact k29_mk W' (setM z 10 false) HC1.out (hF W' (fun k h1 h2 => hW k (by omega) (HOK.out k (by have := HLT.out; have := J1.out.lo; omega)))) HG.out.2.1 n19 HG.out.2.2.1 n20, bel⟩
theorem set_x (ok : Nat → Prop) (z : S29) (j : Nat) (hj : j < 11) (v : Bool) (mc : Array Value) (w : World) (h : KS ok w z mc) (hok : ∀ k, w.heap.size ≤ k → ok k) : Calls Try.prog 14 #[.agg mc, .int .u8 (letterN j), .bool v] w fun e w' => ∃ nc : Array Value, e = .returned (.agg nc) ∧ KS ok w' (setM z j v) nc ∧ Below w.heap.size w w' := by
  obtain ⟨l0, l1, l2, l3, l4, l5, l6, l7, l8, l9, l10⟩ := letters
  match j, hj with
  | 0, _ => rw [l0]; exact set_x0 ok z v mc w h hok
  | 1, _ => rw [l1]; exact set_x1 ok z v mc w h hok
  | 2, _ => rw [l2]; exact set_x2 ok z v mc w h hok
  | 3, _ => rw [l3]; exact set_x3 ok z v mc w h hok
  | 4, _ => rw [l4]; exact set_x4 ok z v mc w h hok
  | 5, _ => rw [l5]; exact set_x5 ok z v mc w h hok
  | 6, _ => rw [l6]; exact set_x6 ok z v mc w h hok
  | 7, _ => rw [l7]; exact set_x7 ok z v mc w h hok
  | 8, _ => rw [l8]; exact set_x8 ok z v mc w h hok
  | 9, _ => rw [l9]; exact set_x9 ok z v mc w h hok
  | 10, _ => rw [l10]; exact set_x10 ok z v mc w h hok
end Go.Proofs.Ythdjodamdakjbaa.MK
