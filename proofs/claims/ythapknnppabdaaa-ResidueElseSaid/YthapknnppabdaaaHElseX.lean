/- ResidueElse walked: joined with a message that has neither, a merchant and a terminal do not come in. -/
import Derived.Test.YthapknnppabdaaaHElseW
import Derived.Test.YthapknnppabdaaaHRow
import Derived.Deep.RegionHeld3
import Derived.Deep.CutBlock
import Derived.Deep.CutRange
namespace Go.Proofs.Ythapknnppabdaaa.MR
open Go.RowKit Go.Proofs.YthapknnppabdaaaW.PrintWords Go.Proofs.YthapknnppabdaaaW.PrintLast Go.Proofs.YthapknnppabdaaaW.PrintMore
set_option linter.unusedVariables false
set_option linter.unusedSimpArgs false

/-- The message with neither. -/
def bare (x : S29) : S29 := { x with f8 := ⟨#[]⟩, f9 := ⟨#[]⟩ }
theorem bare_cells {w : World} {x : S29} {mc : Array Value} (h : k29.K w x mc.toList) : mc[8]? = some (.string x.f8) ∧ mc[9]? = some (.string x.f9) ∧ k29.K w (bare x) ((mc.setIfInBounds 8 (.string ⟨#[]⟩)).setIfInBounds 9 (.string ⟨#[]⟩)).toList := by
  obtain ⟨A16, c16, A19, c19, A20, c20, e, l16, g16, l19, g19, l20, g20⟩ := k29_open h
  have em : mc = _ := Array.toList_inj.1 e
  rw [em]
  exact ⟨rfl, rfl, k29_mk w (bare x) l16 g16 l19 g19 l20 g20⟩
def V5 (n : Nat) : Array Bool := ((List.range 64).map n.testBit).toArray
def T5 : Bool × List (List Nat × List Nat) := (true, [([], []), ([0, 0], [0]), ([1], [1]), ([2, 1], [1, 2]), ([3, 1], [1, 3]), ([1, 4], [1, 4]), ([5, 1], [5]), ([6], [6]), ([7, 6], [6, 7]), ([8, 6], [6, 8]), ([6, 9], [6, 9]), ([10, 6], [10]), ([11], [11]), ([12, 11], [11, 12]), ([13, 11], [11, 13]), ([14, 11, 11], [11, 14]), ([15], [15]), ([16, 15], [15, 16]), ([15], [15]), ([18, 15], [15, 18]), ([17, 19, 15], [15, 17, 19]), ([15, 20, 11], [11, 15, 20]), ([11, 21], [11, 21]), ([22, 15], [22]), ([23], [23]), ([24, 23], [23, 24]), ([25, 23], [23, 25]), ([26, 23], [23, 26]), ([27, 23, 23], [23, 27]), ([28], [28]), ([29, 28], [28, 29]), ([28], [28]), ([31, 28], [28, 31]), ([30, 32, 28, 28], [28, 30, 32]), ([28, 33, 23], [23, 28, 33]), ([23, 34], [23, 34]), ([35, 33], [35]), ([36], [36]), ([37, 36], [36, 37]), ([38, 36], [36, 38]), ([39, 36], [36, 39]), ([40, 36, 36], [36, 40]), ([41], [41]), ([42, 41], [41, 42]), ([41], [41]), ([44, 41], [41, 44]), ([43, 45, 41, 41], [41, 43, 45]), ([41, 46, 36], [36, 41, 46]), ([36, 47], [36, 47]), ([48, 46], [48]), ([49], [49]), ([50, 49], [49, 50]), ([49], [49]), ([52, 49], [49, 52]), ([51, 53, 49], [49, 51, 53]), ([49, 54], [49, 54]), ([55, 49], [55]), ([56], [56]), ([56], [56]), ([57, 58, 56, 56], [56, 57, 58]), ([56], [56]), ([59, 60, 59, 56], [56, 59, 60]), ([56, 61], [56, 61]), ([62, 61, 0, 1, 2, 3, 4, 5, 6, 7, 8, 9, 10, 11, 12, 13, 14, 15, 16, 17, 18, 19, 20, 21, 22, 23, 24, 25, 26, 27, 28, 29, 30, 31, 32, 33, 34, 35, 36, 37, 38, 39, 40, 41, 42, 43, 44, 45, 46, 47, 48, 49, 50, 51, 52, 53, 54, 55, 56, 57, 58, 59, 60, 61, 62], [62])])
def B5 : List Nat := [0, 1, 3, 7, 15, 31, 63, 127, 255, 511, 1023, 2047, 4095, 8191, 16383, 32767, 65535, 131071, 65535, 327679, 1048575, 2097151, 4194303, 8388607, 16777215, 33554431, 67108863, 134217727, 268435455, 536870911, 1073741823, 536870911, 2684354559, 8589934591, 17179869183, 34359738367, 68719476735, 137438953471, 274877906943, 549755813887, 1099511627775, 2199023255551, 4398046511103, 8796093022207, 4398046511103, 21990232555519, 70368744177663, 140737488355327, 281474976710655, 562949953421311, 1125899906842623, 2251799813685247, 1125899906842623, 5629499534213119, 18014398509481983, 36028797018963967, 72057594037927935, 144115188075855871, 144115188075855871, 576460752303423487, 144115188075855871, 2305843009213693951, 4611686018427387903, 9223372036854775807]
theorem tab5 : rtab .any (opsOf Try.f6 5) = T5 := by kernel_rfl
theorem bits5 : waitsOk T5.2 B5 = true := by kernel_rfl
open List (setIfInBounds_toArray set_cons_zero set_cons_succ)
set_option maxHeartbeats 8000000 in
set_option maxRecDepth 100000 in
theorem else_walk (x : S29) (y : S31) (mc : Array Value) (A3 : Option Addr) (c3 : Nat) (A4 : Option Addr) (c4 : Nat) (w : World) (h : k29.K w x mc.toList) (l3 : y.f3.length ≤ c3) (g3 : k48.C w A3 y.f3.length y.f3) (l4 : y.f4.length ≤ c4) (g4 : k52.C w A4 y.f4.length y.f4) (hr : Reach29 x) (hy : Reach31 y) :
    Calls Try.prog 6 #[.agg mc, .agg #[.string y.f0, .string y.f1, .string y.f2, .slice A3 y.f3.length c3, .slice A4 y.f4.length c4]] w fun e w' => e = .returned (.bool true) ∧ Below w.heap.size w w' := by
  have hu29 := Aside0.mk Try.underlying29
  have hsz : mc.size = 21 := by
    have h1 : mc.toList.length = k29.sz := k29.K_len h
    have h2 : k29.sz = 21 := rfl
    rw [h2, Array.length_toList] at h1
    exact h1
  have hi : (Try.prog.info? 29).map (·.size) = some mc.size := by rw [hsz]; kernel_rfl
  have HI := Aside0.mk hi
  have HK := Aside0.mk h
  have HR := Aside0.mk (And.intro hr hy)
  have HG := Aside0.mk (And.intro l3 (And.intro g3 (And.intro l4 g4)))
  clear hi h hr hy g3 g4 l3 l4
  go_enter Try.func6, Try.ntmps6
  go_upto_region 1 with fail
  obtain ⟨p2, hp2⟩ : ∃ p, p = w.heap.size := ⟨_, rfl⟩
  obtain ⟨p3, hp3⟩ : ∃ p, p = w.heap.size + 1 := ⟨_, rfl⟩
  obtain ⟨W1, hW1⟩ : ∃ W1, W1 = ((w.alloc (.cells mc 29)).alloc (.cells #[.string y.f0, .string y.f1, .string y.f2, .slice A3 y.f3.length c3, .slice A4 y.f4.length c4] 31)) := ⟨_, rfl⟩
  rw [← hW1, ← hp3, ← hp2]
  have hb2 : W1.heap[p2]? = some (.cells mc 29 (0, 0)) := by rw [hW1, hp2]; exact blk_alloc (blk_new w _) _
  have hb3 : W1.heap[p3]? = some (.cells #[.string y.f0, .string y.f1, .string y.f2, .slice A3 y.f3.length c3, .slice A4 y.f4.length c4] 31 (0, 0)) := by
    have := blk_new (w.alloc (.cells mc 29)) (.cells #[.string y.f0, .string y.f1, .string y.f2, .slice A3 y.f3.length c3, .slice A4 y.f4.length c4] 31)
    have e : (w.alloc (.cells mc 29)).heap.size = w.heap.size + 1 := by simp
    rw [e] at this
    rw [hW1, hp3]; exact this
  have hbel : Below w.heap.size w W1 := by rw [hW1]; exact below_alloc (below_alloc (Below.refl _ w) _) _
  have HX := Aside0.mk (And.intro hb2 (And.intro hb3 (And.intro hbel (And.intro hp2 hp3))))
  have hsm := small_x x mc W1 (k29.K_below hbel HK.out) HR.out.1
  have HS := Aside0.mk hsm
  have hne : p2 ≠ p3 := by omega
  have hne' : p3 ≠ p2 := by omega
  clear hW1 hb2 hb3 hbel hsm hp2 hp3
  go_wp2_with (first | ((with_reducible refine gate_dst (N := 6) rfl ?_); refine wpList_load_row rfl 29 (.tmp 2) rfl p2 rfl 29 mc (0, 0) _ HX.out.1 hu29.out rfl HI.out ?_))
  refine HS.out.mono ?_
  rintro e w2 ⟨b, rfl, hb2⟩
  have k2 : w2.heap[p2]? = some (.cells mc 29 (0, 0)) := (hb2.block p2 (blk_lt HX.out.1)).trans HX.out.1
  have k3 : w2.heap[p3]? = some (.cells #[.string y.f0, .string y.f1, .string y.f2, .slice A3 y.f3.length c3, .slice A4 y.f4.length c4] 31 (0, 0)) := (hb2.block p3 (blk_lt HX.out.2.1)).trans HX.out.2.1
  have kb : Below w.heap.size w w2 := below_step HX.out.2.2.1 hb2
  have d0 : w2.cell? ⟨p3, 0, none⟩ = some (.string y.f0) := (blk_cell k3 0).trans rfl
  have d3 : w2.cell? ⟨p3, 3, none⟩ = some (.slice A3 y.f3.length c3) := (blk_cell k3 3).trans rfl
  have d4 : w2.cell? ⟨p3, 4, none⟩ = some (.slice A4 y.f4.length c4) := (blk_cell k3 4).trans rfl
  have HY := Aside0.mk (And.intro k2 (And.intro k3 kb))
  have HA2 := Aside0.mk (awake_x w2)
  have fin : ∀ (e : Ending) (w' : World), (e = .returned (.bool true) ∧ Below w2.heap.size w2 w') → e = .returned (.bool true) ∧ Below w.heap.size w w' := fun e w' h => ⟨h.1, below_step HY.out.2.2 h.2⟩
  have HF := Aside0.mk fin
  clear k2 k3 kb hb2 HS fin
  cases b with
  | false =>
    go_wp2_with fail
    refine HA2.out.mono ?_
    rintro e w3 ⟨rfl, hb⟩
    go_wp2_with fail
    go_ret
    exact HF.out _ _ ⟨rfl, hb⟩
  | true =>
    by_cases s1 : (20 : Int) < (y.f3.length : Int)
    · have s1' : 20 < y.f3.length := by omega
      go_wp2_with fail
      refine HA2.out.mono ?_
      rintro e w3 ⟨rfl, hb⟩
      go_wp2_with fail
      go_ret
      exact HF.out _ _ ⟨rfl, hb⟩
    · have s1' : decide (20 < y.f3.length) = false := decide_eq_false (by omega)
      have s1'' : decide ((20 : Int) < (y.f3.length : Int)) = false := decide_eq_false s1
      by_cases s2 : (20 : Int) < (y.f4.length : Int)
      · have s2' : 20 < y.f4.length := by omega
        go_wp2_with fail
        refine HA2.out.mono ?_
        rintro e w3 ⟨rfl, hb⟩
        go_wp2_with fail
        go_ret
        exact HF.out _ _ ⟨rfl, hb⟩
      · have s2' : decide (20 < y.f4.length) = false := decide_eq_false (by omega)
        have s2'' : decide ((20 : Int) < (y.f4.length : Int)) = false := decide_eq_false s2
        clear s1 s2
        go_upto_region 3 with fail
        obtain ⟨m8, m9, hbare⟩ := bare_cells (k29.K_below HY.out.2.2 HK.out)
        have f8 : w2.frozen? ⟨p2, 8, none⟩ = false := blk_frozen HY.out.1 8
        have f9 : w2.frozen? ⟨p2, 9, none⟩ = false := blk_frozen HY.out.1 9
        have d8 : w2.cell? ⟨p2, 8, none⟩ = some (.string x.f8) := (blk_cell HY.out.1 8).trans m8
        have d9 : w2.cell? ⟨p2, 9, none⟩ = some (.string x.f9) := (blk_cell HY.out.1 9).trans m9
        obtain ⟨W3, hW3⟩ : ∃ W3, W3 = (w2.setCell ⟨p2, 8, none⟩ (.string ⟨#[]⟩)).setCell ⟨p2, 9, none⟩ (.string ⟨#[]⟩) := ⟨_, rfl⟩
        obtain ⟨mc2, hmc2⟩ : ∃ mc2, mc2 = (mc.setIfInBounds 8 (.string ⟨#[]⟩)).setIfInBounds 9 (.string ⟨#[]⟩) := ⟨_, rfl⟩
        have k2 : W3.heap[p2]? = some (.cells mc2 29 (0, 0)) := by rw [hW3, hmc2]; exact blk_set (blk_set HY.out.1 _ _) _ _
        have k3 : W3.heap[p3]? = some (.cells #[.string y.f0, .string y.f1, .string y.f2, .slice A3 y.f3.length c3, .slice A4 y.f4.length c4] 31 (0, 0)) := by
          rw [hW3]
          exact (Below.heap_setCell _ _ _ _ hne').trans ((Below.heap_setCell _ _ _ _ hne').trans HY.out.2.1)
        have kb : Below w.heap.size w W3 := by
          have q := HX.out.2.2.2.1
          have hs : w2.heap.size ≤ W3.heap.size := by rw [hW3]; simp [World.setCell]
          refine ⟨by rw [hW3]; exact HY.out.2.2.os, by rw [hW3]; exact HY.out.2.2.tape, by rw [hW3]; exact HY.out.2.2.output, Nat.le_trans HY.out.2.2.size hs, fun b hb => ?_⟩
          rw [hW3]
          exact (Below.heap_setCell _ _ _ _ (by show b ≠ p2; omega)).trans ((Below.heap_setCell _ _ _ _ (by show b ≠ p2; omega)).trans (HY.out.2.2.block b hb))
        rw [← hmc2] at hbare
        have hK3 : k29.K W3 (bare x) mc2.toList := by
          have hz := (bare_cells (k29.K_below kb HK.out)).2.2
          rw [← hmc2] at hz
          exact hz
        have hi2 : (Try.prog.info? 29).map (·.size) = some mc2.size := by
          have : mc2.size = mc.size := by rw [hmc2]; simp
          rw [this]; exact HI.out
        have hrb : Reach29 (bare x) := ⟨HR.out.1.h15, HR.out.1.d15, HR.out.1.h18, HR.out.1.h19, HR.out.1.d19⟩
        have hJ := join_x (bare x) y mc2 #[.string y.f0, .string y.f1, .string y.f2, .slice A3 y.f3.length c3, .slice A4 y.f4.length c4] W3 hK3 (k31_mk W3 y HG.out.1 (Kd.C_below HG.out.2.1 kb) HG.out.2.2.1 (Kd.C_below HG.out.2.2.2 kb)) hrb HR.out.2 rfl rfl
        have HJ := Aside0.mk hJ
        have HZ := Aside0.mk (And.intro k2 (And.intro k3 (And.intro kb (And.intro hK3 hi2))))
        have e0 : W3.cell? ⟨p3, 0, none⟩ = some (.string y.f0) := (blk_cell k3 0).trans rfl
        have e1 : W3.cell? ⟨p3, 1, none⟩ = some (.string y.f1) := (blk_cell k3 1).trans rfl
        have e2 : W3.cell? ⟨p3, 2, none⟩ = some (.string y.f2) := (blk_cell k3 2).trans rfl
        have e3 : W3.cell? ⟨p3, 3, none⟩ = some (.slice A3 y.f3.length c3) := (blk_cell k3 3).trans rfl
        have e4 : W3.cell? ⟨p3, 4, none⟩ = some (.slice A4 y.f4.length c4) := (blk_cell k3 4).trans rfl
        clear hbare k2 k3 kb hK3 hi2 hJ hmc2 m8 m9 HF HA2
        go_upto_region 4 with fail
        rw [← hW3]
        clear hW3 d0 d3 d4 d8 d9 f8 f9
        go_wp2_with (first | ((with_reducible refine gate_dst (N := 24) rfl ?_); refine wpList_load_row rfl 29 (.tmp 2) rfl p2 rfl 29 mc2 (0, 0) _ HZ.out.1 hu29.out rfl HZ.out.2.2.2.2 ?_))
        refine HJ.out.mono ?_
        rintro e w4 ⟨xc, rfl, hxs, hxk, hb4⟩
        have hix : (Try.prog.info? 29).map (·.size) = some xc.size := by rw [hxs]; kernel_rfl
        have hone : xc.all (·.oneCell') = true := by
          rw [Array.all_eq_true]
          intro i hlt
          exact k29.K_one hxk _ (by rw [Array.mem_toList_iff]; exact Array.getElem_mem hlt)
        have HXX := Aside0.mk (And.intro hxs (And.intro hxk (And.intro hb4 (And.intro hix hone))))
        clear hxk hb4 hix hone e0 e1 e2 e3 e4
        go_wp2_with (first | ((with_reducible refine gate_store (t := 29) (p := 5) rfl ?_); refine Go.Proofs.Ythapknnppabdaaa.Fill.store_event rfl 29 _ _ rfl w4.heap.size xc rfl rfl 29 _ (blk_new w4 _) HXX.out.2.2.2.1 (by rw [HXX.out.1]; rfl) HXX.out.2.2.2.2 ?_; intro w5 hx5 hkeep hbk; have HS5 := Aside0.mk (And.intro hx5 (And.intro hkeep hbk)); clear hx5 hkeep hbk))
        -- all that the comparison reads, in whatever world behind
        obtain ⟨hx5, hkeep, hbk⟩ := HS5.out
        obtain ⟨p5, hp5⟩ : ∃ p5, p5 = w4.heap.size := ⟨_, rfl⟩
        have hb45 : Below w4.heap.size w4 w5 := hbk w4.heap.size w4 (below_alloc (Below.refl _ w4) _) (Nat.le_refl _)
        have hb35 : Below W3.heap.size W3 w5 := below_step HXX.out.2.2.1 hb45
        have hbw5 : Below w.heap.size w w5 := below_step HZ.out.2.2.1 hb35
        rw [← hp5] at hx5 ⊢
        have hJK := k29.K_below hb45 HXX.out.2.1
        obtain ⟨B16, d16, B19, d19, B20, d20, exc, m16, n16, m19, n19, m20, n20⟩ := k29_open hJK
        have emx : xc = _ := Array.toList_inj.1 exc
        obtain ⟨D16, g16, D19, g19, D20, g20, eM, _⟩ := k29_open HZ.out.2.2.2.1
        have emM : mc2 = #[.int .i64 (bare x).f0, .int .i64 (bare x).f1, .string (bare x).f2, .string (bare x).f3, .string (bare x).f4, .string (bare x).f5, .int .u64 (bare x).f6, .string (bare x).f7, .string (bare x).f8, .string (bare x).f9, .string (bare x).f10, .int .i64 (bare x).f11, .string (bare x).f12, .string (bare x).f13, .int .i64 (bare x).f14.f0, .string (bare x).f14.f1, .slice D16 (bare x).f15.length g16, .string (bare x).f16, .string (bare x).f17, .slice D19 (bare x).f18.length g19, .slice D20 (bare x).f19.length g20] := Array.toList_inj.1 eM
        clear eM
        have HW : Aside0 (∀ w', Below w5.heap.size w5 w' → w'.heap[p5]? = some (.cells xc 29 (0, 0)) ∧ w'.heap[p2]? = some (.cells mc2 29 (0, 0)) ∧ w'.heap[p3]? = some (.cells #[.string y.f0, .string y.f1, .string y.f2, .slice A3 y.f3.length c3, .slice A4 y.f4.length c4] 31 (0, 0)) ∧ k29.K w' (bare x) mc2.toList) := ⟨fun w' hb => by
          have h2 := (hb35.block p2 (blk_lt HZ.out.1)).trans HZ.out.1
          have h3 := (hb35.block p3 (blk_lt HZ.out.2.1)).trans HZ.out.2.1
          exact ⟨(hb.block p5 (blk_lt hx5)).trans hx5, (hb.block p2 (blk_lt h2)).trans h2, (hb.block p3 (blk_lt h3)).trans h3, k29.K_below (below_step hb35 hb) HZ.out.2.2.2.1⟩⟩
        have HXC : Aside0 (∀ w', Below w5.heap.size w5 w' → w'.cell? ⟨p5, 1, none⟩ = some (.int .i64 (bare x).f1) ∧ w'.cell? ⟨p5, 8, none⟩ = some (.string ⟨#[]⟩) ∧ w'.cell? ⟨p5, 9, none⟩ = some (.string ⟨#[]⟩) ∧ w'.cell? ⟨p5, 17, none⟩ = some (.string (bare x).f16) ∧ w'.cell? ⟨p5, 18, none⟩ = some (.string (joinE (bare x) y).f17) ∧ w'.cell? ⟨p5, 19, none⟩ = some (.slice B19 (joinE (bare x) y).f18.length d19) ∧ w'.cell? ⟨p5, 20, none⟩ = some (.slice B20 (joinE (bare x) y).f19.length d20) ∧ w'.cell? ⟨p3, 0, none⟩ = some (.string y.f0) ∧ w'.cell? ⟨p3, 3, none⟩ = some (.slice A3 y.f3.length c3) ∧ w'.cell? ⟨p3, 4, none⟩ = some (.slice A4 y.f4.length c4) ∧ (w'.cell? ⟨p2, 0, none⟩ = some (.int .i64 (bare x).f0) ∧ w'.cell? ⟨p2, 1, none⟩ = some (.int .i64 (bare x).f1) ∧ w'.cell? ⟨p2, 2, none⟩ = some (.string (bare x).f2) ∧ w'.cell? ⟨p2, 3, none⟩ = some (.string (bare x).f3) ∧ w'.cell? ⟨p2, 4, none⟩ = some (.string (bare x).f4) ∧ w'.cell? ⟨p2, 5, none⟩ = some (.string (bare x).f5) ∧ w'.cell? ⟨p2, 6, none⟩ = some (.int .u64 (bare x).f6) ∧ w'.cell? ⟨p2, 7, none⟩ = some (.string (bare x).f7) ∧ w'.cell? ⟨p2, 8, none⟩ = some (.string (bare x).f8) ∧ w'.cell? ⟨p2, 9, none⟩ = some (.string (bare x).f9) ∧ w'.cell? ⟨p2, 10, none⟩ = some (.string (bare x).f10) ∧ w'.cell? ⟨p2, 11, none⟩ = some (.int .i64 (bare x).f11) ∧ w'.cell? ⟨p2, 12, none⟩ = some (.string (bare x).f12) ∧ w'.cell? ⟨p2, 13, none⟩ = some (.string (bare x).f13) ∧ w'.cell? ⟨p2, 14, none⟩ = some (.int .i64 (bare x).f14.f0) ∧ w'.cell? ⟨p2, 15, none⟩ = some (.string (bare x).f14.f1) ∧ w'.cell? ⟨p2, 16, none⟩ = some (.slice D16 (bare x).f15.length g16) ∧ w'.cell? ⟨p2, 17, none⟩ = some (.string (bare x).f16) ∧ w'.cell? ⟨p2, 18, none⟩ = some (.string (bare x).f17) ∧ w'.cell? ⟨p2, 19, none⟩ = some (.slice D19 (bare x).f18.length g19) ∧ w'.cell? ⟨p2, 20, none⟩ = some (.slice D20 (bare x).f19.length g20))) := ⟨fun w' hb => by
          obtain ⟨q5, q2, q3, _⟩ := HW.out w' hb
          rw [emx] at q5
          rw [emM] at q2
          exact ⟨(blk_cell q5 1).trans rfl, (blk_cell q5 8).trans rfl, (blk_cell q5 9).trans rfl, (blk_cell q5 17).trans rfl, (blk_cell q5 18).trans rfl, (blk_cell q5 19).trans rfl, (blk_cell q5 20).trans rfl, (blk_cell q3 0).trans rfl, (blk_cell q3 3).trans rfl, (blk_cell q3 4).trans rfl, (blk_cell q2 0).trans rfl, (blk_cell q2 1).trans rfl, (blk_cell q2 2).trans rfl, (blk_cell q2 3).trans rfl, (blk_cell q2 4).trans rfl, (blk_cell q2 5).trans rfl, (blk_cell q2 6).trans rfl, (blk_cell q2 7).trans rfl, (blk_cell q2 8).trans rfl, (blk_cell q2 9).trans rfl, (blk_cell q2 10).trans rfl, (blk_cell q2 11).trans rfl, (blk_cell q2 12).trans rfl, (blk_cell q2 13).trans rfl, (blk_cell q2 14).trans rfl, (blk_cell q2 15).trans rfl, (blk_cell q2 16).trans rfl, (blk_cell q2 17).trans rfl, (blk_cell q2 18).trans rfl, (blk_cell q2 19).trans rfl, (blk_cell q2 20).trans rfl⟩⟩
        have H8 : Aside0 (∀ w', Calls Try.prog 8 #[] w' fun e w'' => e = .returned (.bool true) ∧ Below w'.heap.size w' w'') := ⟨awake_x⟩
        have H20 : Aside0 (y.f3.length > 0 → ∀ w', Below w5.heap.size w5 w' → Calls Try.prog 20 #[.slice B19 (joinE (bare x) y).f18.length d19, .slice A3 y.f3.length c3] w' fun e w'' => e = .returned (.bool true) ∧ Below w'.heap.size w' w'') := ⟨fun hl w' hb => by
          have e18 : (joinE (bare x) y).f18 = y.f3 := if_pos hl
          rw [e18] at n19 m19 ⊢
          exact api_Pair_20.calls B19 d19 y.f3 A3 c3 y.f3 true w' (Kd.C_below n19 hb) m19 (Kd.C_below HG.out.2.1 (below_step hbw5 hb)) HG.out.1 (by unfold api_Pair_20.f; rw [if_pos rfl])⟩
        have H21 : Aside0 (y.f4.length > 0 → ∀ w', Below w5.heap.size w5 w' → Calls Try.prog 21 #[.slice B20 (joinE (bare x) y).f19.length d20, .slice A4 y.f4.length c4, .func (.func 22) #[] #[]] w' fun e w'' => e = .returned (.bool true) ∧ Below w'.heap.size w' w'') := ⟨fun hl w' hb => by
          have e19 : (joinE (bare x) y).f19 = y.f4 := if_pos hl
          rw [e19] at n20 m20 ⊢
          exact api_Element_21.calls B20 d20 y.f4 A4 c4 y.f4 true w' (Kd.C_below n20 hb) m20 (Kd.C_below HG.out.2.2.2 (below_step hbw5 hb)) HG.out.2.2.1 (by unfold api_Element_21.f; rw [if_pos rfl])⟩
        have H13 : Aside0 (∀ w', Below w5.heap.size w5 w' → Calls Try.prog 13 #[.agg mc2, .agg #[.string ⟨#[]⟩, .string ⟨#[]⟩, .string ⟨#[]⟩, .slice none 0 0, .slice none 0 0]] w' fun e w'' => ∃ nc, e = .returned (.agg nc) ∧ k29.K w'' (bare x) nc.toList ∧ Below w'.heap.size w' w'') := ⟨fun w' hb => by
          have hk := (HW.out w' hb).2.2.2
          have hnil : ∀ {α : Type} (d : Kd α), d.C w' none 0 [] := fun d => ⟨rfl, by omega, fun h => absurd h (by omega)⟩
          have := join_x (bare x) ⟨⟨#[]⟩, ⟨#[]⟩, ⟨#[]⟩, [], []⟩ mc2 #[.string ⟨#[]⟩, .string ⟨#[]⟩, .string ⟨#[]⟩, .slice none 0 0, .slice none 0 0] w' hk (k31_mk w' ⟨⟨#[]⟩, ⟨#[]⟩, ⟨#[]⟩, [], []⟩ (Nat.le_refl _) (hnil k48) (Nat.le_refl _) (hnil k52)) ⟨HR.out.1.h15, HR.out.1.d15, HR.out.1.h18, HR.out.1.h19, HR.out.1.d19⟩ ⟨by simp, by simp, by simp⟩ rfl rfl
          refine this.mono ?_
          rintro e w'' ⟨nc, he, _, hk2, hb2⟩
          refine ⟨nc, he, ?_, hb2⟩
          have hj : joinE (bare x) ⟨⟨#[]⟩, ⟨#[]⟩, ⟨#[]⟩, [], []⟩ = bare x := by
            unfold joinE
            simp only [empty_list, List.length_nil]
            rfl
          rw [hj] at hk2
          exact hk2⟩
        have H11 : Aside0 (∀ w' nc, Below w5.heap.size w5 w' → k29.K w' (bare x) nc.toList → Calls Try.prog 11 #[.agg nc, .agg mc2] w' fun e w'' => e = .returned (.bool true) ∧ Below w'.heap.size w' w'') := ⟨fun w' nc hb hk => message_x (bare x) nc mc2 w' hk (HW.out w' hb).2.2.2⟩
        have h0d : (joinE (bare x) y).f17 = if y.f0.toList = [] then x.f17 else y.f0 := rfl
        have HB5 := Aside0.mk hbw5
        have hbd : Below w5.heap.size w5 w5.drew := below_drew1 (Below.refl _ _)
        obtain ⟨z1, z8, z9, z17, z18, z19, z20, q0, q3, q4, y0, y1, _⟩ := HXC.out w5 (Below.refl _ _)
        clear emx exc hJK hbk hkeep hx5 n16 m16 n19 m19 n20 m20 hb45 hb35 hbw5 hp5 emM z17 y0 HXC
        generalize (joinE (bare x) y).f18.length = L18 at z19 H20
        generalize (joinE (bare x) y).f19.length = L19 at z20 H21
        by_cases c0 : y.f0.toList = []
        · have c0b0 : (y.f0.toList == ([] : List UInt8)) = true := beq_iff_eq.mpr c0
          have c0b1 : (y.f0.toList != ([] : List UInt8)) = false := bne_eq_false_iff_eq.mpr c0
          generalize (joinE (bare x) y).f17 = n17 at z18
          clear h0d c0
          generalize bare x = bx at *
          by_cases c3' : y.f3.length = 0
          · have c3b : ((y.f3.length : Int) == 0) = true := beq_iff_eq.mpr (by omega)
            clear c3' H20
            by_cases c4' : y.f4.length = 0
            · have c4b : ((y.f4.length : Int) == 0) = true := beq_iff_eq.mpr (by omega)
              clear c4' H21
              as_aux_lemma =>
                go_wp2_with fail
                have HKp : Aside0 (∀ w', Below w5.heap.size w5 w' → w'.cell? ⟨p5, 1, none⟩ = some (.int .i64 bx.f1) ∧ w'.cell? ⟨p5, 8, none⟩ = some (.string ⟨#[]⟩) ∧ w'.cell? ⟨p5, 9, none⟩ = some (.string ⟨#[]⟩) ∧ w'.cell? ⟨p5, 18, none⟩ = some (.string n17) ∧ w'.cell? ⟨p5, 19, none⟩ = some (.slice B19 L18 d19) ∧ w'.cell? ⟨p5, 20, none⟩ = some (.slice B20 L19 d20) ∧ w'.cell? ⟨p3, 0, none⟩ = some (.string y.f0) ∧ w'.cell? ⟨p3, 3, none⟩ = some (.slice A3 y.f3.length c3) ∧ w'.cell? ⟨p3, 4, none⟩ = some (.slice A4 y.f4.length c4) ∧ w'.cell? ⟨p2, 1, none⟩ = some (.int .i64 bx.f1) ∧ w'.heap[p2]? = some (.cells mc2 29 (0, 0))) := ⟨fun w' hb => ⟨(hb.cell (World.block_lt_of_cell? w5 _ z1)).trans z1, (hb.cell (World.block_lt_of_cell? w5 _ z8)).trans z8, (hb.cell (World.block_lt_of_cell? w5 _ z9)).trans z9, (hb.cell (World.block_lt_of_cell? w5 _ z18)).trans z18, (hb.cell (World.block_lt_of_cell? w5 _ z19)).trans z19, (hb.cell (World.block_lt_of_cell? w5 _ z20)).trans z20, (hb.cell (World.block_lt_of_cell? w5 _ q0)).trans q0, (hb.cell (World.block_lt_of_cell? w5 _ q3)).trans q3, (hb.cell (World.block_lt_of_cell? w5 _ q4)).trans q4, (hb.cell (World.block_lt_of_cell? w5 _ y1)).trans y1, (HW.out w' hb).2.1⟩⟩
                clear z1 z8 z9 z18 z19 z20 q0 q3 q4 y1
                refine start_ (n := 64) (ds := []) (S := fun w' => w'.cell? ⟨p5, 1, none⟩ = some (.int .i64 bx.f1) ∧ w'.cell? ⟨p5, 8, none⟩ = some (.string ⟨#[]⟩) ∧ w'.cell? ⟨p5, 9, none⟩ = some (.string ⟨#[]⟩) ∧ w'.cell? ⟨p5, 18, none⟩ = some (.string n17) ∧ w'.cell? ⟨p5, 19, none⟩ = some (.slice B19 L18 d19) ∧ w'.cell? ⟨p5, 20, none⟩ = some (.slice B20 L19 d20) ∧ w'.cell? ⟨p3, 0, none⟩ = some (.string y.f0) ∧ w'.cell? ⟨p3, 3, none⟩ = some (.slice A3 y.f3.length c3) ∧ w'.cell? ⟨p3, 4, none⟩ = some (.slice A4 y.f4.length c4) ∧ w'.cell? ⟨p2, 1, none⟩ = some (.int .i64 bx.f1) ∧ w'.heap[p2]? = some (.cells mc2 29 (0, 0))) (V5 0) (by rfl) (by rfl) (by kernel_rfl) (HKp.out _ hbd) (fun hHeld => ?_); refine with_tabW tab5 bits5 (fun HT_ HW_ => ?_)
                generalize w5.drew = wd at hbd hHeld ⊢
                refine one_ (i := 0) (N := some 27) (V5 1) rfl rfl (one_of HT_.out (by kernel_rfl)) (by decide) (fun K hK => ?_)
                refine goes_ Try.func8 (by kernel_rfl) rfl #[] (by rfl) rfl rfl (by (try simp only [List.map_toArray, List.map_cons, List.map_nil]); first | done | rfl) ?_
                with_reducible refine (H8.out _).mono ?_
                rintro e w60 ⟨rfl, hb⟩
                refine ⟨_, rfl, ?_⟩
                have hbn := below_step hbd hb; clear hbd hHeld hb; have hbd := hbn; clear hbn
                refine hK.out _ _ (HKp.out _ hbd) (fun hHeld => ?_)
                clear hK K
                refine norm_ (a' := ?_) ?_ ?_; rotate_left
                · show Act.put _ (some 27) _ = _
                  simp only [Act.put, setIfInBounds_toArray, set_cons_zero, set_cons_succ, i64_w, i32_w]; rfl
                refine pure_ (i := 1) (N := some 28) (v := ?_) (a' := ?_) (V5 3) rfl rfl (any_of HT_.out (by kernel_rfl)) (fun _ _ _ h => h) (Or.inl ⟨by rfl, ?_⟩) ?_ ?_; rotate_left
                · intro w'; go_simp; with_reducible rfl
                rotate_left
                · simp only [Act.put, setIfInBounds_toArray, set_cons_zero, set_cons_succ, i64_w, i32_w]; rfl
                refine pure_ (i := 2) (N := some 29) (v := ?_) (a' := ?_) (V5 7) rfl rfl (any_of HT_.out (by kernel_rfl)) (fun _ _ _ h => h) (Or.inl ⟨by rfl, ?_⟩) ?_ ?_; rotate_left
                · intro w'; go_simp; with_reducible rfl
                rotate_left
                · simp only [Act.put, setIfInBounds_toArray, set_cons_zero, set_cons_succ, i64_w, i32_w]; rfl
                refine take_ (i := 3) (N := some 30) (v := ?_) (a' := ?_) (V5 15) rfl rfl (take_ofW HT_.out HW_.out (by kernel_rfl)) (fun _ _ _ h => h) (Or.inl ⟨by rfl, ?_⟩) hHeld ?_ ?_; rotate_left
                · rintro w' ⟨s0, s1, s2, s3, s4, s5, s6, s7, s8, s9, -⟩; go_simp; with_reducible rfl
                rotate_left
                · simp only [Act.put, setIfInBounds_toArray, set_cons_zero, set_cons_succ, i64_w, i32_w]; rfl
                refine pure_ (i := 4) (N := some 31) (v := ?_) (a' := ?_) (V5 31) rfl rfl (any_of HT_.out (by kernel_rfl)) (fun _ _ _ h => h) (Or.inl ⟨by rfl, ?_⟩) ?_ ?_; rotate_left
                · intro w'; go_simp; with_reducible rfl
                rotate_left
                · simp only [Act.put, setIfInBounds_toArray, set_cons_zero, set_cons_succ, i64_w, i32_w]; rfl
                refine pure_ (i := 5) (N := some 32) (v := ?_) (a' := ?_) (V5 63) rfl rfl (any_of HT_.out (by kernel_rfl)) (fun _ _ _ h => h) (Or.inl ⟨by rfl, ?_⟩) ?_ ?_; rotate_left
                · intro w'; go_simp; with_reducible rfl
                rotate_left
                · simp only [Act.put, setIfInBounds_toArray, set_cons_zero, set_cons_succ, i64_w, i32_w]; rfl
                refine pure_ (i := 6) (N := some 33) (v := ?_) (a' := ?_) (V5 127) rfl rfl (any_of HT_.out (by kernel_rfl)) (fun _ _ _ h => h) (Or.inl ⟨by rfl, ?_⟩) ?_ ?_; rotate_left
                · intro w'; go_simp; with_reducible rfl
                rotate_left
                · simp only [Act.put, setIfInBounds_toArray, set_cons_zero, set_cons_succ, i64_w, i32_w]; rfl
                refine pure_ (i := 7) (N := some 34) (v := ?_) (a' := ?_) (V5 255) rfl rfl (any_of HT_.out (by kernel_rfl)) (fun _ _ _ h => h) (Or.inl ⟨by rfl, ?_⟩) ?_ ?_; rotate_left
                · intro w'; go_simp; with_reducible rfl
                rotate_left
                · simp only [Act.put, setIfInBounds_toArray, set_cons_zero, set_cons_succ, i64_w, i32_w]; rfl
                refine take_ (i := 8) (N := some 35) (v := ?_) (a' := ?_) (V5 511) rfl rfl (take_ofW HT_.out HW_.out (by kernel_rfl)) (fun _ _ _ h => h) (Or.inl ⟨by rfl, ?_⟩) hHeld ?_ ?_; rotate_left
                · rintro w' ⟨s0, s1, s2, s3, s4, s5, s6, s7, s8, s9, -⟩; go_simp; with_reducible rfl
                rotate_left
                · simp only [Act.put, setIfInBounds_toArray, set_cons_zero, set_cons_succ, i64_w, i32_w]; rfl
                refine pure_ (i := 9) (N := some 36) (v := ?_) (a' := ?_) (V5 1023) rfl rfl (any_of HT_.out (by kernel_rfl)) (fun _ _ _ h => h) (Or.inl ⟨by rfl, ?_⟩) ?_ ?_; rotate_left
                · intro w'; go_simp; with_reducible rfl
                rotate_left
                · simp only [Act.put, setIfInBounds_toArray, set_cons_zero, set_cons_succ, i64_w, i32_w]; rfl
                refine pure_ (i := 10) (N := some 37) (v := ?_) (a' := ?_) (V5 2047) rfl rfl (any_of HT_.out (by kernel_rfl)) (fun _ _ _ h => h) (Or.inl ⟨by rfl, ?_⟩) ?_ ?_; rotate_left
                · intro w'; go_simp; with_reducible rfl
                rotate_left
                · simp only [Act.put, setIfInBounds_toArray, set_cons_zero, set_cons_succ, i64_w, i32_w]; rfl
                refine pure_ (i := 11) (N := some 38) (v := ?_) (a' := ?_) (V5 4095) rfl rfl (any_of HT_.out (by kernel_rfl)) (fun _ _ _ h => h) (Or.inl ⟨by rfl, ?_⟩) ?_ ?_; rotate_left
                · intro w'; go_simp; with_reducible rfl
                rotate_left
                · simp only [Act.put, setIfInBounds_toArray, set_cons_zero, set_cons_succ, i64_w, i32_w]; rfl
                refine pure_ (i := 12) (N := some 39) (v := ?_) (a' := ?_) (V5 8191) rfl rfl (any_of HT_.out (by kernel_rfl)) (fun _ _ _ h => h) (Or.inl ⟨by rfl, ?_⟩) ?_ ?_; rotate_left
                · intro w'; go_simp; with_reducible rfl
                rotate_left
                · simp only [Act.put, setIfInBounds_toArray, set_cons_zero, set_cons_succ, i64_w, i32_w]; rfl
                refine take_ (i := 13) (N := some 40) (v := ?_) (a' := ?_) (V5 16383) rfl rfl (take_ofW HT_.out HW_.out (by kernel_rfl)) (fun _ _ _ h => h) (Or.inl ⟨by rfl, ?_⟩) hHeld ?_ ?_; rotate_left
                · rintro w' ⟨s0, s1, s2, s3, s4, s5, s6, s7, s8, s9, -⟩; go_simp; with_reducible rfl
                rotate_left
                · simp only [Act.put, setIfInBounds_toArray, set_cons_zero, set_cons_succ, i64_w, i32_w]; rfl
                refine pure_ (i := 14) (N := some 41) (v := ?_) (a' := ?_) (V5 32767) rfl rfl (any_of HT_.out (by kernel_rfl)) (fun _ _ _ h => h) (Or.inl ⟨by rfl, ?_⟩) ?_ ?_; rotate_left
                · intro w'; go_simp; with_reducible rfl
                rotate_left
                · simp only [Act.put, setIfInBounds_toArray, set_cons_zero, set_cons_succ, i64_w, i32_w]; rfl
                refine pure_ (i := 15) (N := some 42) (v := ?_) (a' := ?_) (V5 65535) rfl rfl (any_of HT_.out (by kernel_rfl)) (fun _ _ _ h => h) (Or.inl ⟨by rfl, ?_⟩) ?_ ?_; rotate_left
                · intro w'; go_simp; with_reducible rfl
                rotate_left
                · simp only [Act.put, setIfInBounds_toArray, set_cons_zero, set_cons_succ, i64_w, i32_w]; rfl
                refine pure_ (i := 16) (N := some 43) (v := undef) (a' := ?_) (V5 131071) rfl rfl (any_of HT_.out (by kernel_rfl)) (fun _ _ _ h => h) (Or.inr ⟨by rfl, rfl⟩) ?_ ?_; rotate_left
                · simp only [Act.put, setIfInBounds_toArray, set_cons_zero, set_cons_succ, i64_w, i32_w]; rfl
                refine pure_ (i := 17) (N := some 44) (v := undef) (a' := ?_) (V5 262143) rfl rfl (any_of HT_.out (by kernel_rfl)) (fun _ _ _ h => h) (Or.inr ⟨by rfl, rfl⟩) ?_ ?_; rotate_left
                · simp only [Act.put, setIfInBounds_toArray, set_cons_zero, set_cons_succ, i64_w, i32_w]; rfl
                refine pure_ (i := 18) (N := some 45) (v := undef) (a' := ?_) (V5 524287) rfl rfl (any_of HT_.out (by kernel_rfl)) (fun _ _ _ h => h) (Or.inr ⟨by rfl, rfl⟩) ?_ ?_; rotate_left
                · simp only [Act.put, setIfInBounds_toArray, set_cons_zero, set_cons_succ, i64_w, i32_w]; rfl
                refine pure_ (i := 19) (N := some 46) (v := undef) (a' := ?_) (V5 1048575) rfl rfl (any_of HT_.out (by kernel_rfl)) (fun _ _ _ h => h) (Or.inr ⟨by rfl, rfl⟩) ?_ ?_; rotate_left
                · simp only [Act.put, setIfInBounds_toArray, set_cons_zero, set_cons_succ, i64_w, i32_w]; rfl
                refine pure_ (i := 20) (N := some 47) (v := undef) (a' := ?_) (V5 2097151) rfl rfl (any_of HT_.out (by kernel_rfl)) (fun _ _ _ h => h) (Or.inr ⟨by rfl, rfl⟩) ?_ ?_; rotate_left
                · simp only [Act.put, setIfInBounds_toArray, set_cons_zero, set_cons_succ, i64_w, i32_w]; rfl
                refine pure_ (i := 21) (N := some 48) (v := ?_) (a' := ?_) (V5 4194303) rfl rfl (any_of HT_.out (by kernel_rfl)) (fun _ _ _ h => h) (Or.inl ⟨by rfl, ?_⟩) ?_ ?_; rotate_left
                · intro w'; go_simp; with_reducible rfl
                rotate_left
                · simp only [Act.put, setIfInBounds_toArray, set_cons_zero, set_cons_succ, i64_w, i32_w]; rfl
                refine pure_ (i := 22) (N := some 49) (v := ?_) (a' := ?_) (V5 8388607) rfl rfl (any_of HT_.out (by kernel_rfl)) (fun _ _ _ h => h) (Or.inl ⟨by rfl, ?_⟩) ?_ ?_; rotate_left
                · intro w'; go_simp; with_reducible rfl
                rotate_left
                · simp only [Act.put, setIfInBounds_toArray, set_cons_zero, set_cons_succ, i64_w, i32_w]; rfl
                refine pure_ (i := 23) (N := some 50) (v := ?_) (a' := ?_) (V5 16777215) rfl rfl (any_of HT_.out (by kernel_rfl)) (fun _ _ _ h => h) (Or.inl ⟨by rfl, ?_⟩) ?_ ?_; rotate_left
                · intro w'; go_simp; with_reducible rfl
                rotate_left
                · simp only [Act.put, setIfInBounds_toArray, set_cons_zero, set_cons_succ, i64_w, i32_w]; rfl
                refine pure_ (i := 24) (N := some 51) (v := ?_) (a' := ?_) (V5 33554431) rfl rfl (any_of HT_.out (by kernel_rfl)) (fun _ _ _ h => h) (Or.inl ⟨by rfl, ?_⟩) ?_ ?_; rotate_left
                · intro w'; go_simp; with_reducible rfl
                rotate_left
                · simp only [Act.put, setIfInBounds_toArray, set_cons_zero, set_cons_succ, i64_w, i32_w]; rfl
                refine take_ (i := 25) (N := some 52) (v := ?_) (a' := ?_) (V5 67108863) rfl rfl (take_ofW HT_.out HW_.out (by kernel_rfl)) (fun _ _ _ h => h) (Or.inl ⟨by rfl, ?_⟩) hHeld ?_ ?_; rotate_left
                · rintro w' ⟨s0, s1, s2, s3, s4, s5, s6, s7, s8, s9, -⟩; go_simp; with_reducible rfl
                rotate_left
                · simp only [Act.put, setIfInBounds_toArray, set_cons_zero, set_cons_succ, i64_w, i32_w]; rfl
                refine pure_ (i := 26) (N := some 53) (v := ?_) (a' := ?_) (V5 134217727) rfl rfl (any_of HT_.out (by kernel_rfl)) (fun _ _ _ h => h) (Or.inl ⟨by rfl, ?_⟩) ?_ ?_; rotate_left
                · intro w'; go_simp; with_reducible rfl
                rotate_left
                · simp only [Act.put, setIfInBounds_toArray, set_cons_zero, set_cons_succ, i64_w, i32_w]; rfl
                refine pure_ (i := 27) (N := some 54) (v := ?_) (a' := ?_) (V5 268435455) rfl rfl (any_of HT_.out (by kernel_rfl)) (fun _ _ _ h => h) (Or.inl ⟨by rfl, ?_⟩) ?_ ?_; rotate_left
                · intro w'; go_simp; with_reducible rfl
                rotate_left
                · simp only [Act.put, setIfInBounds_toArray, set_cons_zero, set_cons_succ, i64_w, i32_w]; rfl
                refine pure_ (i := 28) (N := some 55) (v := ?_) (a' := ?_) (V5 536870911) rfl rfl (any_of HT_.out (by kernel_rfl)) (fun _ _ _ h => h) (Or.inl ⟨by rfl, ?_⟩) ?_ ?_; rotate_left
                · intro w'; go_simp; with_reducible rfl
                rotate_left
                · simp only [Act.put, setIfInBounds_toArray, set_cons_zero, set_cons_succ, i64_w, i32_w]; rfl
                refine pure_ (i := 29) (N := some 56) (v := undef) (a' := ?_) (V5 1073741823) rfl rfl (any_of HT_.out (by kernel_rfl)) (fun _ _ _ h => h) (Or.inr ⟨by rfl, rfl⟩) ?_ ?_; rotate_left
                · simp only [Act.put, setIfInBounds_toArray, set_cons_zero, set_cons_succ, i64_w, i32_w]; rfl
                refine pure_ (i := 30) (N := some 57) (v := undef) (a' := ?_) (V5 2147483647) rfl rfl (any_of HT_.out (by kernel_rfl)) (fun _ _ _ h => h) (Or.inr ⟨by rfl, rfl⟩) ?_ ?_; rotate_left
                · simp only [Act.put, setIfInBounds_toArray, set_cons_zero, set_cons_succ, i64_w, i32_w]; rfl
                refine pure_ (i := 31) (N := some 58) (v := undef) (a' := ?_) (V5 4294967295) rfl rfl (any_of HT_.out (by kernel_rfl)) (fun _ _ _ h => h) (Or.inr ⟨by rfl, rfl⟩) ?_ ?_; rotate_left
                · simp only [Act.put, setIfInBounds_toArray, set_cons_zero, set_cons_succ, i64_w, i32_w]; rfl
                refine pure_ (i := 32) (N := some 59) (v := undef) (a' := ?_) (V5 8589934591) rfl rfl (any_of HT_.out (by kernel_rfl)) (fun _ _ _ h => h) (Or.inr ⟨by rfl, rfl⟩) ?_ ?_; rotate_left
                · simp only [Act.put, setIfInBounds_toArray, set_cons_zero, set_cons_succ, i64_w, i32_w]; rfl
                refine pure_ (i := 33) (N := some 60) (v := undef) (a' := ?_) (V5 17179869183) rfl rfl (any_of HT_.out (by kernel_rfl)) (fun _ _ _ h => h) (Or.inr ⟨by rfl, rfl⟩) ?_ ?_; rotate_left
                · simp only [Act.put, setIfInBounds_toArray, set_cons_zero, set_cons_succ, i64_w, i32_w]; rfl
                refine pure_ (i := 34) (N := some 61) (v := ?_) (a' := ?_) (V5 34359738367) rfl rfl (any_of HT_.out (by kernel_rfl)) (fun _ _ _ h => h) (Or.inl ⟨by rfl, ?_⟩) ?_ ?_; rotate_left
                · intro w'; go_simp; with_reducible rfl
                rotate_left
                · simp only [Act.put, setIfInBounds_toArray, set_cons_zero, set_cons_succ, i64_w, i32_w]; rfl
                refine pure_ (i := 35) (N := some 62) (v := ?_) (a' := ?_) (V5 68719476735) rfl rfl (any_of HT_.out (by kernel_rfl)) (fun _ _ _ h => h) (Or.inl ⟨by rfl, ?_⟩) ?_ ?_; rotate_left
                · intro w'; go_simp; with_reducible rfl
                rotate_left
                · simp only [Act.put, setIfInBounds_toArray, set_cons_zero, set_cons_succ, i64_w, i32_w]; rfl
                refine pure_ (i := 36) (N := some 63) (v := ?_) (a' := ?_) (V5 137438953471) rfl rfl (any_of HT_.out (by kernel_rfl)) (fun _ _ _ h => h) (Or.inl ⟨by rfl, ?_⟩) ?_ ?_; rotate_left
                · intro w'; go_simp; with_reducible rfl
                rotate_left
                · simp only [Act.put, setIfInBounds_toArray, set_cons_zero, set_cons_succ, i64_w, i32_w]; rfl
                refine pure_ (i := 37) (N := some 64) (v := ?_) (a' := ?_) (V5 274877906943) rfl rfl (any_of HT_.out (by kernel_rfl)) (fun _ _ _ h => h) (Or.inl ⟨by rfl, ?_⟩) ?_ ?_; rotate_left
                · intro w'; go_simp; with_reducible rfl
                rotate_left
                · simp only [Act.put, setIfInBounds_toArray, set_cons_zero, set_cons_succ, i64_w, i32_w]; rfl
                refine take_ (i := 38) (N := some 65) (v := ?_) (a' := ?_) (V5 549755813887) rfl rfl (take_ofW HT_.out HW_.out (by kernel_rfl)) (fun _ _ _ h => h) (Or.inl ⟨by rfl, ?_⟩) hHeld ?_ ?_; rotate_left
                · rintro w' ⟨s0, s1, s2, s3, s4, s5, s6, s7, s8, s9, -⟩; go_simp; with_reducible rfl
                rotate_left
                · simp only [Act.put, setIfInBounds_toArray, set_cons_zero, set_cons_succ, i64_w, i32_w]; rfl
                refine pure_ (i := 39) (N := some 66) (v := ?_) (a' := ?_) (V5 1099511627775) rfl rfl (any_of HT_.out (by kernel_rfl)) (fun _ _ _ h => h) (Or.inl ⟨by rfl, ?_⟩) ?_ ?_; rotate_left
                · intro w'; go_simp; with_reducible rfl
                rotate_left
                · simp only [Act.put, setIfInBounds_toArray, set_cons_zero, set_cons_succ, i64_w, i32_w]; rfl
                refine pure_ (i := 40) (N := some 67) (v := ?_) (a' := ?_) (V5 2199023255551) rfl rfl (any_of HT_.out (by kernel_rfl)) (fun _ _ _ h => h) (Or.inl ⟨by rfl, ?_⟩) ?_ ?_; rotate_left
                · intro w'; go_simp; with_reducible rfl
                rotate_left
                · simp only [Act.put, setIfInBounds_toArray, set_cons_zero, set_cons_succ, i64_w, i32_w]; rfl
                refine pure_ (i := 41) (N := some 68) (v := ?_) (a' := ?_) (V5 4398046511103) rfl rfl (any_of HT_.out (by kernel_rfl)) (fun _ _ _ h => h) (Or.inl ⟨by rfl, ?_⟩) ?_ ?_; rotate_left
                · intro w'; go_simp; with_reducible rfl
                rotate_left
                · simp only [Act.put, setIfInBounds_toArray, set_cons_zero, set_cons_succ, i64_w, i32_w]; rfl
                refine pure_ (i := 42) (N := some 69) (v := undef) (a' := ?_) (V5 8796093022207) rfl rfl (any_of HT_.out (by kernel_rfl)) (fun _ _ _ h => h) (Or.inr ⟨by rfl, rfl⟩) ?_ ?_; rotate_left
                · simp only [Act.put, setIfInBounds_toArray, set_cons_zero, set_cons_succ, i64_w, i32_w]; rfl
                refine pure_ (i := 43) (N := some 70) (v := undef) (a' := ?_) (V5 17592186044415) rfl rfl (any_of HT_.out (by kernel_rfl)) (fun _ _ _ h => h) (Or.inr ⟨by rfl, rfl⟩) ?_ ?_; rotate_left
                · simp only [Act.put, setIfInBounds_toArray, set_cons_zero, set_cons_succ, i64_w, i32_w]; rfl
                refine pure_ (i := 44) (N := some 71) (v := undef) (a' := ?_) (V5 35184372088831) rfl rfl (any_of HT_.out (by kernel_rfl)) (fun _ _ _ h => h) (Or.inr ⟨by rfl, rfl⟩) ?_ ?_; rotate_left
                · simp only [Act.put, setIfInBounds_toArray, set_cons_zero, set_cons_succ, i64_w, i32_w]; rfl
                refine pure_ (i := 45) (N := some 72) (v := undef) (a' := ?_) (V5 70368744177663) rfl rfl (any_of HT_.out (by kernel_rfl)) (fun _ _ _ h => h) (Or.inr ⟨by rfl, rfl⟩) ?_ ?_; rotate_left
                · simp only [Act.put, setIfInBounds_toArray, set_cons_zero, set_cons_succ, i64_w, i32_w]; rfl
                refine pure_ (i := 46) (N := some 73) (v := undef) (a' := ?_) (V5 140737488355327) rfl rfl (any_of HT_.out (by kernel_rfl)) (fun _ _ _ h => h) (Or.inr ⟨by rfl, rfl⟩) ?_ ?_; rotate_left
                · simp only [Act.put, setIfInBounds_toArray, set_cons_zero, set_cons_succ, i64_w, i32_w]; rfl
                refine pure_ (i := 47) (N := some 74) (v := ?_) (a' := ?_) (V5 281474976710655) rfl rfl (any_of HT_.out (by kernel_rfl)) (fun _ _ _ h => h) (Or.inl ⟨by rfl, ?_⟩) ?_ ?_; rotate_left
                · intro w'; go_simp; with_reducible rfl
                rotate_left
                · simp only [Act.put, setIfInBounds_toArray, set_cons_zero, set_cons_succ, i64_w, i32_w]; rfl
                refine pure_ (i := 48) (N := some 75) (v := ?_) (a' := ?_) (V5 562949953421311) rfl rfl (any_of HT_.out (by kernel_rfl)) (fun _ _ _ h => h) (Or.inl ⟨by rfl, ?_⟩) ?_ ?_; rotate_left
                · intro w'; go_simp; with_reducible rfl
                rotate_left
                · simp only [Act.put, setIfInBounds_toArray, set_cons_zero, set_cons_succ, i64_w, i32_w]; rfl
                refine pure_ (i := 49) (N := some 76) (v := ?_) (a' := ?_) (V5 1125899906842623) rfl rfl (any_of HT_.out (by kernel_rfl)) (fun _ _ _ h => h) (Or.inl ⟨by rfl, ?_⟩) ?_ ?_; rotate_left
                · intro w'; go_simp; with_reducible rfl
                rotate_left
                · simp only [Act.put, setIfInBounds_toArray, set_cons_zero, set_cons_succ, i64_w, i32_w]; rfl
                refine pure_ (i := 50) (N := some 77) (v := ?_) (a' := ?_) (V5 2251799813685247) rfl rfl (any_of HT_.out (by kernel_rfl)) (fun _ _ _ h => h) (Or.inl ⟨by rfl, ?_⟩) ?_ ?_; rotate_left
                · intro w'; go_simp; with_reducible rfl
                rotate_left
                · simp only [Act.put, setIfInBounds_toArray, set_cons_zero, set_cons_succ, i64_w, i32_w]; rfl
                refine pure_ (i := 52) (N := some 79) (v := ?_) (a' := ?_) (V5 6755399441055743) rfl rfl (any_of HT_.out (by kernel_rfl)) (fun _ _ _ h => h) (Or.inl ⟨by rfl, ?_⟩) ?_ ?_; rotate_left
                · intro w'; go_simp; with_reducible rfl
                rotate_left
                · simp only [Act.put, setIfInBounds_toArray, set_cons_zero, set_cons_succ, i64_w, i32_w]; rfl
                refine take_ (i := 51) (N := some 78) (v := ?_) (a' := ?_) (V5 9007199254740991) rfl rfl (take_ofW HT_.out HW_.out (by kernel_rfl)) (fun _ _ _ h => h) (Or.inl ⟨by rfl, ?_⟩) hHeld ?_ ?_; rotate_left
                · rintro w' ⟨s0, s1, s2, s3, s4, s5, s6, s7, s8, s9, -⟩; go_simp; with_reducible rfl
                rotate_left
                · simp only [Act.put, setIfInBounds_toArray, set_cons_zero, set_cons_succ, i64_w, i32_w]; rfl
                refine take_ (i := 53) (N := some 80) (v := ?_) (a' := ?_) (V5 18014398509481983) rfl rfl (take_ofW HT_.out HW_.out (by kernel_rfl)) (fun _ _ _ h => h) (Or.inl ⟨by rfl, ?_⟩) hHeld ?_ ?_; rotate_left
                · rintro w' ⟨s0, s1, s2, s3, s4, s5, s6, s7, s8, s9, -⟩; go_simp; with_reducible rfl
                rotate_left
                · simp only [Act.put, setIfInBounds_toArray, set_cons_zero, set_cons_succ, i64_w, i32_w]; rfl
                refine pure_ (i := 54) (N := some 81) (v := ?_) (a' := ?_) (V5 36028797018963967) rfl rfl (any_of HT_.out (by kernel_rfl)) (fun _ _ _ h => h) (Or.inl ⟨by rfl, ?_⟩) ?_ ?_; rotate_left
                · intro w'; go_simp; with_reducible rfl
                rotate_left
                · simp only [Act.put, setIfInBounds_toArray, set_cons_zero, set_cons_succ, i64_w, i32_w]; rfl
                refine pure_ (i := 55) (N := some 82) (v := ?_) (a' := ?_) (V5 72057594037927935) rfl rfl (any_of HT_.out (by kernel_rfl)) (fun _ _ _ h => h) (Or.inl ⟨by rfl, ?_⟩) ?_ ?_; rotate_left
                · intro w'; go_simp; with_reducible rfl
                rotate_left
                · simp only [Act.put, setIfInBounds_toArray, set_cons_zero, set_cons_succ, i64_w, i32_w]; rfl
                refine pure_ (i := 56) (N := some 83) (v := ?_) (a' := ?_) (V5 144115188075855871) rfl rfl (any_of HT_.out (by kernel_rfl)) (fun _ _ _ h => h) (Or.inl ⟨by rfl, ?_⟩) ?_ ?_; rotate_left
                · intro w'; go_simp; with_reducible rfl
                rotate_left
                · simp only [Act.put, setIfInBounds_toArray, set_cons_zero, set_cons_succ, i64_w, i32_w]; rfl
                refine pure_ (i := 58) (N := some 85) (v := ?_) (a' := ?_) (V5 432345564227567615) rfl rfl (any_of HT_.out (by kernel_rfl)) (fun _ _ _ h => h) (Or.inl ⟨by rfl, ?_⟩) ?_ ?_; rotate_left
                · intro w'; go_simp; with_reducible rfl
                rotate_left
                · simp only [Act.put, setIfInBounds_toArray, set_cons_zero, set_cons_succ, i64_w, i32_w]; rfl
                refine take_ (i := 57) (N := some 84) (v := .agg mc2) (a' := ?_) (V5 576460752303423487) rfl rfl (take_ofW HT_.out HW_.out (by kernel_rfl)) (fun _ _ _ h => h) (Or.inl ⟨by rfl, fun w' hs => Go.Proofs.Ythapknnppabdaaa.Fill.row_yields 29 _ rfl p2 rfl 29 mc2 (0, 0) _ hs.2.2.2.2.2.2.2.2.2.2 hu29.out rfl HZ.out.2.2.2.2⟩) hHeld ?_ ?_; rotate_left
                · simp only [Act.put, setIfInBounds_toArray, set_cons_zero, set_cons_succ, i64_w, i32_w]; rfl
                refine take_ (i := 60) (N := some 87) (v := .agg mc2) (a' := ?_) (V5 1729382256910270463) rfl rfl (take_ofW HT_.out HW_.out (by kernel_rfl)) (fun _ _ _ h => h) (Or.inl ⟨by rfl, fun w' hs => Go.Proofs.Ythapknnppabdaaa.Fill.row_yields 29 _ rfl p2 rfl 29 mc2 (0, 0) _ hs.2.2.2.2.2.2.2.2.2.2 hu29.out rfl HZ.out.2.2.2.2⟩) hHeld ?_ ?_; rotate_left
                · simp only [Act.put, setIfInBounds_toArray, set_cons_zero, set_cons_succ, i64_w, i32_w]; rfl
                refine one_ (i := 59) (N := some 86) (V5 2305843009213693951) rfl rfl (one_of HT_.out (by kernel_rfl)) (by decide) (fun K hK => ?_)
                refine goes_ Try.func13 (by kernel_rfl) rfl #[.agg mc2, .agg #[.string ⟨#[]⟩, .string ⟨#[]⟩, .string ⟨#[]⟩, .slice none 0 0, .slice none 0 0]] (by rfl) rfl rfl (by (try simp only [List.map_toArray, List.map_cons, List.map_nil]); first | done | rfl) ?_
                with_reducible refine (H13.out _ hbd).mono ?_
                rintro e w120 ⟨nc, rfl, hk13, hb⟩
                have HK13 := Aside0.mk hk13; clear hk13
                refine ⟨_, rfl, ?_⟩
                have hbn := below_step hbd hb; clear hbd hHeld hb; have hbd := hbn; clear hbn
                refine hK.out _ _ (HKp.out _ hbd) (fun hHeld => ?_)
                clear hK K
                refine norm_ (a' := ?_) ?_ ?_; rotate_left
                · show Act.put _ (some 86) _ = _
                  simp only [Act.put, setIfInBounds_toArray, set_cons_zero, set_cons_succ, i64_w, i32_w]; rfl
                refine one_ (i := 61) (N := some 88) (V5 4611686018427387903) rfl rfl (one_of HT_.out (by kernel_rfl)) (by decide) (fun K hK => ?_)
                refine goes_ Try.func11 (by kernel_rfl) rfl #[.agg nc, .agg mc2] (by rfl) rfl rfl (by (try simp only [List.map_toArray, List.map_cons, List.map_nil]); first | done | rfl) ?_
                with_reducible refine (H11.out _ _ hbd HK13.out).mono ?_
                rintro e w121 ⟨rfl, hb⟩
                refine ⟨_, rfl, ?_⟩
                have hbn := below_step hbd hb; clear hbd hHeld hb; have hbd := hbn; clear hbn
                refine hK.out _ _ (HKp.out _ hbd) (fun hHeld => ?_)
                clear hK K
                refine norm_ (a' := ?_) ?_ ?_; rotate_left
                · show Act.put _ (some 88) _ = _
                  simp only [Act.put, setIfInBounds_toArray, set_cons_zero, set_cons_succ, i64_w, i32_w]; rfl
                refine pure_ (i := 62) (N := some 89) (v := ?_) (a' := ?_) (V5 9223372036854775807) rfl rfl (any_of HT_.out (by kernel_rfl)) (fun _ _ _ h => h) (Or.inl ⟨by rfl, ?_⟩) ?_ ?_; rotate_left
                · intro w'; go_simp; with_reducible rfl
                rotate_left
                · simp only [Act.put, setIfInBounds_toArray, set_cons_zero, set_cons_succ, i64_w, i32_w]; rfl
                refine pure_ (i := 63) (N := some 4) (v := ?_) (a' := ?_) (V5 18446744073709551615) rfl rfl (any_of HT_.out (by kernel_rfl)) (fun _ _ _ h => h) (Or.inl ⟨by rfl, ?_⟩) ?_ ?_; rotate_left
                · intro w'; go_simp; with_reducible rfl
                rotate_left
                · simp only [Act.put, setIfInBounds_toArray, set_cons_zero, set_cons_succ, i64_w, i32_w]; rfl
                refine done_ (done_of HT_.out (by kernel_rfl)) ?_
                try go_wp2
                go_ret
                exact ⟨rfl, below_step HB5.out hbd⟩
            · have c4p : y.f4.length > 0 := by omega
              have H21' := Aside0.mk (H21.out c4p)
              have c4b : ((y.f4.length : Int) == 0) = false := beq_eq_false_iff_ne.2 (by omega)
              clear c4p
              clear c4' H21
              as_aux_lemma =>
                go_wp2_with fail
                have HKp : Aside0 (∀ w', Below w5.heap.size w5 w' → w'.cell? ⟨p5, 1, none⟩ = some (.int .i64 bx.f1) ∧ w'.cell? ⟨p5, 8, none⟩ = some (.string ⟨#[]⟩) ∧ w'.cell? ⟨p5, 9, none⟩ = some (.string ⟨#[]⟩) ∧ w'.cell? ⟨p5, 18, none⟩ = some (.string n17) ∧ w'.cell? ⟨p5, 19, none⟩ = some (.slice B19 L18 d19) ∧ w'.cell? ⟨p5, 20, none⟩ = some (.slice B20 L19 d20) ∧ w'.cell? ⟨p3, 0, none⟩ = some (.string y.f0) ∧ w'.cell? ⟨p3, 3, none⟩ = some (.slice A3 y.f3.length c3) ∧ w'.cell? ⟨p3, 4, none⟩ = some (.slice A4 y.f4.length c4) ∧ w'.cell? ⟨p2, 1, none⟩ = some (.int .i64 bx.f1) ∧ w'.heap[p2]? = some (.cells mc2 29 (0, 0))) := ⟨fun w' hb => ⟨(hb.cell (World.block_lt_of_cell? w5 _ z1)).trans z1, (hb.cell (World.block_lt_of_cell? w5 _ z8)).trans z8, (hb.cell (World.block_lt_of_cell? w5 _ z9)).trans z9, (hb.cell (World.block_lt_of_cell? w5 _ z18)).trans z18, (hb.cell (World.block_lt_of_cell? w5 _ z19)).trans z19, (hb.cell (World.block_lt_of_cell? w5 _ z20)).trans z20, (hb.cell (World.block_lt_of_cell? w5 _ q0)).trans q0, (hb.cell (World.block_lt_of_cell? w5 _ q3)).trans q3, (hb.cell (World.block_lt_of_cell? w5 _ q4)).trans q4, (hb.cell (World.block_lt_of_cell? w5 _ y1)).trans y1, (HW.out w' hb).2.1⟩⟩
                clear z1 z8 z9 z18 z19 z20 q0 q3 q4 y1
                refine start_ (n := 64) (ds := []) (S := fun w' => w'.cell? ⟨p5, 1, none⟩ = some (.int .i64 bx.f1) ∧ w'.cell? ⟨p5, 8, none⟩ = some (.string ⟨#[]⟩) ∧ w'.cell? ⟨p5, 9, none⟩ = some (.string ⟨#[]⟩) ∧ w'.cell? ⟨p5, 18, none⟩ = some (.string n17) ∧ w'.cell? ⟨p5, 19, none⟩ = some (.slice B19 L18 d19) ∧ w'.cell? ⟨p5, 20, none⟩ = some (.slice B20 L19 d20) ∧ w'.cell? ⟨p3, 0, none⟩ = some (.string y.f0) ∧ w'.cell? ⟨p3, 3, none⟩ = some (.slice A3 y.f3.length c3) ∧ w'.cell? ⟨p3, 4, none⟩ = some (.slice A4 y.f4.length c4) ∧ w'.cell? ⟨p2, 1, none⟩ = some (.int .i64 bx.f1) ∧ w'.heap[p2]? = some (.cells mc2 29 (0, 0))) (V5 0) (by rfl) (by rfl) (by kernel_rfl) (HKp.out _ hbd) (fun hHeld => ?_); refine with_tabW tab5 bits5 (fun HT_ HW_ => ?_)
                generalize w5.drew = wd at hbd hHeld ⊢
                refine one_ (i := 0) (N := some 27) (V5 1) rfl rfl (one_of HT_.out (by kernel_rfl)) (by decide) (fun K hK => ?_)
                refine goes_ Try.func8 (by kernel_rfl) rfl #[] (by rfl) rfl rfl (by (try simp only [List.map_toArray, List.map_cons, List.map_nil]); first | done | rfl) ?_
                with_reducible refine (H8.out _).mono ?_
                rintro e w60 ⟨rfl, hb⟩
                refine ⟨_, rfl, ?_⟩
                have hbn := below_step hbd hb; clear hbd hHeld hb; have hbd := hbn; clear hbn
                refine hK.out _ _ (HKp.out _ hbd) (fun hHeld => ?_)
                clear hK K
                refine norm_ (a' := ?_) ?_ ?_; rotate_left
                · show Act.put _ (some 27) _ = _
                  simp only [Act.put, setIfInBounds_toArray, set_cons_zero, set_cons_succ, i64_w, i32_w]; rfl
                refine pure_ (i := 1) (N := some 28) (v := ?_) (a' := ?_) (V5 3) rfl rfl (any_of HT_.out (by kernel_rfl)) (fun _ _ _ h => h) (Or.inl ⟨by rfl, ?_⟩) ?_ ?_; rotate_left
                · intro w'; go_simp; with_reducible rfl
                rotate_left
                · simp only [Act.put, setIfInBounds_toArray, set_cons_zero, set_cons_succ, i64_w, i32_w]; rfl
                refine pure_ (i := 2) (N := some 29) (v := ?_) (a' := ?_) (V5 7) rfl rfl (any_of HT_.out (by kernel_rfl)) (fun _ _ _ h => h) (Or.inl ⟨by rfl, ?_⟩) ?_ ?_; rotate_left
                · intro w'; go_simp; with_reducible rfl
                rotate_left
                · simp only [Act.put, setIfInBounds_toArray, set_cons_zero, set_cons_succ, i64_w, i32_w]; rfl
                refine take_ (i := 3) (N := some 30) (v := ?_) (a' := ?_) (V5 15) rfl rfl (take_ofW HT_.out HW_.out (by kernel_rfl)) (fun _ _ _ h => h) (Or.inl ⟨by rfl, ?_⟩) hHeld ?_ ?_; rotate_left
                · rintro w' ⟨s0, s1, s2, s3, s4, s5, s6, s7, s8, s9, -⟩; go_simp; with_reducible rfl
                rotate_left
                · simp only [Act.put, setIfInBounds_toArray, set_cons_zero, set_cons_succ, i64_w, i32_w]; rfl
                refine pure_ (i := 4) (N := some 31) (v := ?_) (a' := ?_) (V5 31) rfl rfl (any_of HT_.out (by kernel_rfl)) (fun _ _ _ h => h) (Or.inl ⟨by rfl, ?_⟩) ?_ ?_; rotate_left
                · intro w'; go_simp; with_reducible rfl
                rotate_left
                · simp only [Act.put, setIfInBounds_toArray, set_cons_zero, set_cons_succ, i64_w, i32_w]; rfl
                refine pure_ (i := 5) (N := some 32) (v := ?_) (a' := ?_) (V5 63) rfl rfl (any_of HT_.out (by kernel_rfl)) (fun _ _ _ h => h) (Or.inl ⟨by rfl, ?_⟩) ?_ ?_; rotate_left
                · intro w'; go_simp; with_reducible rfl
                rotate_left
                · simp only [Act.put, setIfInBounds_toArray, set_cons_zero, set_cons_succ, i64_w, i32_w]; rfl
                refine pure_ (i := 6) (N := some 33) (v := ?_) (a' := ?_) (V5 127) rfl rfl (any_of HT_.out (by kernel_rfl)) (fun _ _ _ h => h) (Or.inl ⟨by rfl, ?_⟩) ?_ ?_; rotate_left
                · intro w'; go_simp; with_reducible rfl
                rotate_left
                · simp only [Act.put, setIfInBounds_toArray, set_cons_zero, set_cons_succ, i64_w, i32_w]; rfl
                refine pure_ (i := 7) (N := some 34) (v := ?_) (a' := ?_) (V5 255) rfl rfl (any_of HT_.out (by kernel_rfl)) (fun _ _ _ h => h) (Or.inl ⟨by rfl, ?_⟩) ?_ ?_; rotate_left
                · intro w'; go_simp; with_reducible rfl
                rotate_left
                · simp only [Act.put, setIfInBounds_toArray, set_cons_zero, set_cons_succ, i64_w, i32_w]; rfl
                refine take_ (i := 8) (N := some 35) (v := ?_) (a' := ?_) (V5 511) rfl rfl (take_ofW HT_.out HW_.out (by kernel_rfl)) (fun _ _ _ h => h) (Or.inl ⟨by rfl, ?_⟩) hHeld ?_ ?_; rotate_left
                · rintro w' ⟨s0, s1, s2, s3, s4, s5, s6, s7, s8, s9, -⟩; go_simp; with_reducible rfl
                rotate_left
                · simp only [Act.put, setIfInBounds_toArray, set_cons_zero, set_cons_succ, i64_w, i32_w]; rfl
                refine pure_ (i := 9) (N := some 36) (v := ?_) (a' := ?_) (V5 1023) rfl rfl (any_of HT_.out (by kernel_rfl)) (fun _ _ _ h => h) (Or.inl ⟨by rfl, ?_⟩) ?_ ?_; rotate_left
                · intro w'; go_simp; with_reducible rfl
                rotate_left
                · simp only [Act.put, setIfInBounds_toArray, set_cons_zero, set_cons_succ, i64_w, i32_w]; rfl
                refine pure_ (i := 10) (N := some 37) (v := ?_) (a' := ?_) (V5 2047) rfl rfl (any_of HT_.out (by kernel_rfl)) (fun _ _ _ h => h) (Or.inl ⟨by rfl, ?_⟩) ?_ ?_; rotate_left
                · intro w'; go_simp; with_reducible rfl
                rotate_left
                · simp only [Act.put, setIfInBounds_toArray, set_cons_zero, set_cons_succ, i64_w, i32_w]; rfl
                refine pure_ (i := 11) (N := some 38) (v := ?_) (a' := ?_) (V5 4095) rfl rfl (any_of HT_.out (by kernel_rfl)) (fun _ _ _ h => h) (Or.inl ⟨by rfl, ?_⟩) ?_ ?_; rotate_left
                · intro w'; go_simp; with_reducible rfl
                rotate_left
                · simp only [Act.put, setIfInBounds_toArray, set_cons_zero, set_cons_succ, i64_w, i32_w]; rfl
                refine pure_ (i := 12) (N := some 39) (v := ?_) (a' := ?_) (V5 8191) rfl rfl (any_of HT_.out (by kernel_rfl)) (fun _ _ _ h => h) (Or.inl ⟨by rfl, ?_⟩) ?_ ?_; rotate_left
                · intro w'; go_simp; with_reducible rfl
                rotate_left
                · simp only [Act.put, setIfInBounds_toArray, set_cons_zero, set_cons_succ, i64_w, i32_w]; rfl
                refine take_ (i := 13) (N := some 40) (v := ?_) (a' := ?_) (V5 16383) rfl rfl (take_ofW HT_.out HW_.out (by kernel_rfl)) (fun _ _ _ h => h) (Or.inl ⟨by rfl, ?_⟩) hHeld ?_ ?_; rotate_left
                · rintro w' ⟨s0, s1, s2, s3, s4, s5, s6, s7, s8, s9, -⟩; go_simp; with_reducible rfl
                rotate_left
                · simp only [Act.put, setIfInBounds_toArray, set_cons_zero, set_cons_succ, i64_w, i32_w]; rfl
                refine pure_ (i := 14) (N := some 41) (v := ?_) (a' := ?_) (V5 32767) rfl rfl (any_of HT_.out (by kernel_rfl)) (fun _ _ _ h => h) (Or.inl ⟨by rfl, ?_⟩) ?_ ?_; rotate_left
                · intro w'; go_simp; with_reducible rfl
                rotate_left
                · simp only [Act.put, setIfInBounds_toArray, set_cons_zero, set_cons_succ, i64_w, i32_w]; rfl
                refine pure_ (i := 15) (N := some 42) (v := ?_) (a' := ?_) (V5 65535) rfl rfl (any_of HT_.out (by kernel_rfl)) (fun _ _ _ h => h) (Or.inl ⟨by rfl, ?_⟩) ?_ ?_; rotate_left
                · intro w'; go_simp; with_reducible rfl
                rotate_left
                · simp only [Act.put, setIfInBounds_toArray, set_cons_zero, set_cons_succ, i64_w, i32_w]; rfl
                refine pure_ (i := 16) (N := some 43) (v := undef) (a' := ?_) (V5 131071) rfl rfl (any_of HT_.out (by kernel_rfl)) (fun _ _ _ h => h) (Or.inr ⟨by rfl, rfl⟩) ?_ ?_; rotate_left
                · simp only [Act.put, setIfInBounds_toArray, set_cons_zero, set_cons_succ, i64_w, i32_w]; rfl
                refine pure_ (i := 17) (N := some 44) (v := undef) (a' := ?_) (V5 262143) rfl rfl (any_of HT_.out (by kernel_rfl)) (fun _ _ _ h => h) (Or.inr ⟨by rfl, rfl⟩) ?_ ?_; rotate_left
                · simp only [Act.put, setIfInBounds_toArray, set_cons_zero, set_cons_succ, i64_w, i32_w]; rfl
                refine pure_ (i := 18) (N := some 45) (v := undef) (a' := ?_) (V5 524287) rfl rfl (any_of HT_.out (by kernel_rfl)) (fun _ _ _ h => h) (Or.inr ⟨by rfl, rfl⟩) ?_ ?_; rotate_left
                · simp only [Act.put, setIfInBounds_toArray, set_cons_zero, set_cons_succ, i64_w, i32_w]; rfl
                refine pure_ (i := 19) (N := some 46) (v := undef) (a' := ?_) (V5 1048575) rfl rfl (any_of HT_.out (by kernel_rfl)) (fun _ _ _ h => h) (Or.inr ⟨by rfl, rfl⟩) ?_ ?_; rotate_left
                · simp only [Act.put, setIfInBounds_toArray, set_cons_zero, set_cons_succ, i64_w, i32_w]; rfl
                refine pure_ (i := 20) (N := some 47) (v := undef) (a' := ?_) (V5 2097151) rfl rfl (any_of HT_.out (by kernel_rfl)) (fun _ _ _ h => h) (Or.inr ⟨by rfl, rfl⟩) ?_ ?_; rotate_left
                · simp only [Act.put, setIfInBounds_toArray, set_cons_zero, set_cons_succ, i64_w, i32_w]; rfl
                refine pure_ (i := 21) (N := some 48) (v := ?_) (a' := ?_) (V5 4194303) rfl rfl (any_of HT_.out (by kernel_rfl)) (fun _ _ _ h => h) (Or.inl ⟨by rfl, ?_⟩) ?_ ?_; rotate_left
                · intro w'; go_simp; with_reducible rfl
                rotate_left
                · simp only [Act.put, setIfInBounds_toArray, set_cons_zero, set_cons_succ, i64_w, i32_w]; rfl
                refine pure_ (i := 22) (N := some 49) (v := ?_) (a' := ?_) (V5 8388607) rfl rfl (any_of HT_.out (by kernel_rfl)) (fun _ _ _ h => h) (Or.inl ⟨by rfl, ?_⟩) ?_ ?_; rotate_left
                · intro w'; go_simp; with_reducible rfl
                rotate_left
                · simp only [Act.put, setIfInBounds_toArray, set_cons_zero, set_cons_succ, i64_w, i32_w]; rfl
                refine pure_ (i := 23) (N := some 50) (v := ?_) (a' := ?_) (V5 16777215) rfl rfl (any_of HT_.out (by kernel_rfl)) (fun _ _ _ h => h) (Or.inl ⟨by rfl, ?_⟩) ?_ ?_; rotate_left
                · intro w'; go_simp; with_reducible rfl
                rotate_left
                · simp only [Act.put, setIfInBounds_toArray, set_cons_zero, set_cons_succ, i64_w, i32_w]; rfl
                refine pure_ (i := 24) (N := some 51) (v := ?_) (a' := ?_) (V5 33554431) rfl rfl (any_of HT_.out (by kernel_rfl)) (fun _ _ _ h => h) (Or.inl ⟨by rfl, ?_⟩) ?_ ?_; rotate_left
                · intro w'; go_simp; with_reducible rfl
                rotate_left
                · simp only [Act.put, setIfInBounds_toArray, set_cons_zero, set_cons_succ, i64_w, i32_w]; rfl
                refine take_ (i := 25) (N := some 52) (v := ?_) (a' := ?_) (V5 67108863) rfl rfl (take_ofW HT_.out HW_.out (by kernel_rfl)) (fun _ _ _ h => h) (Or.inl ⟨by rfl, ?_⟩) hHeld ?_ ?_; rotate_left
                · rintro w' ⟨s0, s1, s2, s3, s4, s5, s6, s7, s8, s9, -⟩; go_simp; with_reducible rfl
                rotate_left
                · simp only [Act.put, setIfInBounds_toArray, set_cons_zero, set_cons_succ, i64_w, i32_w]; rfl
                refine pure_ (i := 26) (N := some 53) (v := ?_) (a' := ?_) (V5 134217727) rfl rfl (any_of HT_.out (by kernel_rfl)) (fun _ _ _ h => h) (Or.inl ⟨by rfl, ?_⟩) ?_ ?_; rotate_left
                · intro w'; go_simp; with_reducible rfl
                rotate_left
                · simp only [Act.put, setIfInBounds_toArray, set_cons_zero, set_cons_succ, i64_w, i32_w]; rfl
                refine pure_ (i := 27) (N := some 54) (v := ?_) (a' := ?_) (V5 268435455) rfl rfl (any_of HT_.out (by kernel_rfl)) (fun _ _ _ h => h) (Or.inl ⟨by rfl, ?_⟩) ?_ ?_; rotate_left
                · intro w'; go_simp; with_reducible rfl
                rotate_left
                · simp only [Act.put, setIfInBounds_toArray, set_cons_zero, set_cons_succ, i64_w, i32_w]; rfl
                refine pure_ (i := 28) (N := some 55) (v := ?_) (a' := ?_) (V5 536870911) rfl rfl (any_of HT_.out (by kernel_rfl)) (fun _ _ _ h => h) (Or.inl ⟨by rfl, ?_⟩) ?_ ?_; rotate_left
                · intro w'; go_simp; with_reducible rfl
                rotate_left
                · simp only [Act.put, setIfInBounds_toArray, set_cons_zero, set_cons_succ, i64_w, i32_w]; rfl
                refine pure_ (i := 29) (N := some 56) (v := undef) (a' := ?_) (V5 1073741823) rfl rfl (any_of HT_.out (by kernel_rfl)) (fun _ _ _ h => h) (Or.inr ⟨by rfl, rfl⟩) ?_ ?_; rotate_left
                · simp only [Act.put, setIfInBounds_toArray, set_cons_zero, set_cons_succ, i64_w, i32_w]; rfl
                refine pure_ (i := 30) (N := some 57) (v := undef) (a' := ?_) (V5 2147483647) rfl rfl (any_of HT_.out (by kernel_rfl)) (fun _ _ _ h => h) (Or.inr ⟨by rfl, rfl⟩) ?_ ?_; rotate_left
                · simp only [Act.put, setIfInBounds_toArray, set_cons_zero, set_cons_succ, i64_w, i32_w]; rfl
                refine pure_ (i := 31) (N := some 58) (v := undef) (a' := ?_) (V5 4294967295) rfl rfl (any_of HT_.out (by kernel_rfl)) (fun _ _ _ h => h) (Or.inr ⟨by rfl, rfl⟩) ?_ ?_; rotate_left
                · simp only [Act.put, setIfInBounds_toArray, set_cons_zero, set_cons_succ, i64_w, i32_w]; rfl
                refine pure_ (i := 32) (N := some 59) (v := undef) (a' := ?_) (V5 8589934591) rfl rfl (any_of HT_.out (by kernel_rfl)) (fun _ _ _ h => h) (Or.inr ⟨by rfl, rfl⟩) ?_ ?_; rotate_left
                · simp only [Act.put, setIfInBounds_toArray, set_cons_zero, set_cons_succ, i64_w, i32_w]; rfl
                refine pure_ (i := 33) (N := some 60) (v := undef) (a' := ?_) (V5 17179869183) rfl rfl (any_of HT_.out (by kernel_rfl)) (fun _ _ _ h => h) (Or.inr ⟨by rfl, rfl⟩) ?_ ?_; rotate_left
                · simp only [Act.put, setIfInBounds_toArray, set_cons_zero, set_cons_succ, i64_w, i32_w]; rfl
                refine pure_ (i := 34) (N := some 61) (v := ?_) (a' := ?_) (V5 34359738367) rfl rfl (any_of HT_.out (by kernel_rfl)) (fun _ _ _ h => h) (Or.inl ⟨by rfl, ?_⟩) ?_ ?_; rotate_left
                · intro w'; go_simp; with_reducible rfl
                rotate_left
                · simp only [Act.put, setIfInBounds_toArray, set_cons_zero, set_cons_succ, i64_w, i32_w]; rfl
                refine pure_ (i := 35) (N := some 62) (v := ?_) (a' := ?_) (V5 68719476735) rfl rfl (any_of HT_.out (by kernel_rfl)) (fun _ _ _ h => h) (Or.inl ⟨by rfl, ?_⟩) ?_ ?_; rotate_left
                · intro w'; go_simp; with_reducible rfl
                rotate_left
                · simp only [Act.put, setIfInBounds_toArray, set_cons_zero, set_cons_succ, i64_w, i32_w]; rfl
                refine pure_ (i := 36) (N := some 63) (v := ?_) (a' := ?_) (V5 137438953471) rfl rfl (any_of HT_.out (by kernel_rfl)) (fun _ _ _ h => h) (Or.inl ⟨by rfl, ?_⟩) ?_ ?_; rotate_left
                · intro w'; go_simp; with_reducible rfl
                rotate_left
                · simp only [Act.put, setIfInBounds_toArray, set_cons_zero, set_cons_succ, i64_w, i32_w]; rfl
                refine pure_ (i := 37) (N := some 64) (v := ?_) (a' := ?_) (V5 274877906943) rfl rfl (any_of HT_.out (by kernel_rfl)) (fun _ _ _ h => h) (Or.inl ⟨by rfl, ?_⟩) ?_ ?_; rotate_left
                · intro w'; go_simp; with_reducible rfl
                rotate_left
                · simp only [Act.put, setIfInBounds_toArray, set_cons_zero, set_cons_succ, i64_w, i32_w]; rfl
                refine take_ (i := 38) (N := some 65) (v := ?_) (a' := ?_) (V5 549755813887) rfl rfl (take_ofW HT_.out HW_.out (by kernel_rfl)) (fun _ _ _ h => h) (Or.inl ⟨by rfl, ?_⟩) hHeld ?_ ?_; rotate_left
                · rintro w' ⟨s0, s1, s2, s3, s4, s5, s6, s7, s8, s9, -⟩; go_simp; with_reducible rfl
                rotate_left
                · simp only [Act.put, setIfInBounds_toArray, set_cons_zero, set_cons_succ, i64_w, i32_w]; rfl
                refine pure_ (i := 39) (N := some 66) (v := ?_) (a' := ?_) (V5 1099511627775) rfl rfl (any_of HT_.out (by kernel_rfl)) (fun _ _ _ h => h) (Or.inl ⟨by rfl, ?_⟩) ?_ ?_; rotate_left
                · intro w'; go_simp; with_reducible rfl
                rotate_left
                · simp only [Act.put, setIfInBounds_toArray, set_cons_zero, set_cons_succ, i64_w, i32_w]; rfl
                refine pure_ (i := 40) (N := some 67) (v := ?_) (a' := ?_) (V5 2199023255551) rfl rfl (any_of HT_.out (by kernel_rfl)) (fun _ _ _ h => h) (Or.inl ⟨by rfl, ?_⟩) ?_ ?_; rotate_left
                · intro w'; go_simp; with_reducible rfl
                rotate_left
                · simp only [Act.put, setIfInBounds_toArray, set_cons_zero, set_cons_succ, i64_w, i32_w]; rfl
                refine pure_ (i := 41) (N := some 68) (v := ?_) (a' := ?_) (V5 4398046511103) rfl rfl (any_of HT_.out (by kernel_rfl)) (fun _ _ _ h => h) (Or.inl ⟨by rfl, ?_⟩) ?_ ?_; rotate_left
                · intro w'; go_simp; with_reducible rfl
                rotate_left
                · simp only [Act.put, setIfInBounds_toArray, set_cons_zero, set_cons_succ, i64_w, i32_w]; rfl
                refine pure_ (i := 42) (N := some 69) (v := ?_) (a' := ?_) (V5 8796093022207) rfl rfl (any_of HT_.out (by kernel_rfl)) (fun _ _ _ h => h) (Or.inl ⟨by rfl, ?_⟩) ?_ ?_; rotate_left
                · intro w'; go_simp; with_reducible rfl
                rotate_left
                · simp only [Act.put, setIfInBounds_toArray, set_cons_zero, set_cons_succ, i64_w, i32_w]; rfl
                refine pure_ (i := 44) (N := some 71) (v := ?_) (a' := ?_) (V5 26388279066623) rfl rfl (any_of HT_.out (by kernel_rfl)) (fun _ _ _ h => h) (Or.inl ⟨by rfl, ?_⟩) ?_ ?_; rotate_left
                · intro w'; go_simp; with_reducible rfl
                rotate_left
                · simp only [Act.put, setIfInBounds_toArray, set_cons_zero, set_cons_succ, i64_w, i32_w]; rfl
                refine take_ (i := 43) (N := some 70) (v := ?_) (a' := ?_) (V5 35184372088831) rfl rfl (take_ofW HT_.out HW_.out (by kernel_rfl)) (fun _ _ _ h => h) (Or.inl ⟨by rfl, ?_⟩) hHeld ?_ ?_; rotate_left
                · rintro w' ⟨s0, s1, s2, s3, s4, s5, s6, s7, s8, s9, -⟩; go_simp; with_reducible rfl
                rotate_left
                · simp only [Act.put, setIfInBounds_toArray, set_cons_zero, set_cons_succ, i64_w, i32_w]; rfl
                refine take_ (i := 45) (N := some 72) (v := ?_) (a' := ?_) (V5 70368744177663) rfl rfl (take_ofW HT_.out HW_.out (by kernel_rfl)) (fun _ _ _ h => h) (Or.inl ⟨by rfl, ?_⟩) hHeld ?_ ?_; rotate_left
                · rintro w' ⟨s0, s1, s2, s3, s4, s5, s6, s7, s8, s9, -⟩; go_simp; with_reducible rfl
                rotate_left
                · simp only [Act.put, setIfInBounds_toArray, set_cons_zero, set_cons_succ, i64_w, i32_w]; rfl
                refine one_ (i := 46) (N := some 73) (V5 140737488355327) rfl rfl (one_of HT_.out (by kernel_rfl)) (by decide) (fun K hK => ?_)
                refine goes_ Try.func21 (by kernel_rfl) rfl #[.slice B20 L19 d20, .slice A4 y.f4.length c4, .func (.func 22) #[] #[]] (by rfl) rfl rfl (by (try simp only [List.map_toArray, List.map_cons, List.map_nil]); first | done | rfl) ?_
                with_reducible refine (H21'.out _ hbd).mono ?_
                rintro e w106 ⟨rfl, hb⟩
                refine ⟨_, rfl, ?_⟩
                have hbn := below_step hbd hb; clear hbd hHeld hb; have hbd := hbn; clear hbn
                refine hK.out _ _ (HKp.out _ hbd) (fun hHeld => ?_)
                clear hK K
                refine norm_ (a' := ?_) ?_ ?_; rotate_left
                · show Act.put _ (some 73) _ = _
                  simp only [Act.put, setIfInBounds_toArray, set_cons_zero, set_cons_succ, i64_w, i32_w]; rfl
                refine pure_ (i := 47) (N := some 74) (v := ?_) (a' := ?_) (V5 281474976710655) rfl rfl (any_of HT_.out (by kernel_rfl)) (fun _ _ _ h => h) (Or.inl ⟨by rfl, ?_⟩) ?_ ?_; rotate_left
                · intro w'; go_simp; with_reducible rfl
                rotate_left
                · simp only [Act.put, setIfInBounds_toArray, set_cons_zero, set_cons_succ, i64_w, i32_w]; rfl
                refine pure_ (i := 48) (N := some 75) (v := ?_) (a' := ?_) (V5 562949953421311) rfl rfl (any_of HT_.out (by kernel_rfl)) (fun _ _ _ h => h) (Or.inl ⟨by rfl, ?_⟩) ?_ ?_; rotate_left
                · intro w'; go_simp; with_reducible rfl
                rotate_left
                · simp only [Act.put, setIfInBounds_toArray, set_cons_zero, set_cons_succ, i64_w, i32_w]; rfl
                refine pure_ (i := 49) (N := some 76) (v := ?_) (a' := ?_) (V5 1125899906842623) rfl rfl (any_of HT_.out (by kernel_rfl)) (fun _ _ _ h => h) (Or.inl ⟨by rfl, ?_⟩) ?_ ?_; rotate_left
                · intro w'; go_simp; with_reducible rfl
                rotate_left
                · simp only [Act.put, setIfInBounds_toArray, set_cons_zero, set_cons_succ, i64_w, i32_w]; rfl
                refine pure_ (i := 50) (N := some 77) (v := ?_) (a' := ?_) (V5 2251799813685247) rfl rfl (any_of HT_.out (by kernel_rfl)) (fun _ _ _ h => h) (Or.inl ⟨by rfl, ?_⟩) ?_ ?_; rotate_left
                · intro w'; go_simp; with_reducible rfl
                rotate_left
                · simp only [Act.put, setIfInBounds_toArray, set_cons_zero, set_cons_succ, i64_w, i32_w]; rfl
                refine pure_ (i := 52) (N := some 79) (v := ?_) (a' := ?_) (V5 6755399441055743) rfl rfl (any_of HT_.out (by kernel_rfl)) (fun _ _ _ h => h) (Or.inl ⟨by rfl, ?_⟩) ?_ ?_; rotate_left
                · intro w'; go_simp; with_reducible rfl
                rotate_left
                · simp only [Act.put, setIfInBounds_toArray, set_cons_zero, set_cons_succ, i64_w, i32_w]; rfl
                refine take_ (i := 51) (N := some 78) (v := ?_) (a' := ?_) (V5 9007199254740991) rfl rfl (take_ofW HT_.out HW_.out (by kernel_rfl)) (fun _ _ _ h => h) (Or.inl ⟨by rfl, ?_⟩) hHeld ?_ ?_; rotate_left
                · rintro w' ⟨s0, s1, s2, s3, s4, s5, s6, s7, s8, s9, -⟩; go_simp; with_reducible rfl
                rotate_left
                · simp only [Act.put, setIfInBounds_toArray, set_cons_zero, set_cons_succ, i64_w, i32_w]; rfl
                refine take_ (i := 53) (N := some 80) (v := ?_) (a' := ?_) (V5 18014398509481983) rfl rfl (take_ofW HT_.out HW_.out (by kernel_rfl)) (fun _ _ _ h => h) (Or.inl ⟨by rfl, ?_⟩) hHeld ?_ ?_; rotate_left
                · rintro w' ⟨s0, s1, s2, s3, s4, s5, s6, s7, s8, s9, -⟩; go_simp; with_reducible rfl
                rotate_left
                · simp only [Act.put, setIfInBounds_toArray, set_cons_zero, set_cons_succ, i64_w, i32_w]; rfl
                refine pure_ (i := 54) (N := some 81) (v := ?_) (a' := ?_) (V5 36028797018963967) rfl rfl (any_of HT_.out (by kernel_rfl)) (fun _ _ _ h => h) (Or.inl ⟨by rfl, ?_⟩) ?_ ?_; rotate_left
                · intro w'; go_simp; with_reducible rfl
                rotate_left
                · simp only [Act.put, setIfInBounds_toArray, set_cons_zero, set_cons_succ, i64_w, i32_w]; rfl
                refine pure_ (i := 55) (N := some 82) (v := ?_) (a' := ?_) (V5 72057594037927935) rfl rfl (any_of HT_.out (by kernel_rfl)) (fun _ _ _ h => h) (Or.inl ⟨by rfl, ?_⟩) ?_ ?_; rotate_left
                · intro w'; go_simp; with_reducible rfl
                rotate_left
                · simp only [Act.put, setIfInBounds_toArray, set_cons_zero, set_cons_succ, i64_w, i32_w]; rfl
                refine pure_ (i := 56) (N := some 83) (v := ?_) (a' := ?_) (V5 144115188075855871) rfl rfl (any_of HT_.out (by kernel_rfl)) (fun _ _ _ h => h) (Or.inl ⟨by rfl, ?_⟩) ?_ ?_; rotate_left
                · intro w'; go_simp; with_reducible rfl
                rotate_left
                · simp only [Act.put, setIfInBounds_toArray, set_cons_zero, set_cons_succ, i64_w, i32_w]; rfl
                refine pure_ (i := 58) (N := some 85) (v := ?_) (a' := ?_) (V5 432345564227567615) rfl rfl (any_of HT_.out (by kernel_rfl)) (fun _ _ _ h => h) (Or.inl ⟨by rfl, ?_⟩) ?_ ?_; rotate_left
                · intro w'; go_simp; with_reducible rfl
                rotate_left
                · simp only [Act.put, setIfInBounds_toArray, set_cons_zero, set_cons_succ, i64_w, i32_w]; rfl
                refine take_ (i := 57) (N := some 84) (v := .agg mc2) (a' := ?_) (V5 576460752303423487) rfl rfl (take_ofW HT_.out HW_.out (by kernel_rfl)) (fun _ _ _ h => h) (Or.inl ⟨by rfl, fun w' hs => Go.Proofs.Ythapknnppabdaaa.Fill.row_yields 29 _ rfl p2 rfl 29 mc2 (0, 0) _ hs.2.2.2.2.2.2.2.2.2.2 hu29.out rfl HZ.out.2.2.2.2⟩) hHeld ?_ ?_; rotate_left
                · simp only [Act.put, setIfInBounds_toArray, set_cons_zero, set_cons_succ, i64_w, i32_w]; rfl
                refine take_ (i := 60) (N := some 87) (v := .agg mc2) (a' := ?_) (V5 1729382256910270463) rfl rfl (take_ofW HT_.out HW_.out (by kernel_rfl)) (fun _ _ _ h => h) (Or.inl ⟨by rfl, fun w' hs => Go.Proofs.Ythapknnppabdaaa.Fill.row_yields 29 _ rfl p2 rfl 29 mc2 (0, 0) _ hs.2.2.2.2.2.2.2.2.2.2 hu29.out rfl HZ.out.2.2.2.2⟩) hHeld ?_ ?_; rotate_left
                · simp only [Act.put, setIfInBounds_toArray, set_cons_zero, set_cons_succ, i64_w, i32_w]; rfl
                refine one_ (i := 59) (N := some 86) (V5 2305843009213693951) rfl rfl (one_of HT_.out (by kernel_rfl)) (by decide) (fun K hK => ?_)
                refine goes_ Try.func13 (by kernel_rfl) rfl #[.agg mc2, .agg #[.string ⟨#[]⟩, .string ⟨#[]⟩, .string ⟨#[]⟩, .slice none 0 0, .slice none 0 0]] (by rfl) rfl rfl (by (try simp only [List.map_toArray, List.map_cons, List.map_nil]); first | done | rfl) ?_
                with_reducible refine (H13.out _ hbd).mono ?_
                rintro e w120 ⟨nc, rfl, hk13, hb⟩
                have HK13 := Aside0.mk hk13; clear hk13
                refine ⟨_, rfl, ?_⟩
                have hbn := below_step hbd hb; clear hbd hHeld hb; have hbd := hbn; clear hbn
                refine hK.out _ _ (HKp.out _ hbd) (fun hHeld => ?_)
                clear hK K
                refine norm_ (a' := ?_) ?_ ?_; rotate_left
                · show Act.put _ (some 86) _ = _
                  simp only [Act.put, setIfInBounds_toArray, set_cons_zero, set_cons_succ, i64_w, i32_w]; rfl
                refine one_ (i := 61) (N := some 88) (V5 4611686018427387903) rfl rfl (one_of HT_.out (by kernel_rfl)) (by decide) (fun K hK => ?_)
                refine goes_ Try.func11 (by kernel_rfl) rfl #[.agg nc, .agg mc2] (by rfl) rfl rfl (by (try simp only [List.map_toArray, List.map_cons, List.map_nil]); first | done | rfl) ?_
                with_reducible refine (H11.out _ _ hbd HK13.out).mono ?_
                rintro e w121 ⟨rfl, hb⟩
                refine ⟨_, rfl, ?_⟩
                have hbn := below_step hbd hb; clear hbd hHeld hb; have hbd := hbn; clear hbn
                refine hK.out _ _ (HKp.out _ hbd) (fun hHeld => ?_)
                clear hK K
                refine norm_ (a' := ?_) ?_ ?_; rotate_left
                · show Act.put _ (some 88) _ = _
                  simp only [Act.put, setIfInBounds_toArray, set_cons_zero, set_cons_succ, i64_w, i32_w]; rfl
                refine pure_ (i := 62) (N := some 89) (v := ?_) (a' := ?_) (V5 9223372036854775807) rfl rfl (any_of HT_.out (by kernel_rfl)) (fun _ _ _ h => h) (Or.inl ⟨by rfl, ?_⟩) ?_ ?_; rotate_left
                · intro w'; go_simp; with_reducible rfl
                rotate_left
                · simp only [Act.put, setIfInBounds_toArray, set_cons_zero, set_cons_succ, i64_w, i32_w]; rfl
                refine pure_ (i := 63) (N := some 4) (v := ?_) (a' := ?_) (V5 18446744073709551615) rfl rfl (any_of HT_.out (by kernel_rfl)) (fun _ _ _ h => h) (Or.inl ⟨by rfl, ?_⟩) ?_ ?_; rotate_left
                · intro w'; go_simp; with_reducible rfl
                rotate_left
                · simp only [Act.put, setIfInBounds_toArray, set_cons_zero, set_cons_succ, i64_w, i32_w]; rfl
                refine done_ (done_of HT_.out (by kernel_rfl)) ?_
                try go_wp2
                go_ret
                exact ⟨rfl, below_step HB5.out hbd⟩
          · have c3p : y.f3.length > 0 := by omega
            have H20' := Aside0.mk (H20.out c3p)
            have c3b : ((y.f3.length : Int) == 0) = false := beq_eq_false_iff_ne.2 (by omega)
            clear c3p
            clear c3' H20
            by_cases c4' : y.f4.length = 0
            · have c4b : ((y.f4.length : Int) == 0) = true := beq_iff_eq.mpr (by omega)
              clear c4' H21
              as_aux_lemma =>
                go_wp2_with fail
                have HKp : Aside0 (∀ w', Below w5.heap.size w5 w' → w'.cell? ⟨p5, 1, none⟩ = some (.int .i64 bx.f1) ∧ w'.cell? ⟨p5, 8, none⟩ = some (.string ⟨#[]⟩) ∧ w'.cell? ⟨p5, 9, none⟩ = some (.string ⟨#[]⟩) ∧ w'.cell? ⟨p5, 18, none⟩ = some (.string n17) ∧ w'.cell? ⟨p5, 19, none⟩ = some (.slice B19 L18 d19) ∧ w'.cell? ⟨p5, 20, none⟩ = some (.slice B20 L19 d20) ∧ w'.cell? ⟨p3, 0, none⟩ = some (.string y.f0) ∧ w'.cell? ⟨p3, 3, none⟩ = some (.slice A3 y.f3.length c3) ∧ w'.cell? ⟨p3, 4, none⟩ = some (.slice A4 y.f4.length c4) ∧ w'.cell? ⟨p2, 1, none⟩ = some (.int .i64 bx.f1) ∧ w'.heap[p2]? = some (.cells mc2 29 (0, 0))) := ⟨fun w' hb => ⟨(hb.cell (World.block_lt_of_cell? w5 _ z1)).trans z1, (hb.cell (World.block_lt_of_cell? w5 _ z8)).trans z8, (hb.cell (World.block_lt_of_cell? w5 _ z9)).trans z9, (hb.cell (World.block_lt_of_cell? w5 _ z18)).trans z18, (hb.cell (World.block_lt_of_cell? w5 _ z19)).trans z19, (hb.cell (World.block_lt_of_cell? w5 _ z20)).trans z20, (hb.cell (World.block_lt_of_cell? w5 _ q0)).trans q0, (hb.cell (World.block_lt_of_cell? w5 _ q3)).trans q3, (hb.cell (World.block_lt_of_cell? w5 _ q4)).trans q4, (hb.cell (World.block_lt_of_cell? w5 _ y1)).trans y1, (HW.out w' hb).2.1⟩⟩
                clear z1 z8 z9 z18 z19 z20 q0 q3 q4 y1
                refine start_ (n := 64) (ds := []) (S := fun w' => w'.cell? ⟨p5, 1, none⟩ = some (.int .i64 bx.f1) ∧ w'.cell? ⟨p5, 8, none⟩ = some (.string ⟨#[]⟩) ∧ w'.cell? ⟨p5, 9, none⟩ = some (.string ⟨#[]⟩) ∧ w'.cell? ⟨p5, 18, none⟩ = some (.string n17) ∧ w'.cell? ⟨p5, 19, none⟩ = some (.slice B19 L18 d19) ∧ w'.cell? ⟨p5, 20, none⟩ = some (.slice B20 L19 d20) ∧ w'.cell? ⟨p3, 0, none⟩ = some (.string y.f0) ∧ w'.cell? ⟨p3, 3, none⟩ = some (.slice A3 y.f3.length c3) ∧ w'.cell? ⟨p3, 4, none⟩ = some (.slice A4 y.f4.length c4) ∧ w'.cell? ⟨p2, 1, none⟩ = some (.int .i64 bx.f1) ∧ w'.heap[p2]? = some (.cells mc2 29 (0, 0))) (V5 0) (by rfl) (by rfl) (by kernel_rfl) (HKp.out _ hbd) (fun hHeld => ?_); refine with_tabW tab5 bits5 (fun HT_ HW_ => ?_)
                generalize w5.drew = wd at hbd hHeld ⊢
                refine one_ (i := 0) (N := some 27) (V5 1) rfl rfl (one_of HT_.out (by kernel_rfl)) (by decide) (fun K hK => ?_)
                refine goes_ Try.func8 (by kernel_rfl) rfl #[] (by rfl) rfl rfl (by (try simp only [List.map_toArray, List.map_cons, List.map_nil]); first | done | rfl) ?_
                with_reducible refine (H8.out _).mono ?_
                rintro e w60 ⟨rfl, hb⟩
                refine ⟨_, rfl, ?_⟩
                have hbn := below_step hbd hb; clear hbd hHeld hb; have hbd := hbn; clear hbn
                refine hK.out _ _ (HKp.out _ hbd) (fun hHeld => ?_)
                clear hK K
                refine norm_ (a' := ?_) ?_ ?_; rotate_left
                · show Act.put _ (some 27) _ = _
                  simp only [Act.put, setIfInBounds_toArray, set_cons_zero, set_cons_succ, i64_w, i32_w]; rfl
                refine pure_ (i := 1) (N := some 28) (v := ?_) (a' := ?_) (V5 3) rfl rfl (any_of HT_.out (by kernel_rfl)) (fun _ _ _ h => h) (Or.inl ⟨by rfl, ?_⟩) ?_ ?_; rotate_left
                · intro w'; go_simp; with_reducible rfl
                rotate_left
                · simp only [Act.put, setIfInBounds_toArray, set_cons_zero, set_cons_succ, i64_w, i32_w]; rfl
                refine pure_ (i := 2) (N := some 29) (v := ?_) (a' := ?_) (V5 7) rfl rfl (any_of HT_.out (by kernel_rfl)) (fun _ _ _ h => h) (Or.inl ⟨by rfl, ?_⟩) ?_ ?_; rotate_left
                · intro w'; go_simp; with_reducible rfl
                rotate_left
                · simp only [Act.put, setIfInBounds_toArray, set_cons_zero, set_cons_succ, i64_w, i32_w]; rfl
                refine take_ (i := 3) (N := some 30) (v := ?_) (a' := ?_) (V5 15) rfl rfl (take_ofW HT_.out HW_.out (by kernel_rfl)) (fun _ _ _ h => h) (Or.inl ⟨by rfl, ?_⟩) hHeld ?_ ?_; rotate_left
                · rintro w' ⟨s0, s1, s2, s3, s4, s5, s6, s7, s8, s9, -⟩; go_simp; with_reducible rfl
                rotate_left
                · simp only [Act.put, setIfInBounds_toArray, set_cons_zero, set_cons_succ, i64_w, i32_w]; rfl
                refine pure_ (i := 4) (N := some 31) (v := ?_) (a' := ?_) (V5 31) rfl rfl (any_of HT_.out (by kernel_rfl)) (fun _ _ _ h => h) (Or.inl ⟨by rfl, ?_⟩) ?_ ?_; rotate_left
                · intro w'; go_simp; with_reducible rfl
                rotate_left
                · simp only [Act.put, setIfInBounds_toArray, set_cons_zero, set_cons_succ, i64_w, i32_w]; rfl
                refine pure_ (i := 5) (N := some 32) (v := ?_) (a' := ?_) (V5 63) rfl rfl (any_of HT_.out (by kernel_rfl)) (fun _ _ _ h => h) (Or.inl ⟨by rfl, ?_⟩) ?_ ?_; rotate_left
                · intro w'; go_simp; with_reducible rfl
                rotate_left
                · simp only [Act.put, setIfInBounds_toArray, set_cons_zero, set_cons_succ, i64_w, i32_w]; rfl
                refine pure_ (i := 6) (N := some 33) (v := ?_) (a' := ?_) (V5 127) rfl rfl (any_of HT_.out (by kernel_rfl)) (fun _ _ _ h => h) (Or.inl ⟨by rfl, ?_⟩) ?_ ?_; rotate_left
                · intro w'; go_simp; with_reducible rfl
                rotate_left
                · simp only [Act.put, setIfInBounds_toArray, set_cons_zero, set_cons_succ, i64_w, i32_w]; rfl
                refine pure_ (i := 7) (N := some 34) (v := ?_) (a' := ?_) (V5 255) rfl rfl (any_of HT_.out (by kernel_rfl)) (fun _ _ _ h => h) (Or.inl ⟨by rfl, ?_⟩) ?_ ?_; rotate_left
                · intro w'; go_simp; with_reducible rfl
                rotate_left
                · simp only [Act.put, setIfInBounds_toArray, set_cons_zero, set_cons_succ, i64_w, i32_w]; rfl
                refine take_ (i := 8) (N := some 35) (v := ?_) (a' := ?_) (V5 511) rfl rfl (take_ofW HT_.out HW_.out (by kernel_rfl)) (fun _ _ _ h => h) (Or.inl ⟨by rfl, ?_⟩) hHeld ?_ ?_; rotate_left
                · rintro w' ⟨s0, s1, s2, s3, s4, s5, s6, s7, s8, s9, -⟩; go_simp; with_reducible rfl
                rotate_left
                · simp only [Act.put, setIfInBounds_toArray, set_cons_zero, set_cons_succ, i64_w, i32_w]; rfl
                refine pure_ (i := 9) (N := some 36) (v := ?_) (a' := ?_) (V5 1023) rfl rfl (any_of HT_.out (by kernel_rfl)) (fun _ _ _ h => h) (Or.inl ⟨by rfl, ?_⟩) ?_ ?_; rotate_left
                · intro w'; go_simp; with_reducible rfl
                rotate_left
                · simp only [Act.put, setIfInBounds_toArray, set_cons_zero, set_cons_succ, i64_w, i32_w]; rfl
                refine pure_ (i := 10) (N := some 37) (v := ?_) (a' := ?_) (V5 2047) rfl rfl (any_of HT_.out (by kernel_rfl)) (fun _ _ _ h => h) (Or.inl ⟨by rfl, ?_⟩) ?_ ?_; rotate_left
                · intro w'; go_simp; with_reducible rfl
                rotate_left
                · simp only [Act.put, setIfInBounds_toArray, set_cons_zero, set_cons_succ, i64_w, i32_w]; rfl
                refine pure_ (i := 11) (N := some 38) (v := ?_) (a' := ?_) (V5 4095) rfl rfl (any_of HT_.out (by kernel_rfl)) (fun _ _ _ h => h) (Or.inl ⟨by rfl, ?_⟩) ?_ ?_; rotate_left
                · intro w'; go_simp; with_reducible rfl
                rotate_left
                · simp only [Act.put, setIfInBounds_toArray, set_cons_zero, set_cons_succ, i64_w, i32_w]; rfl
                refine pure_ (i := 12) (N := some 39) (v := ?_) (a' := ?_) (V5 8191) rfl rfl (any_of HT_.out (by kernel_rfl)) (fun _ _ _ h => h) (Or.inl ⟨by rfl, ?_⟩) ?_ ?_; rotate_left
                · intro w'; go_simp; with_reducible rfl
                rotate_left
                · simp only [Act.put, setIfInBounds_toArray, set_cons_zero, set_cons_succ, i64_w, i32_w]; rfl
                refine take_ (i := 13) (N := some 40) (v := ?_) (a' := ?_) (V5 16383) rfl rfl (take_ofW HT_.out HW_.out (by kernel_rfl)) (fun _ _ _ h => h) (Or.inl ⟨by rfl, ?_⟩) hHeld ?_ ?_; rotate_left
                · rintro w' ⟨s0, s1, s2, s3, s4, s5, s6, s7, s8, s9, -⟩; go_simp; with_reducible rfl
                rotate_left
                · simp only [Act.put, setIfInBounds_toArray, set_cons_zero, set_cons_succ, i64_w, i32_w]; rfl
                refine pure_ (i := 14) (N := some 41) (v := ?_) (a' := ?_) (V5 32767) rfl rfl (any_of HT_.out (by kernel_rfl)) (fun _ _ _ h => h) (Or.inl ⟨by rfl, ?_⟩) ?_ ?_; rotate_left
                · intro w'; go_simp; with_reducible rfl
                rotate_left
                · simp only [Act.put, setIfInBounds_toArray, set_cons_zero, set_cons_succ, i64_w, i32_w]; rfl
                refine pure_ (i := 15) (N := some 42) (v := ?_) (a' := ?_) (V5 65535) rfl rfl (any_of HT_.out (by kernel_rfl)) (fun _ _ _ h => h) (Or.inl ⟨by rfl, ?_⟩) ?_ ?_; rotate_left
                · intro w'; go_simp; with_reducible rfl
                rotate_left
                · simp only [Act.put, setIfInBounds_toArray, set_cons_zero, set_cons_succ, i64_w, i32_w]; rfl
                refine pure_ (i := 16) (N := some 43) (v := undef) (a' := ?_) (V5 131071) rfl rfl (any_of HT_.out (by kernel_rfl)) (fun _ _ _ h => h) (Or.inr ⟨by rfl, rfl⟩) ?_ ?_; rotate_left
                · simp only [Act.put, setIfInBounds_toArray, set_cons_zero, set_cons_succ, i64_w, i32_w]; rfl
                refine pure_ (i := 17) (N := some 44) (v := undef) (a' := ?_) (V5 262143) rfl rfl (any_of HT_.out (by kernel_rfl)) (fun _ _ _ h => h) (Or.inr ⟨by rfl, rfl⟩) ?_ ?_; rotate_left
                · simp only [Act.put, setIfInBounds_toArray, set_cons_zero, set_cons_succ, i64_w, i32_w]; rfl
                refine pure_ (i := 18) (N := some 45) (v := undef) (a' := ?_) (V5 524287) rfl rfl (any_of HT_.out (by kernel_rfl)) (fun _ _ _ h => h) (Or.inr ⟨by rfl, rfl⟩) ?_ ?_; rotate_left
                · simp only [Act.put, setIfInBounds_toArray, set_cons_zero, set_cons_succ, i64_w, i32_w]; rfl
                refine pure_ (i := 19) (N := some 46) (v := undef) (a' := ?_) (V5 1048575) rfl rfl (any_of HT_.out (by kernel_rfl)) (fun _ _ _ h => h) (Or.inr ⟨by rfl, rfl⟩) ?_ ?_; rotate_left
                · simp only [Act.put, setIfInBounds_toArray, set_cons_zero, set_cons_succ, i64_w, i32_w]; rfl
                refine pure_ (i := 20) (N := some 47) (v := undef) (a' := ?_) (V5 2097151) rfl rfl (any_of HT_.out (by kernel_rfl)) (fun _ _ _ h => h) (Or.inr ⟨by rfl, rfl⟩) ?_ ?_; rotate_left
                · simp only [Act.put, setIfInBounds_toArray, set_cons_zero, set_cons_succ, i64_w, i32_w]; rfl
                refine pure_ (i := 21) (N := some 48) (v := ?_) (a' := ?_) (V5 4194303) rfl rfl (any_of HT_.out (by kernel_rfl)) (fun _ _ _ h => h) (Or.inl ⟨by rfl, ?_⟩) ?_ ?_; rotate_left
                · intro w'; go_simp; with_reducible rfl
                rotate_left
                · simp only [Act.put, setIfInBounds_toArray, set_cons_zero, set_cons_succ, i64_w, i32_w]; rfl
                refine pure_ (i := 22) (N := some 49) (v := ?_) (a' := ?_) (V5 8388607) rfl rfl (any_of HT_.out (by kernel_rfl)) (fun _ _ _ h => h) (Or.inl ⟨by rfl, ?_⟩) ?_ ?_; rotate_left
                · intro w'; go_simp; with_reducible rfl
                rotate_left
                · simp only [Act.put, setIfInBounds_toArray, set_cons_zero, set_cons_succ, i64_w, i32_w]; rfl
                refine pure_ (i := 23) (N := some 50) (v := ?_) (a' := ?_) (V5 16777215) rfl rfl (any_of HT_.out (by kernel_rfl)) (fun _ _ _ h => h) (Or.inl ⟨by rfl, ?_⟩) ?_ ?_; rotate_left
                · intro w'; go_simp; with_reducible rfl
                rotate_left
                · simp only [Act.put, setIfInBounds_toArray, set_cons_zero, set_cons_succ, i64_w, i32_w]; rfl
                refine pure_ (i := 24) (N := some 51) (v := ?_) (a' := ?_) (V5 33554431) rfl rfl (any_of HT_.out (by kernel_rfl)) (fun _ _ _ h => h) (Or.inl ⟨by rfl, ?_⟩) ?_ ?_; rotate_left
                · intro w'; go_simp; with_reducible rfl
                rotate_left
                · simp only [Act.put, setIfInBounds_toArray, set_cons_zero, set_cons_succ, i64_w, i32_w]; rfl
                refine take_ (i := 25) (N := some 52) (v := ?_) (a' := ?_) (V5 67108863) rfl rfl (take_ofW HT_.out HW_.out (by kernel_rfl)) (fun _ _ _ h => h) (Or.inl ⟨by rfl, ?_⟩) hHeld ?_ ?_; rotate_left
                · rintro w' ⟨s0, s1, s2, s3, s4, s5, s6, s7, s8, s9, -⟩; go_simp; with_reducible rfl
                rotate_left
                · simp only [Act.put, setIfInBounds_toArray, set_cons_zero, set_cons_succ, i64_w, i32_w]; rfl
                refine pure_ (i := 26) (N := some 53) (v := ?_) (a' := ?_) (V5 134217727) rfl rfl (any_of HT_.out (by kernel_rfl)) (fun _ _ _ h => h) (Or.inl ⟨by rfl, ?_⟩) ?_ ?_; rotate_left
                · intro w'; go_simp; with_reducible rfl
                rotate_left
                · simp only [Act.put, setIfInBounds_toArray, set_cons_zero, set_cons_succ, i64_w, i32_w]; rfl
                refine pure_ (i := 27) (N := some 54) (v := ?_) (a' := ?_) (V5 268435455) rfl rfl (any_of HT_.out (by kernel_rfl)) (fun _ _ _ h => h) (Or.inl ⟨by rfl, ?_⟩) ?_ ?_; rotate_left
                · intro w'; go_simp; with_reducible rfl
                rotate_left
                · simp only [Act.put, setIfInBounds_toArray, set_cons_zero, set_cons_succ, i64_w, i32_w]; rfl
                refine pure_ (i := 28) (N := some 55) (v := ?_) (a' := ?_) (V5 536870911) rfl rfl (any_of HT_.out (by kernel_rfl)) (fun _ _ _ h => h) (Or.inl ⟨by rfl, ?_⟩) ?_ ?_; rotate_left
                · intro w'; go_simp; with_reducible rfl
                rotate_left
                · simp only [Act.put, setIfInBounds_toArray, set_cons_zero, set_cons_succ, i64_w, i32_w]; rfl
                refine pure_ (i := 29) (N := some 56) (v := ?_) (a' := ?_) (V5 1073741823) rfl rfl (any_of HT_.out (by kernel_rfl)) (fun _ _ _ h => h) (Or.inl ⟨by rfl, ?_⟩) ?_ ?_; rotate_left
                · intro w'; go_simp; with_reducible rfl
                rotate_left
                · simp only [Act.put, setIfInBounds_toArray, set_cons_zero, set_cons_succ, i64_w, i32_w]; rfl
                refine pure_ (i := 31) (N := some 58) (v := ?_) (a' := ?_) (V5 3221225471) rfl rfl (any_of HT_.out (by kernel_rfl)) (fun _ _ _ h => h) (Or.inl ⟨by rfl, ?_⟩) ?_ ?_; rotate_left
                · intro w'; go_simp; with_reducible rfl
                rotate_left
                · simp only [Act.put, setIfInBounds_toArray, set_cons_zero, set_cons_succ, i64_w, i32_w]; rfl
                refine take_ (i := 30) (N := some 57) (v := ?_) (a' := ?_) (V5 4294967295) rfl rfl (take_ofW HT_.out HW_.out (by kernel_rfl)) (fun _ _ _ h => h) (Or.inl ⟨by rfl, ?_⟩) hHeld ?_ ?_; rotate_left
                · rintro w' ⟨s0, s1, s2, s3, s4, s5, s6, s7, s8, s9, -⟩; go_simp; with_reducible rfl
                rotate_left
                · simp only [Act.put, setIfInBounds_toArray, set_cons_zero, set_cons_succ, i64_w, i32_w]; rfl
                refine take_ (i := 32) (N := some 59) (v := ?_) (a' := ?_) (V5 8589934591) rfl rfl (take_ofW HT_.out HW_.out (by kernel_rfl)) (fun _ _ _ h => h) (Or.inl ⟨by rfl, ?_⟩) hHeld ?_ ?_; rotate_left
                · rintro w' ⟨s0, s1, s2, s3, s4, s5, s6, s7, s8, s9, -⟩; go_simp; with_reducible rfl
                rotate_left
                · simp only [Act.put, setIfInBounds_toArray, set_cons_zero, set_cons_succ, i64_w, i32_w]; rfl
                refine one_ (i := 33) (N := some 60) (V5 17179869183) rfl rfl (one_of HT_.out (by kernel_rfl)) (by decide) (fun K hK => ?_)
                refine goes_ Try.func20 (by kernel_rfl) rfl #[.slice B19 L18 d19, .slice A3 y.f3.length c3] (by rfl) rfl rfl (by (try simp only [List.map_toArray, List.map_cons, List.map_nil]); first | done | rfl) ?_
                with_reducible refine (H20'.out _ hbd).mono ?_
                rintro e w93 ⟨rfl, hb⟩
                refine ⟨_, rfl, ?_⟩
                have hbn := below_step hbd hb; clear hbd hHeld hb; have hbd := hbn; clear hbn
                refine hK.out _ _ (HKp.out _ hbd) (fun hHeld => ?_)
                clear hK K
                refine norm_ (a' := ?_) ?_ ?_; rotate_left
                · show Act.put _ (some 60) _ = _
                  simp only [Act.put, setIfInBounds_toArray, set_cons_zero, set_cons_succ, i64_w, i32_w]; rfl
                refine pure_ (i := 34) (N := some 61) (v := ?_) (a' := ?_) (V5 34359738367) rfl rfl (any_of HT_.out (by kernel_rfl)) (fun _ _ _ h => h) (Or.inl ⟨by rfl, ?_⟩) ?_ ?_; rotate_left
                · intro w'; go_simp; with_reducible rfl
                rotate_left
                · simp only [Act.put, setIfInBounds_toArray, set_cons_zero, set_cons_succ, i64_w, i32_w]; rfl
                refine pure_ (i := 35) (N := some 62) (v := ?_) (a' := ?_) (V5 68719476735) rfl rfl (any_of HT_.out (by kernel_rfl)) (fun _ _ _ h => h) (Or.inl ⟨by rfl, ?_⟩) ?_ ?_; rotate_left
                · intro w'; go_simp; with_reducible rfl
                rotate_left
                · simp only [Act.put, setIfInBounds_toArray, set_cons_zero, set_cons_succ, i64_w, i32_w]; rfl
                refine pure_ (i := 36) (N := some 63) (v := ?_) (a' := ?_) (V5 137438953471) rfl rfl (any_of HT_.out (by kernel_rfl)) (fun _ _ _ h => h) (Or.inl ⟨by rfl, ?_⟩) ?_ ?_; rotate_left
                · intro w'; go_simp; with_reducible rfl
                rotate_left
                · simp only [Act.put, setIfInBounds_toArray, set_cons_zero, set_cons_succ, i64_w, i32_w]; rfl
                refine pure_ (i := 37) (N := some 64) (v := ?_) (a' := ?_) (V5 274877906943) rfl rfl (any_of HT_.out (by kernel_rfl)) (fun _ _ _ h => h) (Or.inl ⟨by rfl, ?_⟩) ?_ ?_; rotate_left
                · intro w'; go_simp; with_reducible rfl
                rotate_left
                · simp only [Act.put, setIfInBounds_toArray, set_cons_zero, set_cons_succ, i64_w, i32_w]; rfl
                refine take_ (i := 38) (N := some 65) (v := ?_) (a' := ?_) (V5 549755813887) rfl rfl (take_ofW HT_.out HW_.out (by kernel_rfl)) (fun _ _ _ h => h) (Or.inl ⟨by rfl, ?_⟩) hHeld ?_ ?_; rotate_left
                · rintro w' ⟨s0, s1, s2, s3, s4, s5, s6, s7, s8, s9, -⟩; go_simp; with_reducible rfl
                rotate_left
                · simp only [Act.put, setIfInBounds_toArray, set_cons_zero, set_cons_succ, i64_w, i32_w]; rfl
                refine pure_ (i := 39) (N := some 66) (v := ?_) (a' := ?_) (V5 1099511627775) rfl rfl (any_of HT_.out (by kernel_rfl)) (fun _ _ _ h => h) (Or.inl ⟨by rfl, ?_⟩) ?_ ?_; rotate_left
                · intro w'; go_simp; with_reducible rfl
                rotate_left
                · simp only [Act.put, setIfInBounds_toArray, set_cons_zero, set_cons_succ, i64_w, i32_w]; rfl
                refine pure_ (i := 40) (N := some 67) (v := ?_) (a' := ?_) (V5 2199023255551) rfl rfl (any_of HT_.out (by kernel_rfl)) (fun _ _ _ h => h) (Or.inl ⟨by rfl, ?_⟩) ?_ ?_; rotate_left
                · intro w'; go_simp; with_reducible rfl
                rotate_left
                · simp only [Act.put, setIfInBounds_toArray, set_cons_zero, set_cons_succ, i64_w, i32_w]; rfl
                refine pure_ (i := 41) (N := some 68) (v := ?_) (a' := ?_) (V5 4398046511103) rfl rfl (any_of HT_.out (by kernel_rfl)) (fun _ _ _ h => h) (Or.inl ⟨by rfl, ?_⟩) ?_ ?_; rotate_left
                · intro w'; go_simp; with_reducible rfl
                rotate_left
                · simp only [Act.put, setIfInBounds_toArray, set_cons_zero, set_cons_succ, i64_w, i32_w]; rfl
                refine pure_ (i := 42) (N := some 69) (v := undef) (a' := ?_) (V5 8796093022207) rfl rfl (any_of HT_.out (by kernel_rfl)) (fun _ _ _ h => h) (Or.inr ⟨by rfl, rfl⟩) ?_ ?_; rotate_left
                · simp only [Act.put, setIfInBounds_toArray, set_cons_zero, set_cons_succ, i64_w, i32_w]; rfl
                refine pure_ (i := 43) (N := some 70) (v := undef) (a' := ?_) (V5 17592186044415) rfl rfl (any_of HT_.out (by kernel_rfl)) (fun _ _ _ h => h) (Or.inr ⟨by rfl, rfl⟩) ?_ ?_; rotate_left
                · simp only [Act.put, setIfInBounds_toArray, set_cons_zero, set_cons_succ, i64_w, i32_w]; rfl
                refine pure_ (i := 44) (N := some 71) (v := undef) (a' := ?_) (V5 35184372088831) rfl rfl (any_of HT_.out (by kernel_rfl)) (fun _ _ _ h => h) (Or.inr ⟨by rfl, rfl⟩) ?_ ?_; rotate_left
                · simp only [Act.put, setIfInBounds_toArray, set_cons_zero, set_cons_succ, i64_w, i32_w]; rfl
                refine pure_ (i := 45) (N := some 72) (v := undef) (a' := ?_) (V5 70368744177663) rfl rfl (any_of HT_.out (by kernel_rfl)) (fun _ _ _ h => h) (Or.inr ⟨by rfl, rfl⟩) ?_ ?_; rotate_left
                · simp only [Act.put, setIfInBounds_toArray, set_cons_zero, set_cons_succ, i64_w, i32_w]; rfl
                refine pure_ (i := 46) (N := some 73) (v := undef) (a' := ?_) (V5 140737488355327) rfl rfl (any_of HT_.out (by kernel_rfl)) (fun _ _ _ h => h) (Or.inr ⟨by rfl, rfl⟩) ?_ ?_; rotate_left
                · simp only [Act.put, setIfInBounds_toArray, set_cons_zero, set_cons_succ, i64_w, i32_w]; rfl
                refine pure_ (i := 47) (N := some 74) (v := ?_) (a' := ?_) (V5 281474976710655) rfl rfl (any_of HT_.out (by kernel_rfl)) (fun _ _ _ h => h) (Or.inl ⟨by rfl, ?_⟩) ?_ ?_; rotate_left
                · intro w'; go_simp; with_reducible rfl
                rotate_left
                · simp only [Act.put, setIfInBounds_toArray, set_cons_zero, set_cons_succ, i64_w, i32_w]; rfl
                refine pure_ (i := 48) (N := some 75) (v := ?_) (a' := ?_) (V5 562949953421311) rfl rfl (any_of HT_.out (by kernel_rfl)) (fun _ _ _ h => h) (Or.inl ⟨by rfl, ?_⟩) ?_ ?_; rotate_left
                · intro w'; go_simp; with_reducible rfl
                rotate_left
                · simp only [Act.put, setIfInBounds_toArray, set_cons_zero, set_cons_succ, i64_w, i32_w]; rfl
                refine pure_ (i := 49) (N := some 76) (v := ?_) (a' := ?_) (V5 1125899906842623) rfl rfl (any_of HT_.out (by kernel_rfl)) (fun _ _ _ h => h) (Or.inl ⟨by rfl, ?_⟩) ?_ ?_; rotate_left
                · intro w'; go_simp; with_reducible rfl
                rotate_left
                · simp only [Act.put, setIfInBounds_toArray, set_cons_zero, set_cons_succ, i64_w, i32_w]; rfl
                refine pure_ (i := 50) (N := some 77) (v := ?_) (a' := ?_) (V5 2251799813685247) rfl rfl (any_of HT_.out (by kernel_rfl)) (fun _ _ _ h => h) (Or.inl ⟨by rfl, ?_⟩) ?_ ?_; rotate_left
                · intro w'; go_simp; with_reducible rfl
                rotate_left
                · simp only [Act.put, setIfInBounds_toArray, set_cons_zero, set_cons_succ, i64_w, i32_w]; rfl
                refine pure_ (i := 52) (N := some 79) (v := ?_) (a' := ?_) (V5 6755399441055743) rfl rfl (any_of HT_.out (by kernel_rfl)) (fun _ _ _ h => h) (Or.inl ⟨by rfl, ?_⟩) ?_ ?_; rotate_left
                · intro w'; go_simp; with_reducible rfl
                rotate_left
                · simp only [Act.put, setIfInBounds_toArray, set_cons_zero, set_cons_succ, i64_w, i32_w]; rfl
                refine take_ (i := 51) (N := some 78) (v := ?_) (a' := ?_) (V5 9007199254740991) rfl rfl (take_ofW HT_.out HW_.out (by kernel_rfl)) (fun _ _ _ h => h) (Or.inl ⟨by rfl, ?_⟩) hHeld ?_ ?_; rotate_left
                · rintro w' ⟨s0, s1, s2, s3, s4, s5, s6, s7, s8, s9, -⟩; go_simp; with_reducible rfl
                rotate_left
                · simp only [Act.put, setIfInBounds_toArray, set_cons_zero, set_cons_succ, i64_w, i32_w]; rfl
                refine take_ (i := 53) (N := some 80) (v := ?_) (a' := ?_) (V5 18014398509481983) rfl rfl (take_ofW HT_.out HW_.out (by kernel_rfl)) (fun _ _ _ h => h) (Or.inl ⟨by rfl, ?_⟩) hHeld ?_ ?_; rotate_left
                · rintro w' ⟨s0, s1, s2, s3, s4, s5, s6, s7, s8, s9, -⟩; go_simp; with_reducible rfl
                rotate_left
                · simp only [Act.put, setIfInBounds_toArray, set_cons_zero, set_cons_succ, i64_w, i32_w]; rfl
                refine pure_ (i := 54) (N := some 81) (v := ?_) (a' := ?_) (V5 36028797018963967) rfl rfl (any_of HT_.out (by kernel_rfl)) (fun _ _ _ h => h) (Or.inl ⟨by rfl, ?_⟩) ?_ ?_; rotate_left
                · intro w'; go_simp; with_reducible rfl
                rotate_left
                · simp only [Act.put, setIfInBounds_toArray, set_cons_zero, set_cons_succ, i64_w, i32_w]; rfl
                refine pure_ (i := 55) (N := some 82) (v := ?_) (a' := ?_) (V5 72057594037927935) rfl rfl (any_of HT_.out (by kernel_rfl)) (fun _ _ _ h => h) (Or.inl ⟨by rfl, ?_⟩) ?_ ?_; rotate_left
                · intro w'; go_simp; with_reducible rfl
                rotate_left
                · simp only [Act.put, setIfInBounds_toArray, set_cons_zero, set_cons_succ, i64_w, i32_w]; rfl
                refine pure_ (i := 56) (N := some 83) (v := ?_) (a' := ?_) (V5 144115188075855871) rfl rfl (any_of HT_.out (by kernel_rfl)) (fun _ _ _ h => h) (Or.inl ⟨by rfl, ?_⟩) ?_ ?_; rotate_left
                · intro w'; go_simp; with_reducible rfl
                rotate_left
                · simp only [Act.put, setIfInBounds_toArray, set_cons_zero, set_cons_succ, i64_w, i32_w]; rfl
                refine pure_ (i := 58) (N := some 85) (v := ?_) (a' := ?_) (V5 432345564227567615) rfl rfl (any_of HT_.out (by kernel_rfl)) (fun _ _ _ h => h) (Or.inl ⟨by rfl, ?_⟩) ?_ ?_; rotate_left
                · intro w'; go_simp; with_reducible rfl
                rotate_left
                · simp only [Act.put, setIfInBounds_toArray, set_cons_zero, set_cons_succ, i64_w, i32_w]; rfl
                refine take_ (i := 57) (N := some 84) (v := .agg mc2) (a' := ?_) (V5 576460752303423487) rfl rfl (take_ofW HT_.out HW_.out (by kernel_rfl)) (fun _ _ _ h => h) (Or.inl ⟨by rfl, fun w' hs => Go.Proofs.Ythapknnppabdaaa.Fill.row_yields 29 _ rfl p2 rfl 29 mc2 (0, 0) _ hs.2.2.2.2.2.2.2.2.2.2 hu29.out rfl HZ.out.2.2.2.2⟩) hHeld ?_ ?_; rotate_left
                · simp only [Act.put, setIfInBounds_toArray, set_cons_zero, set_cons_succ, i64_w, i32_w]; rfl
                refine take_ (i := 60) (N := some 87) (v := .agg mc2) (a' := ?_) (V5 1729382256910270463) rfl rfl (take_ofW HT_.out HW_.out (by kernel_rfl)) (fun _ _ _ h => h) (Or.inl ⟨by rfl, fun w' hs => Go.Proofs.Ythapknnppabdaaa.Fill.row_yields 29 _ rfl p2 rfl 29 mc2 (0, 0) _ hs.2.2.2.2.2.2.2.2.2.2 hu29.out rfl HZ.out.2.2.2.2⟩) hHeld ?_ ?_; rotate_left
                · simp only [Act.put, setIfInBounds_toArray, set_cons_zero, set_cons_succ, i64_w, i32_w]; rfl
                refine one_ (i := 59) (N := some 86) (V5 2305843009213693951) rfl rfl (one_of HT_.out (by kernel_rfl)) (by decide) (fun K hK => ?_)
                refine goes_ Try.func13 (by kernel_rfl) rfl #[.agg mc2, .agg #[.string ⟨#[]⟩, .string ⟨#[]⟩, .string ⟨#[]⟩, .slice none 0 0, .slice none 0 0]] (by rfl) rfl rfl (by (try simp only [List.map_toArray, List.map_cons, List.map_nil]); first | done | rfl) ?_
                with_reducible refine (H13.out _ hbd).mono ?_
                rintro e w120 ⟨nc, rfl, hk13, hb⟩
                have HK13 := Aside0.mk hk13; clear hk13
                refine ⟨_, rfl, ?_⟩
                have hbn := below_step hbd hb; clear hbd hHeld hb; have hbd := hbn; clear hbn
                refine hK.out _ _ (HKp.out _ hbd) (fun hHeld => ?_)
                clear hK K
                refine norm_ (a' := ?_) ?_ ?_; rotate_left
                · show Act.put _ (some 86) _ = _
                  simp only [Act.put, setIfInBounds_toArray, set_cons_zero, set_cons_succ, i64_w, i32_w]; rfl
                refine one_ (i := 61) (N := some 88) (V5 4611686018427387903) rfl rfl (one_of HT_.out (by kernel_rfl)) (by decide) (fun K hK => ?_)
                refine goes_ Try.func11 (by kernel_rfl) rfl #[.agg nc, .agg mc2] (by rfl) rfl rfl (by (try simp only [List.map_toArray, List.map_cons, List.map_nil]); first | done | rfl) ?_
                with_reducible refine (H11.out _ _ hbd HK13.out).mono ?_
                rintro e w121 ⟨rfl, hb⟩
                refine ⟨_, rfl, ?_⟩
                have hbn := below_step hbd hb; clear hbd hHeld hb; have hbd := hbn; clear hbn
                refine hK.out _ _ (HKp.out _ hbd) (fun hHeld => ?_)
                clear hK K
                refine norm_ (a' := ?_) ?_ ?_; rotate_left
                · show Act.put _ (some 88) _ = _
                  simp only [Act.put, setIfInBounds_toArray, set_cons_zero, set_cons_succ, i64_w, i32_w]; rfl
                refine pure_ (i := 62) (N := some 89) (v := ?_) (a' := ?_) (V5 9223372036854775807) rfl rfl (any_of HT_.out (by kernel_rfl)) (fun _ _ _ h => h) (Or.inl ⟨by rfl, ?_⟩) ?_ ?_; rotate_left
                · intro w'; go_simp; with_reducible rfl
                rotate_left
                · simp only [Act.put, setIfInBounds_toArray, set_cons_zero, set_cons_succ, i64_w, i32_w]; rfl
                refine pure_ (i := 63) (N := some 4) (v := ?_) (a' := ?_) (V5 18446744073709551615) rfl rfl (any_of HT_.out (by kernel_rfl)) (fun _ _ _ h => h) (Or.inl ⟨by rfl, ?_⟩) ?_ ?_; rotate_left
                · intro w'; go_simp; with_reducible rfl
                rotate_left
                · simp only [Act.put, setIfInBounds_toArray, set_cons_zero, set_cons_succ, i64_w, i32_w]; rfl
                refine done_ (done_of HT_.out (by kernel_rfl)) ?_
                try go_wp2
                go_ret
                exact ⟨rfl, below_step HB5.out hbd⟩
            · have c4p : y.f4.length > 0 := by omega
              have H21' := Aside0.mk (H21.out c4p)
              have c4b : ((y.f4.length : Int) == 0) = false := beq_eq_false_iff_ne.2 (by omega)
              clear c4p
              clear c4' H21
              as_aux_lemma =>
                go_wp2_with fail
                have HKp : Aside0 (∀ w', Below w5.heap.size w5 w' → w'.cell? ⟨p5, 1, none⟩ = some (.int .i64 bx.f1) ∧ w'.cell? ⟨p5, 8, none⟩ = some (.string ⟨#[]⟩) ∧ w'.cell? ⟨p5, 9, none⟩ = some (.string ⟨#[]⟩) ∧ w'.cell? ⟨p5, 18, none⟩ = some (.string n17) ∧ w'.cell? ⟨p5, 19, none⟩ = some (.slice B19 L18 d19) ∧ w'.cell? ⟨p5, 20, none⟩ = some (.slice B20 L19 d20) ∧ w'.cell? ⟨p3, 0, none⟩ = some (.string y.f0) ∧ w'.cell? ⟨p3, 3, none⟩ = some (.slice A3 y.f3.length c3) ∧ w'.cell? ⟨p3, 4, none⟩ = some (.slice A4 y.f4.length c4) ∧ w'.cell? ⟨p2, 1, none⟩ = some (.int .i64 bx.f1) ∧ w'.heap[p2]? = some (.cells mc2 29 (0, 0))) := ⟨fun w' hb => ⟨(hb.cell (World.block_lt_of_cell? w5 _ z1)).trans z1, (hb.cell (World.block_lt_of_cell? w5 _ z8)).trans z8, (hb.cell (World.block_lt_of_cell? w5 _ z9)).trans z9, (hb.cell (World.block_lt_of_cell? w5 _ z18)).trans z18, (hb.cell (World.block_lt_of_cell? w5 _ z19)).trans z19, (hb.cell (World.block_lt_of_cell? w5 _ z20)).trans z20, (hb.cell (World.block_lt_of_cell? w5 _ q0)).trans q0, (hb.cell (World.block_lt_of_cell? w5 _ q3)).trans q3, (hb.cell (World.block_lt_of_cell? w5 _ q4)).trans q4, (hb.cell (World.block_lt_of_cell? w5 _ y1)).trans y1, (HW.out w' hb).2.1⟩⟩
                clear z1 z8 z9 z18 z19 z20 q0 q3 q4 y1
                refine start_ (n := 64) (ds := []) (S := fun w' => w'.cell? ⟨p5, 1, none⟩ = some (.int .i64 bx.f1) ∧ w'.cell? ⟨p5, 8, none⟩ = some (.string ⟨#[]⟩) ∧ w'.cell? ⟨p5, 9, none⟩ = some (.string ⟨#[]⟩) ∧ w'.cell? ⟨p5, 18, none⟩ = some (.string n17) ∧ w'.cell? ⟨p5, 19, none⟩ = some (.slice B19 L18 d19) ∧ w'.cell? ⟨p5, 20, none⟩ = some (.slice B20 L19 d20) ∧ w'.cell? ⟨p3, 0, none⟩ = some (.string y.f0) ∧ w'.cell? ⟨p3, 3, none⟩ = some (.slice A3 y.f3.length c3) ∧ w'.cell? ⟨p3, 4, none⟩ = some (.slice A4 y.f4.length c4) ∧ w'.cell? ⟨p2, 1, none⟩ = some (.int .i64 bx.f1) ∧ w'.heap[p2]? = some (.cells mc2 29 (0, 0))) (V5 0) (by rfl) (by rfl) (by kernel_rfl) (HKp.out _ hbd) (fun hHeld => ?_); refine with_tabW tab5 bits5 (fun HT_ HW_ => ?_)
                generalize w5.drew = wd at hbd hHeld ⊢
                refine one_ (i := 0) (N := some 27) (V5 1) rfl rfl (one_of HT_.out (by kernel_rfl)) (by decide) (fun K hK => ?_)
                refine goes_ Try.func8 (by kernel_rfl) rfl #[] (by rfl) rfl rfl (by (try simp only [List.map_toArray, List.map_cons, List.map_nil]); first | done | rfl) ?_
                with_reducible refine (H8.out _).mono ?_
                rintro e w60 ⟨rfl, hb⟩
                refine ⟨_, rfl, ?_⟩
                have hbn := below_step hbd hb; clear hbd hHeld hb; have hbd := hbn; clear hbn
                refine hK.out _ _ (HKp.out _ hbd) (fun hHeld => ?_)
                clear hK K
                refine norm_ (a' := ?_) ?_ ?_; rotate_left
                · show Act.put _ (some 27) _ = _
                  simp only [Act.put, setIfInBounds_toArray, set_cons_zero, set_cons_succ, i64_w, i32_w]; rfl
                refine pure_ (i := 1) (N := some 28) (v := ?_) (a' := ?_) (V5 3) rfl rfl (any_of HT_.out (by kernel_rfl)) (fun _ _ _ h => h) (Or.inl ⟨by rfl, ?_⟩) ?_ ?_; rotate_left
                · intro w'; go_simp; with_reducible rfl
                rotate_left
                · simp only [Act.put, setIfInBounds_toArray, set_cons_zero, set_cons_succ, i64_w, i32_w]; rfl
                refine pure_ (i := 2) (N := some 29) (v := ?_) (a' := ?_) (V5 7) rfl rfl (any_of HT_.out (by kernel_rfl)) (fun _ _ _ h => h) (Or.inl ⟨by rfl, ?_⟩) ?_ ?_; rotate_left
                · intro w'; go_simp; with_reducible rfl
                rotate_left
                · simp only [Act.put, setIfInBounds_toArray, set_cons_zero, set_cons_succ, i64_w, i32_w]; rfl
                refine take_ (i := 3) (N := some 30) (v := ?_) (a' := ?_) (V5 15) rfl rfl (take_ofW HT_.out HW_.out (by kernel_rfl)) (fun _ _ _ h => h) (Or.inl ⟨by rfl, ?_⟩) hHeld ?_ ?_; rotate_left
                · rintro w' ⟨s0, s1, s2, s3, s4, s5, s6, s7, s8, s9, -⟩; go_simp; with_reducible rfl
                rotate_left
                · simp only [Act.put, setIfInBounds_toArray, set_cons_zero, set_cons_succ, i64_w, i32_w]; rfl
                refine pure_ (i := 4) (N := some 31) (v := ?_) (a' := ?_) (V5 31) rfl rfl (any_of HT_.out (by kernel_rfl)) (fun _ _ _ h => h) (Or.inl ⟨by rfl, ?_⟩) ?_ ?_; rotate_left
                · intro w'; go_simp; with_reducible rfl
                rotate_left
                · simp only [Act.put, setIfInBounds_toArray, set_cons_zero, set_cons_succ, i64_w, i32_w]; rfl
                refine pure_ (i := 5) (N := some 32) (v := ?_) (a' := ?_) (V5 63) rfl rfl (any_of HT_.out (by kernel_rfl)) (fun _ _ _ h => h) (Or.inl ⟨by rfl, ?_⟩) ?_ ?_; rotate_left
                · intro w'; go_simp; with_reducible rfl
                rotate_left
                · simp only [Act.put, setIfInBounds_toArray, set_cons_zero, set_cons_succ, i64_w, i32_w]; rfl
                refine pure_ (i := 6) (N := some 33) (v := ?_) (a' := ?_) (V5 127) rfl rfl (any_of HT_.out (by kernel_rfl)) (fun _ _ _ h => h) (Or.inl ⟨by rfl, ?_⟩) ?_ ?_; rotate_left
                · intro w'; go_simp; with_reducible rfl
                rotate_left
                · simp only [Act.put, setIfInBounds_toArray, set_cons_zero, set_cons_succ, i64_w, i32_w]; rfl
                refine pure_ (i := 7) (N := some 34) (v := ?_) (a' := ?_) (V5 255) rfl rfl (any_of HT_.out (by kernel_rfl)) (fun _ _ _ h => h) (Or.inl ⟨by rfl, ?_⟩) ?_ ?_; rotate_left
                · intro w'; go_simp; with_reducible rfl
                rotate_left
                · simp only [Act.put, setIfInBounds_toArray, set_cons_zero, set_cons_succ, i64_w, i32_w]; rfl
                refine take_ (i := 8) (N := some 35) (v := ?_) (a' := ?_) (V5 511) rfl rfl (take_ofW HT_.out HW_.out (by kernel_rfl)) (fun _ _ _ h => h) (Or.inl ⟨by rfl, ?_⟩) hHeld ?_ ?_; rotate_left
                · rintro w' ⟨s0, s1, s2, s3, s4, s5, s6, s7, s8, s9, -⟩; go_simp; with_reducible rfl
                rotate_left
                · simp only [Act.put, setIfInBounds_toArray, set_cons_zero, set_cons_succ, i64_w, i32_w]; rfl
                refine pure_ (i := 9) (N := some 36) (v := ?_) (a' := ?_) (V5 1023) rfl rfl (any_of HT_.out (by kernel_rfl)) (fun _ _ _ h => h) (Or.inl ⟨by rfl, ?_⟩) ?_ ?_; rotate_left
                · intro w'; go_simp; with_reducible rfl
                rotate_left
                · simp only [Act.put, setIfInBounds_toArray, set_cons_zero, set_cons_succ, i64_w, i32_w]; rfl
                refine pure_ (i := 10) (N := some 37) (v := ?_) (a' := ?_) (V5 2047) rfl rfl (any_of HT_.out (by kernel_rfl)) (fun _ _ _ h => h) (Or.inl ⟨by rfl, ?_⟩) ?_ ?_; rotate_left
                · intro w'; go_simp; with_reducible rfl
                rotate_left
                · simp only [Act.put, setIfInBounds_toArray, set_cons_zero, set_cons_succ, i64_w, i32_w]; rfl
                refine pure_ (i := 11) (N := some 38) (v := ?_) (a' := ?_) (V5 4095) rfl rfl (any_of HT_.out (by kernel_rfl)) (fun _ _ _ h => h) (Or.inl ⟨by rfl, ?_⟩) ?_ ?_; rotate_left
                · intro w'; go_simp; with_reducible rfl
                rotate_left
                · simp only [Act.put, setIfInBounds_toArray, set_cons_zero, set_cons_succ, i64_w, i32_w]; rfl
                refine pure_ (i := 12) (N := some 39) (v := ?_) (a' := ?_) (V5 8191) rfl rfl (any_of HT_.out (by kernel_rfl)) (fun _ _ _ h => h) (Or.inl ⟨by rfl, ?_⟩) ?_ ?_; rotate_left
                · intro w'; go_simp; with_reducible rfl
                rotate_left
                · simp only [Act.put, setIfInBounds_toArray, set_cons_zero, set_cons_succ, i64_w, i32_w]; rfl
                refine take_ (i := 13) (N := some 40) (v := ?_) (a' := ?_) (V5 16383) rfl rfl (take_ofW HT_.out HW_.out (by kernel_rfl)) (fun _ _ _ h => h) (Or.inl ⟨by rfl, ?_⟩) hHeld ?_ ?_; rotate_left
                · rintro w' ⟨s0, s1, s2, s3, s4, s5, s6, s7, s8, s9, -⟩; go_simp; with_reducible rfl
                rotate_left
                · simp only [Act.put, setIfInBounds_toArray, set_cons_zero, set_cons_succ, i64_w, i32_w]; rfl
                refine pure_ (i := 14) (N := some 41) (v := ?_) (a' := ?_) (V5 32767) rfl rfl (any_of HT_.out (by kernel_rfl)) (fun _ _ _ h => h) (Or.inl ⟨by rfl, ?_⟩) ?_ ?_; rotate_left
                · intro w'; go_simp; with_reducible rfl
                rotate_left
                · simp only [Act.put, setIfInBounds_toArray, set_cons_zero, set_cons_succ, i64_w, i32_w]; rfl
                refine pure_ (i := 15) (N := some 42) (v := ?_) (a' := ?_) (V5 65535) rfl rfl (any_of HT_.out (by kernel_rfl)) (fun _ _ _ h => h) (Or.inl ⟨by rfl, ?_⟩) ?_ ?_; rotate_left
                · intro w'; go_simp; with_reducible rfl
                rotate_left
                · simp only [Act.put, setIfInBounds_toArray, set_cons_zero, set_cons_succ, i64_w, i32_w]; rfl
                refine pure_ (i := 16) (N := some 43) (v := undef) (a' := ?_) (V5 131071) rfl rfl (any_of HT_.out (by kernel_rfl)) (fun _ _ _ h => h) (Or.inr ⟨by rfl, rfl⟩) ?_ ?_; rotate_left
                · simp only [Act.put, setIfInBounds_toArray, set_cons_zero, set_cons_succ, i64_w, i32_w]; rfl
                refine pure_ (i := 17) (N := some 44) (v := undef) (a' := ?_) (V5 262143) rfl rfl (any_of HT_.out (by kernel_rfl)) (fun _ _ _ h => h) (Or.inr ⟨by rfl, rfl⟩) ?_ ?_; rotate_left
                · simp only [Act.put, setIfInBounds_toArray, set_cons_zero, set_cons_succ, i64_w, i32_w]; rfl
                refine pure_ (i := 18) (N := some 45) (v := undef) (a' := ?_) (V5 524287) rfl rfl (any_of HT_.out (by kernel_rfl)) (fun _ _ _ h => h) (Or.inr ⟨by rfl, rfl⟩) ?_ ?_; rotate_left
                · simp only [Act.put, setIfInBounds_toArray, set_cons_zero, set_cons_succ, i64_w, i32_w]; rfl
                refine pure_ (i := 19) (N := some 46) (v := undef) (a' := ?_) (V5 1048575) rfl rfl (any_of HT_.out (by kernel_rfl)) (fun _ _ _ h => h) (Or.inr ⟨by rfl, rfl⟩) ?_ ?_; rotate_left
                · simp only [Act.put, setIfInBounds_toArray, set_cons_zero, set_cons_succ, i64_w, i32_w]; rfl
                refine pure_ (i := 20) (N := some 47) (v := undef) (a' := ?_) (V5 2097151) rfl rfl (any_of HT_.out (by kernel_rfl)) (fun _ _ _ h => h) (Or.inr ⟨by rfl, rfl⟩) ?_ ?_; rotate_left
                · simp only [Act.put, setIfInBounds_toArray, set_cons_zero, set_cons_succ, i64_w, i32_w]; rfl
                refine pure_ (i := 21) (N := some 48) (v := ?_) (a' := ?_) (V5 4194303) rfl rfl (any_of HT_.out (by kernel_rfl)) (fun _ _ _ h => h) (Or.inl ⟨by rfl, ?_⟩) ?_ ?_; rotate_left
                · intro w'; go_simp; with_reducible rfl
                rotate_left
                · simp only [Act.put, setIfInBounds_toArray, set_cons_zero, set_cons_succ, i64_w, i32_w]; rfl
                refine pure_ (i := 22) (N := some 49) (v := ?_) (a' := ?_) (V5 8388607) rfl rfl (any_of HT_.out (by kernel_rfl)) (fun _ _ _ h => h) (Or.inl ⟨by rfl, ?_⟩) ?_ ?_; rotate_left
                · intro w'; go_simp; with_reducible rfl
                rotate_left
                · simp only [Act.put, setIfInBounds_toArray, set_cons_zero, set_cons_succ, i64_w, i32_w]; rfl
                refine pure_ (i := 23) (N := some 50) (v := ?_) (a' := ?_) (V5 16777215) rfl rfl (any_of HT_.out (by kernel_rfl)) (fun _ _ _ h => h) (Or.inl ⟨by rfl, ?_⟩) ?_ ?_; rotate_left
                · intro w'; go_simp; with_reducible rfl
                rotate_left
                · simp only [Act.put, setIfInBounds_toArray, set_cons_zero, set_cons_succ, i64_w, i32_w]; rfl
                refine pure_ (i := 24) (N := some 51) (v := ?_) (a' := ?_) (V5 33554431) rfl rfl (any_of HT_.out (by kernel_rfl)) (fun _ _ _ h => h) (Or.inl ⟨by rfl, ?_⟩) ?_ ?_; rotate_left
                · intro w'; go_simp; with_reducible rfl
                rotate_left
                · simp only [Act.put, setIfInBounds_toArray, set_cons_zero, set_cons_succ, i64_w, i32_w]; rfl
                refine take_ (i := 25) (N := some 52) (v := ?_) (a' := ?_) (V5 67108863) rfl rfl (take_ofW HT_.out HW_.out (by kernel_rfl)) (fun _ _ _ h => h) (Or.inl ⟨by rfl, ?_⟩) hHeld ?_ ?_; rotate_left
                · rintro w' ⟨s0, s1, s2, s3, s4, s5, s6, s7, s8, s9, -⟩; go_simp; with_reducible rfl
                rotate_left
                · simp only [Act.put, setIfInBounds_toArray, set_cons_zero, set_cons_succ, i64_w, i32_w]; rfl
                refine pure_ (i := 26) (N := some 53) (v := ?_) (a' := ?_) (V5 134217727) rfl rfl (any_of HT_.out (by kernel_rfl)) (fun _ _ _ h => h) (Or.inl ⟨by rfl, ?_⟩) ?_ ?_; rotate_left
                · intro w'; go_simp; with_reducible rfl
                rotate_left
                · simp only [Act.put, setIfInBounds_toArray, set_cons_zero, set_cons_succ, i64_w, i32_w]; rfl
                refine pure_ (i := 27) (N := some 54) (v := ?_) (a' := ?_) (V5 268435455) rfl rfl (any_of HT_.out (by kernel_rfl)) (fun _ _ _ h => h) (Or.inl ⟨by rfl, ?_⟩) ?_ ?_; rotate_left
                · intro w'; go_simp; with_reducible rfl
                rotate_left
                · simp only [Act.put, setIfInBounds_toArray, set_cons_zero, set_cons_succ, i64_w, i32_w]; rfl
                refine pure_ (i := 28) (N := some 55) (v := ?_) (a' := ?_) (V5 536870911) rfl rfl (any_of HT_.out (by kernel_rfl)) (fun _ _ _ h => h) (Or.inl ⟨by rfl, ?_⟩) ?_ ?_; rotate_left
                · intro w'; go_simp; with_reducible rfl
                rotate_left
                · simp only [Act.put, setIfInBounds_toArray, set_cons_zero, set_cons_succ, i64_w, i32_w]; rfl
                refine pure_ (i := 29) (N := some 56) (v := ?_) (a' := ?_) (V5 1073741823) rfl rfl (any_of HT_.out (by kernel_rfl)) (fun _ _ _ h => h) (Or.inl ⟨by rfl, ?_⟩) ?_ ?_; rotate_left
                · intro w'; go_simp; with_reducible rfl
                rotate_left
                · simp only [Act.put, setIfInBounds_toArray, set_cons_zero, set_cons_succ, i64_w, i32_w]; rfl
                refine pure_ (i := 31) (N := some 58) (v := ?_) (a' := ?_) (V5 3221225471) rfl rfl (any_of HT_.out (by kernel_rfl)) (fun _ _ _ h => h) (Or.inl ⟨by rfl, ?_⟩) ?_ ?_; rotate_left
                · intro w'; go_simp; with_reducible rfl
                rotate_left
                · simp only [Act.put, setIfInBounds_toArray, set_cons_zero, set_cons_succ, i64_w, i32_w]; rfl
                refine take_ (i := 30) (N := some 57) (v := ?_) (a' := ?_) (V5 4294967295) rfl rfl (take_ofW HT_.out HW_.out (by kernel_rfl)) (fun _ _ _ h => h) (Or.inl ⟨by rfl, ?_⟩) hHeld ?_ ?_; rotate_left
                · rintro w' ⟨s0, s1, s2, s3, s4, s5, s6, s7, s8, s9, -⟩; go_simp; with_reducible rfl
                rotate_left
                · simp only [Act.put, setIfInBounds_toArray, set_cons_zero, set_cons_succ, i64_w, i32_w]; rfl
                refine take_ (i := 32) (N := some 59) (v := ?_) (a' := ?_) (V5 8589934591) rfl rfl (take_ofW HT_.out HW_.out (by kernel_rfl)) (fun _ _ _ h => h) (Or.inl ⟨by rfl, ?_⟩) hHeld ?_ ?_; rotate_left
                · rintro w' ⟨s0, s1, s2, s3, s4, s5, s6, s7, s8, s9, -⟩; go_simp; with_reducible rfl
                rotate_left
                · simp only [Act.put, setIfInBounds_toArray, set_cons_zero, set_cons_succ, i64_w, i32_w]; rfl
                refine one_ (i := 33) (N := some 60) (V5 17179869183) rfl rfl (one_of HT_.out (by kernel_rfl)) (by decide) (fun K hK => ?_)
                refine goes_ Try.func20 (by kernel_rfl) rfl #[.slice B19 L18 d19, .slice A3 y.f3.length c3] (by rfl) rfl rfl (by (try simp only [List.map_toArray, List.map_cons, List.map_nil]); first | done | rfl) ?_
                with_reducible refine (H20'.out _ hbd).mono ?_
                rintro e w93 ⟨rfl, hb⟩
                refine ⟨_, rfl, ?_⟩
                have hbn := below_step hbd hb; clear hbd hHeld hb; have hbd := hbn; clear hbn
                refine hK.out _ _ (HKp.out _ hbd) (fun hHeld => ?_)
                clear hK K
                refine norm_ (a' := ?_) ?_ ?_; rotate_left
                · show Act.put _ (some 60) _ = _
                  simp only [Act.put, setIfInBounds_toArray, set_cons_zero, set_cons_succ, i64_w, i32_w]; rfl
                refine pure_ (i := 34) (N := some 61) (v := ?_) (a' := ?_) (V5 34359738367) rfl rfl (any_of HT_.out (by kernel_rfl)) (fun _ _ _ h => h) (Or.inl ⟨by rfl, ?_⟩) ?_ ?_; rotate_left
                · intro w'; go_simp; with_reducible rfl
                rotate_left
                · simp only [Act.put, setIfInBounds_toArray, set_cons_zero, set_cons_succ, i64_w, i32_w]; rfl
                refine pure_ (i := 35) (N := some 62) (v := ?_) (a' := ?_) (V5 68719476735) rfl rfl (any_of HT_.out (by kernel_rfl)) (fun _ _ _ h => h) (Or.inl ⟨by rfl, ?_⟩) ?_ ?_; rotate_left
                · intro w'; go_simp; with_reducible rfl
                rotate_left
                · simp only [Act.put, setIfInBounds_toArray, set_cons_zero, set_cons_succ, i64_w, i32_w]; rfl
                refine pure_ (i := 36) (N := some 63) (v := ?_) (a' := ?_) (V5 137438953471) rfl rfl (any_of HT_.out (by kernel_rfl)) (fun _ _ _ h => h) (Or.inl ⟨by rfl, ?_⟩) ?_ ?_; rotate_left
                · intro w'; go_simp; with_reducible rfl
                rotate_left
                · simp only [Act.put, setIfInBounds_toArray, set_cons_zero, set_cons_succ, i64_w, i32_w]; rfl
                refine pure_ (i := 37) (N := some 64) (v := ?_) (a' := ?_) (V5 274877906943) rfl rfl (any_of HT_.out (by kernel_rfl)) (fun _ _ _ h => h) (Or.inl ⟨by rfl, ?_⟩) ?_ ?_; rotate_left
                · intro w'; go_simp; with_reducible rfl
                rotate_left
                · simp only [Act.put, setIfInBounds_toArray, set_cons_zero, set_cons_succ, i64_w, i32_w]; rfl
                refine take_ (i := 38) (N := some 65) (v := ?_) (a' := ?_) (V5 549755813887) rfl rfl (take_ofW HT_.out HW_.out (by kernel_rfl)) (fun _ _ _ h => h) (Or.inl ⟨by rfl, ?_⟩) hHeld ?_ ?_; rotate_left
                · rintro w' ⟨s0, s1, s2, s3, s4, s5, s6, s7, s8, s9, -⟩; go_simp; with_reducible rfl
                rotate_left
                · simp only [Act.put, setIfInBounds_toArray, set_cons_zero, set_cons_succ, i64_w, i32_w]; rfl
                refine pure_ (i := 39) (N := some 66) (v := ?_) (a' := ?_) (V5 1099511627775) rfl rfl (any_of HT_.out (by kernel_rfl)) (fun _ _ _ h => h) (Or.inl ⟨by rfl, ?_⟩) ?_ ?_; rotate_left
                · intro w'; go_simp; with_reducible rfl
                rotate_left
                · simp only [Act.put, setIfInBounds_toArray, set_cons_zero, set_cons_succ, i64_w, i32_w]; rfl
                refine pure_ (i := 40) (N := some 67) (v := ?_) (a' := ?_) (V5 2199023255551) rfl rfl (any_of HT_.out (by kernel_rfl)) (fun _ _ _ h => h) (Or.inl ⟨by rfl, ?_⟩) ?_ ?_; rotate_left
                · intro w'; go_simp; with_reducible rfl
                rotate_left
                · simp only [Act.put, setIfInBounds_toArray, set_cons_zero, set_cons_succ, i64_w, i32_w]; rfl
                refine pure_ (i := 41) (N := some 68) (v := ?_) (a' := ?_) (V5 4398046511103) rfl rfl (any_of HT_.out (by kernel_rfl)) (fun _ _ _ h => h) (Or.inl ⟨by rfl, ?_⟩) ?_ ?_; rotate_left
                · intro w'; go_simp; with_reducible rfl
                rotate_left
                · simp only [Act.put, setIfInBounds_toArray, set_cons_zero, set_cons_succ, i64_w, i32_w]; rfl
                refine pure_ (i := 42) (N := some 69) (v := ?_) (a' := ?_) (V5 8796093022207) rfl rfl (any_of HT_.out (by kernel_rfl)) (fun _ _ _ h => h) (Or.inl ⟨by rfl, ?_⟩) ?_ ?_; rotate_left
                · intro w'; go_simp; with_reducible rfl
                rotate_left
                · simp only [Act.put, setIfInBounds_toArray, set_cons_zero, set_cons_succ, i64_w, i32_w]; rfl
                refine pure_ (i := 44) (N := some 71) (v := ?_) (a' := ?_) (V5 26388279066623) rfl rfl (any_of HT_.out (by kernel_rfl)) (fun _ _ _ h => h) (Or.inl ⟨by rfl, ?_⟩) ?_ ?_; rotate_left
                · intro w'; go_simp; with_reducible rfl
                rotate_left
                · simp only [Act.put, setIfInBounds_toArray, set_cons_zero, set_cons_succ, i64_w, i32_w]; rfl
                refine take_ (i := 43) (N := some 70) (v := ?_) (a' := ?_) (V5 35184372088831) rfl rfl (take_ofW HT_.out HW_.out (by kernel_rfl)) (fun _ _ _ h => h) (Or.inl ⟨by rfl, ?_⟩) hHeld ?_ ?_; rotate_left
                · rintro w' ⟨s0, s1, s2, s3, s4, s5, s6, s7, s8, s9, -⟩; go_simp; with_reducible rfl
                rotate_left
                · simp only [Act.put, setIfInBounds_toArray, set_cons_zero, set_cons_succ, i64_w, i32_w]; rfl
                refine take_ (i := 45) (N := some 72) (v := ?_) (a' := ?_) (V5 70368744177663) rfl rfl (take_ofW HT_.out HW_.out (by kernel_rfl)) (fun _ _ _ h => h) (Or.inl ⟨by rfl, ?_⟩) hHeld ?_ ?_; rotate_left
                · rintro w' ⟨s0, s1, s2, s3, s4, s5, s6, s7, s8, s9, -⟩; go_simp; with_reducible rfl
                rotate_left
                · simp only [Act.put, setIfInBounds_toArray, set_cons_zero, set_cons_succ, i64_w, i32_w]; rfl
                refine one_ (i := 46) (N := some 73) (V5 140737488355327) rfl rfl (one_of HT_.out (by kernel_rfl)) (by decide) (fun K hK => ?_)
                refine goes_ Try.func21 (by kernel_rfl) rfl #[.slice B20 L19 d20, .slice A4 y.f4.length c4, .func (.func 22) #[] #[]] (by rfl) rfl rfl (by (try simp only [List.map_toArray, List.map_cons, List.map_nil]); first | done | rfl) ?_
                with_reducible refine (H21'.out _ hbd).mono ?_
                rintro e w106 ⟨rfl, hb⟩
                refine ⟨_, rfl, ?_⟩
                have hbn := below_step hbd hb; clear hbd hHeld hb; have hbd := hbn; clear hbn
                refine hK.out _ _ (HKp.out _ hbd) (fun hHeld => ?_)
                clear hK K
                refine norm_ (a' := ?_) ?_ ?_; rotate_left
                · show Act.put _ (some 73) _ = _
                  simp only [Act.put, setIfInBounds_toArray, set_cons_zero, set_cons_succ, i64_w, i32_w]; rfl
                refine pure_ (i := 47) (N := some 74) (v := ?_) (a' := ?_) (V5 281474976710655) rfl rfl (any_of HT_.out (by kernel_rfl)) (fun _ _ _ h => h) (Or.inl ⟨by rfl, ?_⟩) ?_ ?_; rotate_left
                · intro w'; go_simp; with_reducible rfl
                rotate_left
                · simp only [Act.put, setIfInBounds_toArray, set_cons_zero, set_cons_succ, i64_w, i32_w]; rfl
                refine pure_ (i := 48) (N := some 75) (v := ?_) (a' := ?_) (V5 562949953421311) rfl rfl (any_of HT_.out (by kernel_rfl)) (fun _ _ _ h => h) (Or.inl ⟨by rfl, ?_⟩) ?_ ?_; rotate_left
                · intro w'; go_simp; with_reducible rfl
                rotate_left
                · simp only [Act.put, setIfInBounds_toArray, set_cons_zero, set_cons_succ, i64_w, i32_w]; rfl
                refine pure_ (i := 49) (N := some 76) (v := ?_) (a' := ?_) (V5 1125899906842623) rfl rfl (any_of HT_.out (by kernel_rfl)) (fun _ _ _ h => h) (Or.inl ⟨by rfl, ?_⟩) ?_ ?_; rotate_left
                · intro w'; go_simp; with_reducible rfl
                rotate_left
                · simp only [Act.put, setIfInBounds_toArray, set_cons_zero, set_cons_succ, i64_w, i32_w]; rfl
                refine pure_ (i := 50) (N := some 77) (v := ?_) (a' := ?_) (V5 2251799813685247) rfl rfl (any_of HT_.out (by kernel_rfl)) (fun _ _ _ h => h) (Or.inl ⟨by rfl, ?_⟩) ?_ ?_; rotate_left
                · intro w'; go_simp; with_reducible rfl
                rotate_left
                · simp only [Act.put, setIfInBounds_toArray, set_cons_zero, set_cons_succ, i64_w, i32_w]; rfl
                refine pure_ (i := 52) (N := some 79) (v := ?_) (a' := ?_) (V5 6755399441055743) rfl rfl (any_of HT_.out (by kernel_rfl)) (fun _ _ _ h => h) (Or.inl ⟨by rfl, ?_⟩) ?_ ?_; rotate_left
                · intro w'; go_simp; with_reducible rfl
                rotate_left
                · simp only [Act.put, setIfInBounds_toArray, set_cons_zero, set_cons_succ, i64_w, i32_w]; rfl
                refine take_ (i := 51) (N := some 78) (v := ?_) (a' := ?_) (V5 9007199254740991) rfl rfl (take_ofW HT_.out HW_.out (by kernel_rfl)) (fun _ _ _ h => h) (Or.inl ⟨by rfl, ?_⟩) hHeld ?_ ?_; rotate_left
                · rintro w' ⟨s0, s1, s2, s3, s4, s5, s6, s7, s8, s9, -⟩; go_simp; with_reducible rfl
                rotate_left
                · simp only [Act.put, setIfInBounds_toArray, set_cons_zero, set_cons_succ, i64_w, i32_w]; rfl
                refine take_ (i := 53) (N := some 80) (v := ?_) (a' := ?_) (V5 18014398509481983) rfl rfl (take_ofW HT_.out HW_.out (by kernel_rfl)) (fun _ _ _ h => h) (Or.inl ⟨by rfl, ?_⟩) hHeld ?_ ?_; rotate_left
                · rintro w' ⟨s0, s1, s2, s3, s4, s5, s6, s7, s8, s9, -⟩; go_simp; with_reducible rfl
                rotate_left
                · simp only [Act.put, setIfInBounds_toArray, set_cons_zero, set_cons_succ, i64_w, i32_w]; rfl
                refine pure_ (i := 54) (N := some 81) (v := ?_) (a' := ?_) (V5 36028797018963967) rfl rfl (any_of HT_.out (by kernel_rfl)) (fun _ _ _ h => h) (Or.inl ⟨by rfl, ?_⟩) ?_ ?_; rotate_left
                · intro w'; go_simp; with_reducible rfl
                rotate_left
                · simp only [Act.put, setIfInBounds_toArray, set_cons_zero, set_cons_succ, i64_w, i32_w]; rfl
                refine pure_ (i := 55) (N := some 82) (v := ?_) (a' := ?_) (V5 72057594037927935) rfl rfl (any_of HT_.out (by kernel_rfl)) (fun _ _ _ h => h) (Or.inl ⟨by rfl, ?_⟩) ?_ ?_; rotate_left
                · intro w'; go_simp; with_reducible rfl
                rotate_left
                · simp only [Act.put, setIfInBounds_toArray, set_cons_zero, set_cons_succ, i64_w, i32_w]; rfl
                refine pure_ (i := 56) (N := some 83) (v := ?_) (a' := ?_) (V5 144115188075855871) rfl rfl (any_of HT_.out (by kernel_rfl)) (fun _ _ _ h => h) (Or.inl ⟨by rfl, ?_⟩) ?_ ?_; rotate_left
                · intro w'; go_simp; with_reducible rfl
                rotate_left
                · simp only [Act.put, setIfInBounds_toArray, set_cons_zero, set_cons_succ, i64_w, i32_w]; rfl
                refine pure_ (i := 58) (N := some 85) (v := ?_) (a' := ?_) (V5 432345564227567615) rfl rfl (any_of HT_.out (by kernel_rfl)) (fun _ _ _ h => h) (Or.inl ⟨by rfl, ?_⟩) ?_ ?_; rotate_left
                · intro w'; go_simp; with_reducible rfl
                rotate_left
                · simp only [Act.put, setIfInBounds_toArray, set_cons_zero, set_cons_succ, i64_w, i32_w]; rfl
                refine take_ (i := 57) (N := some 84) (v := .agg mc2) (a' := ?_) (V5 576460752303423487) rfl rfl (take_ofW HT_.out HW_.out (by kernel_rfl)) (fun _ _ _ h => h) (Or.inl ⟨by rfl, fun w' hs => Go.Proofs.Ythapknnppabdaaa.Fill.row_yields 29 _ rfl p2 rfl 29 mc2 (0, 0) _ hs.2.2.2.2.2.2.2.2.2.2 hu29.out rfl HZ.out.2.2.2.2⟩) hHeld ?_ ?_; rotate_left
                · simp only [Act.put, setIfInBounds_toArray, set_cons_zero, set_cons_succ, i64_w, i32_w]; rfl
                refine take_ (i := 60) (N := some 87) (v := .agg mc2) (a' := ?_) (V5 1729382256910270463) rfl rfl (take_ofW HT_.out HW_.out (by kernel_rfl)) (fun _ _ _ h => h) (Or.inl ⟨by rfl, fun w' hs => Go.Proofs.Ythapknnppabdaaa.Fill.row_yields 29 _ rfl p2 rfl 29 mc2 (0, 0) _ hs.2.2.2.2.2.2.2.2.2.2 hu29.out rfl HZ.out.2.2.2.2⟩) hHeld ?_ ?_; rotate_left
                · simp only [Act.put, setIfInBounds_toArray, set_cons_zero, set_cons_succ, i64_w, i32_w]; rfl
                refine one_ (i := 59) (N := some 86) (V5 2305843009213693951) rfl rfl (one_of HT_.out (by kernel_rfl)) (by decide) (fun K hK => ?_)
                refine goes_ Try.func13 (by kernel_rfl) rfl #[.agg mc2, .agg #[.string ⟨#[]⟩, .string ⟨#[]⟩, .string ⟨#[]⟩, .slice none 0 0, .slice none 0 0]] (by rfl) rfl rfl (by (try simp only [List.map_toArray, List.map_cons, List.map_nil]); first | done | rfl) ?_
                with_reducible refine (H13.out _ hbd).mono ?_
                rintro e w120 ⟨nc, rfl, hk13, hb⟩
                have HK13 := Aside0.mk hk13; clear hk13
                refine ⟨_, rfl, ?_⟩
                have hbn := below_step hbd hb; clear hbd hHeld hb; have hbd := hbn; clear hbn
                refine hK.out _ _ (HKp.out _ hbd) (fun hHeld => ?_)
                clear hK K
                refine norm_ (a' := ?_) ?_ ?_; rotate_left
                · show Act.put _ (some 86) _ = _
                  simp only [Act.put, setIfInBounds_toArray, set_cons_zero, set_cons_succ, i64_w, i32_w]; rfl
                refine one_ (i := 61) (N := some 88) (V5 4611686018427387903) rfl rfl (one_of HT_.out (by kernel_rfl)) (by decide) (fun K hK => ?_)
                refine goes_ Try.func11 (by kernel_rfl) rfl #[.agg nc, .agg mc2] (by rfl) rfl rfl (by (try simp only [List.map_toArray, List.map_cons, List.map_nil]); first | done | rfl) ?_
                with_reducible refine (H11.out _ _ hbd HK13.out).mono ?_
                rintro e w121 ⟨rfl, hb⟩
                refine ⟨_, rfl, ?_⟩
                have hbn := below_step hbd hb; clear hbd hHeld hb; have hbd := hbn; clear hbn
                refine hK.out _ _ (HKp.out _ hbd) (fun hHeld => ?_)
                clear hK K
                refine norm_ (a' := ?_) ?_ ?_; rotate_left
                · show Act.put _ (some 88) _ = _
                  simp only [Act.put, setIfInBounds_toArray, set_cons_zero, set_cons_succ, i64_w, i32_w]; rfl
                refine pure_ (i := 62) (N := some 89) (v := ?_) (a' := ?_) (V5 9223372036854775807) rfl rfl (any_of HT_.out (by kernel_rfl)) (fun _ _ _ h => h) (Or.inl ⟨by rfl, ?_⟩) ?_ ?_; rotate_left
                · intro w'; go_simp; with_reducible rfl
                rotate_left
                · simp only [Act.put, setIfInBounds_toArray, set_cons_zero, set_cons_succ, i64_w, i32_w]; rfl
                refine pure_ (i := 63) (N := some 4) (v := ?_) (a' := ?_) (V5 18446744073709551615) rfl rfl (any_of HT_.out (by kernel_rfl)) (fun _ _ _ h => h) (Or.inl ⟨by rfl, ?_⟩) ?_ ?_; rotate_left
                · intro w'; go_simp; with_reducible rfl
                rotate_left
                · simp only [Act.put, setIfInBounds_toArray, set_cons_zero, set_cons_succ, i64_w, i32_w]; rfl
                refine done_ (done_of HT_.out (by kernel_rfl)) ?_
                try go_wp2
                go_ret
                exact ⟨rfl, below_step HB5.out hbd⟩
        · have h0 : (joinE (bare x) y).f17 = y.f0 := by rw [h0d, if_neg c0]
          have c0b0 : (y.f0.toList == ([] : List UInt8)) = false := beq_eq_false_iff_ne.mpr c0
          have c0b1 : (y.f0.toList != ([] : List UInt8)) = true := bne_iff_ne.mpr c0
          rw [h0] at z18
          clear h0 h0d c0
          generalize bare x = bx at *
          by_cases c3' : y.f3.length = 0
          · have c3b : ((y.f3.length : Int) == 0) = true := beq_iff_eq.mpr (by omega)
            clear c3' H20
            by_cases c4' : y.f4.length = 0
            · have c4b : ((y.f4.length : Int) == 0) = true := beq_iff_eq.mpr (by omega)
              clear c4' H21
              as_aux_lemma =>
                go_wp2_with fail
                have HKp : Aside0 (∀ w', Below w5.heap.size w5 w' → w'.cell? ⟨p5, 1, none⟩ = some (.int .i64 bx.f1) ∧ w'.cell? ⟨p5, 8, none⟩ = some (.string ⟨#[]⟩) ∧ w'.cell? ⟨p5, 9, none⟩ = some (.string ⟨#[]⟩) ∧ w'.cell? ⟨p5, 18, none⟩ = some (.string y.f0) ∧ w'.cell? ⟨p5, 19, none⟩ = some (.slice B19 L18 d19) ∧ w'.cell? ⟨p5, 20, none⟩ = some (.slice B20 L19 d20) ∧ w'.cell? ⟨p3, 0, none⟩ = some (.string y.f0) ∧ w'.cell? ⟨p3, 3, none⟩ = some (.slice A3 y.f3.length c3) ∧ w'.cell? ⟨p3, 4, none⟩ = some (.slice A4 y.f4.length c4) ∧ w'.cell? ⟨p2, 1, none⟩ = some (.int .i64 bx.f1) ∧ w'.heap[p2]? = some (.cells mc2 29 (0, 0))) := ⟨fun w' hb => ⟨(hb.cell (World.block_lt_of_cell? w5 _ z1)).trans z1, (hb.cell (World.block_lt_of_cell? w5 _ z8)).trans z8, (hb.cell (World.block_lt_of_cell? w5 _ z9)).trans z9, (hb.cell (World.block_lt_of_cell? w5 _ z18)).trans z18, (hb.cell (World.block_lt_of_cell? w5 _ z19)).trans z19, (hb.cell (World.block_lt_of_cell? w5 _ z20)).trans z20, (hb.cell (World.block_lt_of_cell? w5 _ q0)).trans q0, (hb.cell (World.block_lt_of_cell? w5 _ q3)).trans q3, (hb.cell (World.block_lt_of_cell? w5 _ q4)).trans q4, (hb.cell (World.block_lt_of_cell? w5 _ y1)).trans y1, (HW.out w' hb).2.1⟩⟩
                clear z1 z8 z9 z18 z19 z20 q0 q3 q4 y1
                refine start_ (n := 64) (ds := []) (S := fun w' => w'.cell? ⟨p5, 1, none⟩ = some (.int .i64 bx.f1) ∧ w'.cell? ⟨p5, 8, none⟩ = some (.string ⟨#[]⟩) ∧ w'.cell? ⟨p5, 9, none⟩ = some (.string ⟨#[]⟩) ∧ w'.cell? ⟨p5, 18, none⟩ = some (.string y.f0) ∧ w'.cell? ⟨p5, 19, none⟩ = some (.slice B19 L18 d19) ∧ w'.cell? ⟨p5, 20, none⟩ = some (.slice B20 L19 d20) ∧ w'.cell? ⟨p3, 0, none⟩ = some (.string y.f0) ∧ w'.cell? ⟨p3, 3, none⟩ = some (.slice A3 y.f3.length c3) ∧ w'.cell? ⟨p3, 4, none⟩ = some (.slice A4 y.f4.length c4) ∧ w'.cell? ⟨p2, 1, none⟩ = some (.int .i64 bx.f1) ∧ w'.heap[p2]? = some (.cells mc2 29 (0, 0))) (V5 0) (by rfl) (by rfl) (by kernel_rfl) (HKp.out _ hbd) (fun hHeld => ?_); refine with_tabW tab5 bits5 (fun HT_ HW_ => ?_)
                generalize w5.drew = wd at hbd hHeld ⊢
                refine one_ (i := 0) (N := some 27) (V5 1) rfl rfl (one_of HT_.out (by kernel_rfl)) (by decide) (fun K hK => ?_)
                refine goes_ Try.func8 (by kernel_rfl) rfl #[] (by rfl) rfl rfl (by (try simp only [List.map_toArray, List.map_cons, List.map_nil]); first | done | rfl) ?_
                with_reducible refine (H8.out _).mono ?_
                rintro e w60 ⟨rfl, hb⟩
                refine ⟨_, rfl, ?_⟩
                have hbn := below_step hbd hb; clear hbd hHeld hb; have hbd := hbn; clear hbn
                refine hK.out _ _ (HKp.out _ hbd) (fun hHeld => ?_)
                clear hK K
                refine norm_ (a' := ?_) ?_ ?_; rotate_left
                · show Act.put _ (some 27) _ = _
                  simp only [Act.put, setIfInBounds_toArray, set_cons_zero, set_cons_succ, i64_w, i32_w]; rfl
                refine pure_ (i := 1) (N := some 28) (v := ?_) (a' := ?_) (V5 3) rfl rfl (any_of HT_.out (by kernel_rfl)) (fun _ _ _ h => h) (Or.inl ⟨by rfl, ?_⟩) ?_ ?_; rotate_left
                · intro w'; go_simp; with_reducible rfl
                rotate_left
                · simp only [Act.put, setIfInBounds_toArray, set_cons_zero, set_cons_succ, i64_w, i32_w]; rfl
                refine pure_ (i := 2) (N := some 29) (v := ?_) (a' := ?_) (V5 7) rfl rfl (any_of HT_.out (by kernel_rfl)) (fun _ _ _ h => h) (Or.inl ⟨by rfl, ?_⟩) ?_ ?_; rotate_left
                · intro w'; go_simp; with_reducible rfl
                rotate_left
                · simp only [Act.put, setIfInBounds_toArray, set_cons_zero, set_cons_succ, i64_w, i32_w]; rfl
                refine take_ (i := 3) (N := some 30) (v := ?_) (a' := ?_) (V5 15) rfl rfl (take_ofW HT_.out HW_.out (by kernel_rfl)) (fun _ _ _ h => h) (Or.inl ⟨by rfl, ?_⟩) hHeld ?_ ?_; rotate_left
                · rintro w' ⟨s0, s1, s2, s3, s4, s5, s6, s7, s8, s9, -⟩; go_simp; with_reducible rfl
                rotate_left
                · simp only [Act.put, setIfInBounds_toArray, set_cons_zero, set_cons_succ, i64_w, i32_w]; rfl
                refine pure_ (i := 4) (N := some 31) (v := ?_) (a' := ?_) (V5 31) rfl rfl (any_of HT_.out (by kernel_rfl)) (fun _ _ _ h => h) (Or.inl ⟨by rfl, ?_⟩) ?_ ?_; rotate_left
                · intro w'; go_simp; with_reducible rfl
                rotate_left
                · simp only [Act.put, setIfInBounds_toArray, set_cons_zero, set_cons_succ, i64_w, i32_w]; rfl
                refine pure_ (i := 5) (N := some 32) (v := ?_) (a' := ?_) (V5 63) rfl rfl (any_of HT_.out (by kernel_rfl)) (fun _ _ _ h => h) (Or.inl ⟨by rfl, ?_⟩) ?_ ?_; rotate_left
                · intro w'; go_simp; with_reducible rfl
                rotate_left
                · simp only [Act.put, setIfInBounds_toArray, set_cons_zero, set_cons_succ, i64_w, i32_w]; rfl
                refine pure_ (i := 6) (N := some 33) (v := ?_) (a' := ?_) (V5 127) rfl rfl (any_of HT_.out (by kernel_rfl)) (fun _ _ _ h => h) (Or.inl ⟨by rfl, ?_⟩) ?_ ?_; rotate_left
                · intro w'; go_simp; with_reducible rfl
                rotate_left
                · simp only [Act.put, setIfInBounds_toArray, set_cons_zero, set_cons_succ, i64_w, i32_w]; rfl
                refine pure_ (i := 7) (N := some 34) (v := ?_) (a' := ?_) (V5 255) rfl rfl (any_of HT_.out (by kernel_rfl)) (fun _ _ _ h => h) (Or.inl ⟨by rfl, ?_⟩) ?_ ?_; rotate_left
                · intro w'; go_simp; with_reducible rfl
                rotate_left
                · simp only [Act.put, setIfInBounds_toArray, set_cons_zero, set_cons_succ, i64_w, i32_w]; rfl
                refine take_ (i := 8) (N := some 35) (v := ?_) (a' := ?_) (V5 511) rfl rfl (take_ofW HT_.out HW_.out (by kernel_rfl)) (fun _ _ _ h => h) (Or.inl ⟨by rfl, ?_⟩) hHeld ?_ ?_; rotate_left
                · rintro w' ⟨s0, s1, s2, s3, s4, s5, s6, s7, s8, s9, -⟩; go_simp; with_reducible rfl
                rotate_left
                · simp only [Act.put, setIfInBounds_toArray, set_cons_zero, set_cons_succ, i64_w, i32_w]; rfl
                refine pure_ (i := 9) (N := some 36) (v := ?_) (a' := ?_) (V5 1023) rfl rfl (any_of HT_.out (by kernel_rfl)) (fun _ _ _ h => h) (Or.inl ⟨by rfl, ?_⟩) ?_ ?_; rotate_left
                · intro w'; go_simp; with_reducible rfl
                rotate_left
                · simp only [Act.put, setIfInBounds_toArray, set_cons_zero, set_cons_succ, i64_w, i32_w]; rfl
                refine pure_ (i := 10) (N := some 37) (v := ?_) (a' := ?_) (V5 2047) rfl rfl (any_of HT_.out (by kernel_rfl)) (fun _ _ _ h => h) (Or.inl ⟨by rfl, ?_⟩) ?_ ?_; rotate_left
                · intro w'; go_simp; with_reducible rfl
                rotate_left
                · simp only [Act.put, setIfInBounds_toArray, set_cons_zero, set_cons_succ, i64_w, i32_w]; rfl
                refine pure_ (i := 11) (N := some 38) (v := ?_) (a' := ?_) (V5 4095) rfl rfl (any_of HT_.out (by kernel_rfl)) (fun _ _ _ h => h) (Or.inl ⟨by rfl, ?_⟩) ?_ ?_; rotate_left
                · intro w'; go_simp; with_reducible rfl
                rotate_left
                · simp only [Act.put, setIfInBounds_toArray, set_cons_zero, set_cons_succ, i64_w, i32_w]; rfl
                refine pure_ (i := 12) (N := some 39) (v := ?_) (a' := ?_) (V5 8191) rfl rfl (any_of HT_.out (by kernel_rfl)) (fun _ _ _ h => h) (Or.inl ⟨by rfl, ?_⟩) ?_ ?_; rotate_left
                · intro w'; go_simp; with_reducible rfl
                rotate_left
                · simp only [Act.put, setIfInBounds_toArray, set_cons_zero, set_cons_succ, i64_w, i32_w]; rfl
                refine take_ (i := 13) (N := some 40) (v := ?_) (a' := ?_) (V5 16383) rfl rfl (take_ofW HT_.out HW_.out (by kernel_rfl)) (fun _ _ _ h => h) (Or.inl ⟨by rfl, ?_⟩) hHeld ?_ ?_; rotate_left
                · rintro w' ⟨s0, s1, s2, s3, s4, s5, s6, s7, s8, s9, -⟩; go_simp; with_reducible rfl
                rotate_left
                · simp only [Act.put, setIfInBounds_toArray, set_cons_zero, set_cons_succ, i64_w, i32_w]; rfl
                refine pure_ (i := 14) (N := some 41) (v := ?_) (a' := ?_) (V5 32767) rfl rfl (any_of HT_.out (by kernel_rfl)) (fun _ _ _ h => h) (Or.inl ⟨by rfl, ?_⟩) ?_ ?_; rotate_left
                · intro w'; go_simp; with_reducible rfl
                rotate_left
                · simp only [Act.put, setIfInBounds_toArray, set_cons_zero, set_cons_succ, i64_w, i32_w]; rfl
                refine pure_ (i := 15) (N := some 42) (v := ?_) (a' := ?_) (V5 65535) rfl rfl (any_of HT_.out (by kernel_rfl)) (fun _ _ _ h => h) (Or.inl ⟨by rfl, ?_⟩) ?_ ?_; rotate_left
                · intro w'; go_simp; with_reducible rfl
                rotate_left
                · simp only [Act.put, setIfInBounds_toArray, set_cons_zero, set_cons_succ, i64_w, i32_w]; rfl
                refine pure_ (i := 16) (N := some 43) (v := ?_) (a' := ?_) (V5 131071) rfl rfl (any_of HT_.out (by kernel_rfl)) (fun _ _ _ h => h) (Or.inl ⟨by rfl, ?_⟩) ?_ ?_; rotate_left
                · intro w'; go_simp; with_reducible rfl
                rotate_left
                · simp only [Act.put, setIfInBounds_toArray, set_cons_zero, set_cons_succ, i64_w, i32_w]; rfl
                refine pure_ (i := 18) (N := some 45) (v := ?_) (a' := ?_) (V5 393215) rfl rfl (any_of HT_.out (by kernel_rfl)) (fun _ _ _ h => h) (Or.inl ⟨by rfl, ?_⟩) ?_ ?_; rotate_left
                · intro w'; go_simp; with_reducible rfl
                rotate_left
                · simp only [Act.put, setIfInBounds_toArray, set_cons_zero, set_cons_succ, i64_w, i32_w]; rfl
                refine take_ (i := 17) (N := some 44) (v := ?_) (a' := ?_) (V5 524287) rfl rfl (take_ofW HT_.out HW_.out (by kernel_rfl)) (fun _ _ _ h => h) (Or.inl ⟨by rfl, ?_⟩) hHeld ?_ ?_; rotate_left
                · rintro w' ⟨s0, s1, s2, s3, s4, s5, s6, s7, s8, s9, -⟩; go_simp; with_reducible rfl
                rotate_left
                · simp only [Act.put, setIfInBounds_toArray, set_cons_zero, set_cons_succ, i64_w, i32_w]; rfl
                refine take_ (i := 19) (N := some 46) (v := ?_) (a' := ?_) (V5 1048575) rfl rfl (take_ofW HT_.out HW_.out (by kernel_rfl)) (fun _ _ _ h => h) (Or.inl ⟨by rfl, ?_⟩) hHeld ?_ ?_; rotate_left
                · rintro w' ⟨s0, s1, s2, s3, s4, s5, s6, s7, s8, s9, -⟩; go_simp; with_reducible rfl
                rotate_left
                · simp only [Act.put, setIfInBounds_toArray, set_cons_zero, set_cons_succ, i64_w, i32_w]; rfl
                refine pure_ (i := 20) (N := some 47) (v := ?_) (a' := ?_) (V5 2097151) rfl rfl (any_of HT_.out (by kernel_rfl)) (fun _ _ _ h => h) (Or.inl ⟨by rfl, ?_⟩) ?_ ?_; rotate_left
                · intro w'; go_simp; with_reducible rfl
                rotate_left
                · simp only [Act.put, setIfInBounds_toArray, set_cons_zero, set_cons_succ, i64_w, i32_w]; rfl
                refine pure_ (i := 21) (N := some 48) (v := ?_) (a' := ?_) (V5 4194303) rfl rfl (any_of HT_.out (by kernel_rfl)) (fun _ _ _ h => h) (Or.inl ⟨by rfl, ?_⟩) ?_ ?_; rotate_left
                · intro w'; go_simp; with_reducible rfl
                rotate_left
                · simp only [Act.put, setIfInBounds_toArray, set_cons_zero, set_cons_succ, i64_w, i32_w]; rfl
                refine pure_ (i := 22) (N := some 49) (v := ?_) (a' := ?_) (V5 8388607) rfl rfl (any_of HT_.out (by kernel_rfl)) (fun _ _ _ h => h) (Or.inl ⟨by rfl, ?_⟩) ?_ ?_; rotate_left
                · intro w'; go_simp; with_reducible rfl
                rotate_left
                · simp only [Act.put, setIfInBounds_toArray, set_cons_zero, set_cons_succ, i64_w, i32_w]; rfl
                refine pure_ (i := 23) (N := some 50) (v := ?_) (a' := ?_) (V5 16777215) rfl rfl (any_of HT_.out (by kernel_rfl)) (fun _ _ _ h => h) (Or.inl ⟨by rfl, ?_⟩) ?_ ?_; rotate_left
                · intro w'; go_simp; with_reducible rfl
                rotate_left
                · simp only [Act.put, setIfInBounds_toArray, set_cons_zero, set_cons_succ, i64_w, i32_w]; rfl
                refine pure_ (i := 24) (N := some 51) (v := ?_) (a' := ?_) (V5 33554431) rfl rfl (any_of HT_.out (by kernel_rfl)) (fun _ _ _ h => h) (Or.inl ⟨by rfl, ?_⟩) ?_ ?_; rotate_left
                · intro w'; go_simp; with_reducible rfl
                rotate_left
                · simp only [Act.put, setIfInBounds_toArray, set_cons_zero, set_cons_succ, i64_w, i32_w]; rfl
                refine take_ (i := 25) (N := some 52) (v := ?_) (a' := ?_) (V5 67108863) rfl rfl (take_ofW HT_.out HW_.out (by kernel_rfl)) (fun _ _ _ h => h) (Or.inl ⟨by rfl, ?_⟩) hHeld ?_ ?_; rotate_left
                · rintro w' ⟨s0, s1, s2, s3, s4, s5, s6, s7, s8, s9, -⟩; go_simp; with_reducible rfl
                rotate_left
                · simp only [Act.put, setIfInBounds_toArray, set_cons_zero, set_cons_succ, i64_w, i32_w]; rfl
                refine pure_ (i := 26) (N := some 53) (v := ?_) (a' := ?_) (V5 134217727) rfl rfl (any_of HT_.out (by kernel_rfl)) (fun _ _ _ h => h) (Or.inl ⟨by rfl, ?_⟩) ?_ ?_; rotate_left
                · intro w'; go_simp; with_reducible rfl
                rotate_left
                · simp only [Act.put, setIfInBounds_toArray, set_cons_zero, set_cons_succ, i64_w, i32_w]; rfl
                refine pure_ (i := 27) (N := some 54) (v := ?_) (a' := ?_) (V5 268435455) rfl rfl (any_of HT_.out (by kernel_rfl)) (fun _ _ _ h => h) (Or.inl ⟨by rfl, ?_⟩) ?_ ?_; rotate_left
                · intro w'; go_simp; with_reducible rfl
                rotate_left
                · simp only [Act.put, setIfInBounds_toArray, set_cons_zero, set_cons_succ, i64_w, i32_w]; rfl
                refine pure_ (i := 28) (N := some 55) (v := ?_) (a' := ?_) (V5 536870911) rfl rfl (any_of HT_.out (by kernel_rfl)) (fun _ _ _ h => h) (Or.inl ⟨by rfl, ?_⟩) ?_ ?_; rotate_left
                · intro w'; go_simp; with_reducible rfl
                rotate_left
                · simp only [Act.put, setIfInBounds_toArray, set_cons_zero, set_cons_succ, i64_w, i32_w]; rfl
                refine pure_ (i := 29) (N := some 56) (v := undef) (a' := ?_) (V5 1073741823) rfl rfl (any_of HT_.out (by kernel_rfl)) (fun _ _ _ h => h) (Or.inr ⟨by rfl, rfl⟩) ?_ ?_; rotate_left
                · simp only [Act.put, setIfInBounds_toArray, set_cons_zero, set_cons_succ, i64_w, i32_w]; rfl
                refine pure_ (i := 30) (N := some 57) (v := undef) (a' := ?_) (V5 2147483647) rfl rfl (any_of HT_.out (by kernel_rfl)) (fun _ _ _ h => h) (Or.inr ⟨by rfl, rfl⟩) ?_ ?_; rotate_left
                · simp only [Act.put, setIfInBounds_toArray, set_cons_zero, set_cons_succ, i64_w, i32_w]; rfl
                refine pure_ (i := 31) (N := some 58) (v := undef) (a' := ?_) (V5 4294967295) rfl rfl (any_of HT_.out (by kernel_rfl)) (fun _ _ _ h => h) (Or.inr ⟨by rfl, rfl⟩) ?_ ?_; rotate_left
                · simp only [Act.put, setIfInBounds_toArray, set_cons_zero, set_cons_succ, i64_w, i32_w]; rfl
                refine pure_ (i := 32) (N := some 59) (v := undef) (a' := ?_) (V5 8589934591) rfl rfl (any_of HT_.out (by kernel_rfl)) (fun _ _ _ h => h) (Or.inr ⟨by rfl, rfl⟩) ?_ ?_; rotate_left
                · simp only [Act.put, setIfInBounds_toArray, set_cons_zero, set_cons_succ, i64_w, i32_w]; rfl
                refine pure_ (i := 33) (N := some 60) (v := undef) (a' := ?_) (V5 17179869183) rfl rfl (any_of HT_.out (by kernel_rfl)) (fun _ _ _ h => h) (Or.inr ⟨by rfl, rfl⟩) ?_ ?_; rotate_left
                · simp only [Act.put, setIfInBounds_toArray, set_cons_zero, set_cons_succ, i64_w, i32_w]; rfl
                refine pure_ (i := 34) (N := some 61) (v := ?_) (a' := ?_) (V5 34359738367) rfl rfl (any_of HT_.out (by kernel_rfl)) (fun _ _ _ h => h) (Or.inl ⟨by rfl, ?_⟩) ?_ ?_; rotate_left
                · intro w'; go_simp; with_reducible rfl
                rotate_left
                · simp only [Act.put, setIfInBounds_toArray, set_cons_zero, set_cons_succ, i64_w, i32_w]; rfl
                refine pure_ (i := 35) (N := some 62) (v := ?_) (a' := ?_) (V5 68719476735) rfl rfl (any_of HT_.out (by kernel_rfl)) (fun _ _ _ h => h) (Or.inl ⟨by rfl, ?_⟩) ?_ ?_; rotate_left
                · intro w'; go_simp; with_reducible rfl
                rotate_left
                · simp only [Act.put, setIfInBounds_toArray, set_cons_zero, set_cons_succ, i64_w, i32_w]; rfl
                refine pure_ (i := 36) (N := some 63) (v := ?_) (a' := ?_) (V5 137438953471) rfl rfl (any_of HT_.out (by kernel_rfl)) (fun _ _ _ h => h) (Or.inl ⟨by rfl, ?_⟩) ?_ ?_; rotate_left
                · intro w'; go_simp; with_reducible rfl
                rotate_left
                · simp only [Act.put, setIfInBounds_toArray, set_cons_zero, set_cons_succ, i64_w, i32_w]; rfl
                refine pure_ (i := 37) (N := some 64) (v := ?_) (a' := ?_) (V5 274877906943) rfl rfl (any_of HT_.out (by kernel_rfl)) (fun _ _ _ h => h) (Or.inl ⟨by rfl, ?_⟩) ?_ ?_; rotate_left
                · intro w'; go_simp; with_reducible rfl
                rotate_left
                · simp only [Act.put, setIfInBounds_toArray, set_cons_zero, set_cons_succ, i64_w, i32_w]; rfl
                refine take_ (i := 38) (N := some 65) (v := ?_) (a' := ?_) (V5 549755813887) rfl rfl (take_ofW HT_.out HW_.out (by kernel_rfl)) (fun _ _ _ h => h) (Or.inl ⟨by rfl, ?_⟩) hHeld ?_ ?_; rotate_left
                · rintro w' ⟨s0, s1, s2, s3, s4, s5, s6, s7, s8, s9, -⟩; go_simp; with_reducible rfl
                rotate_left
                · simp only [Act.put, setIfInBounds_toArray, set_cons_zero, set_cons_succ, i64_w, i32_w]; rfl
                refine pure_ (i := 39) (N := some 66) (v := ?_) (a' := ?_) (V5 1099511627775) rfl rfl (any_of HT_.out (by kernel_rfl)) (fun _ _ _ h => h) (Or.inl ⟨by rfl, ?_⟩) ?_ ?_; rotate_left
                · intro w'; go_simp; with_reducible rfl
                rotate_left
                · simp only [Act.put, setIfInBounds_toArray, set_cons_zero, set_cons_succ, i64_w, i32_w]; rfl
                refine pure_ (i := 40) (N := some 67) (v := ?_) (a' := ?_) (V5 2199023255551) rfl rfl (any_of HT_.out (by kernel_rfl)) (fun _ _ _ h => h) (Or.inl ⟨by rfl, ?_⟩) ?_ ?_; rotate_left
                · intro w'; go_simp; with_reducible rfl
                rotate_left
                · simp only [Act.put, setIfInBounds_toArray, set_cons_zero, set_cons_succ, i64_w, i32_w]; rfl
                refine pure_ (i := 41) (N := some 68) (v := ?_) (a' := ?_) (V5 4398046511103) rfl rfl (any_of HT_.out (by kernel_rfl)) (fun _ _ _ h => h) (Or.inl ⟨by rfl, ?_⟩) ?_ ?_; rotate_left
                · intro w'; go_simp; with_reducible rfl
                rotate_left
                · simp only [Act.put, setIfInBounds_toArray, set_cons_zero, set_cons_succ, i64_w, i32_w]; rfl
                refine pure_ (i := 42) (N := some 69) (v := undef) (a' := ?_) (V5 8796093022207) rfl rfl (any_of HT_.out (by kernel_rfl)) (fun _ _ _ h => h) (Or.inr ⟨by rfl, rfl⟩) ?_ ?_; rotate_left
                · simp only [Act.put, setIfInBounds_toArray, set_cons_zero, set_cons_succ, i64_w, i32_w]; rfl
                refine pure_ (i := 43) (N := some 70) (v := undef) (a' := ?_) (V5 17592186044415) rfl rfl (any_of HT_.out (by kernel_rfl)) (fun _ _ _ h => h) (Or.inr ⟨by rfl, rfl⟩) ?_ ?_; rotate_left
                · simp only [Act.put, setIfInBounds_toArray, set_cons_zero, set_cons_succ, i64_w, i32_w]; rfl
                refine pure_ (i := 44) (N := some 71) (v := undef) (a' := ?_) (V5 35184372088831) rfl rfl (any_of HT_.out (by kernel_rfl)) (fun _ _ _ h => h) (Or.inr ⟨by rfl, rfl⟩) ?_ ?_; rotate_left
                · simp only [Act.put, setIfInBounds_toArray, set_cons_zero, set_cons_succ, i64_w, i32_w]; rfl
                refine pure_ (i := 45) (N := some 72) (v := undef) (a' := ?_) (V5 70368744177663) rfl rfl (any_of HT_.out (by kernel_rfl)) (fun _ _ _ h => h) (Or.inr ⟨by rfl, rfl⟩) ?_ ?_; rotate_left
                · simp only [Act.put, setIfInBounds_toArray, set_cons_zero, set_cons_succ, i64_w, i32_w]; rfl
                refine pure_ (i := 46) (N := some 73) (v := undef) (a' := ?_) (V5 140737488355327) rfl rfl (any_of HT_.out (by kernel_rfl)) (fun _ _ _ h => h) (Or.inr ⟨by rfl, rfl⟩) ?_ ?_; rotate_left
                · simp only [Act.put, setIfInBounds_toArray, set_cons_zero, set_cons_succ, i64_w, i32_w]; rfl
                refine pure_ (i := 47) (N := some 74) (v := ?_) (a' := ?_) (V5 281474976710655) rfl rfl (any_of HT_.out (by kernel_rfl)) (fun _ _ _ h => h) (Or.inl ⟨by rfl, ?_⟩) ?_ ?_; rotate_left
                · intro w'; go_simp; with_reducible rfl
                rotate_left
                · simp only [Act.put, setIfInBounds_toArray, set_cons_zero, set_cons_succ, i64_w, i32_w]; rfl
                refine pure_ (i := 48) (N := some 75) (v := ?_) (a' := ?_) (V5 562949953421311) rfl rfl (any_of HT_.out (by kernel_rfl)) (fun _ _ _ h => h) (Or.inl ⟨by rfl, ?_⟩) ?_ ?_; rotate_left
                · intro w'; go_simp; with_reducible rfl
                rotate_left
                · simp only [Act.put, setIfInBounds_toArray, set_cons_zero, set_cons_succ, i64_w, i32_w]; rfl
                refine pure_ (i := 49) (N := some 76) (v := ?_) (a' := ?_) (V5 1125899906842623) rfl rfl (any_of HT_.out (by kernel_rfl)) (fun _ _ _ h => h) (Or.inl ⟨by rfl, ?_⟩) ?_ ?_; rotate_left
                · intro w'; go_simp; with_reducible rfl
                rotate_left
                · simp only [Act.put, setIfInBounds_toArray, set_cons_zero, set_cons_succ, i64_w, i32_w]; rfl
                refine pure_ (i := 50) (N := some 77) (v := ?_) (a' := ?_) (V5 2251799813685247) rfl rfl (any_of HT_.out (by kernel_rfl)) (fun _ _ _ h => h) (Or.inl ⟨by rfl, ?_⟩) ?_ ?_; rotate_left
                · intro w'; go_simp; with_reducible rfl
                rotate_left
                · simp only [Act.put, setIfInBounds_toArray, set_cons_zero, set_cons_succ, i64_w, i32_w]; rfl
                refine pure_ (i := 52) (N := some 79) (v := ?_) (a' := ?_) (V5 6755399441055743) rfl rfl (any_of HT_.out (by kernel_rfl)) (fun _ _ _ h => h) (Or.inl ⟨by rfl, ?_⟩) ?_ ?_; rotate_left
                · intro w'; go_simp; with_reducible rfl
                rotate_left
                · simp only [Act.put, setIfInBounds_toArray, set_cons_zero, set_cons_succ, i64_w, i32_w]; rfl
                refine take_ (i := 51) (N := some 78) (v := ?_) (a' := ?_) (V5 9007199254740991) rfl rfl (take_ofW HT_.out HW_.out (by kernel_rfl)) (fun _ _ _ h => h) (Or.inl ⟨by rfl, ?_⟩) hHeld ?_ ?_; rotate_left
                · rintro w' ⟨s0, s1, s2, s3, s4, s5, s6, s7, s8, s9, -⟩; go_simp; with_reducible rfl
                rotate_left
                · simp only [Act.put, setIfInBounds_toArray, set_cons_zero, set_cons_succ, i64_w, i32_w]; rfl
                refine take_ (i := 53) (N := some 80) (v := ?_) (a' := ?_) (V5 18014398509481983) rfl rfl (take_ofW HT_.out HW_.out (by kernel_rfl)) (fun _ _ _ h => h) (Or.inl ⟨by rfl, ?_⟩) hHeld ?_ ?_; rotate_left
                · rintro w' ⟨s0, s1, s2, s3, s4, s5, s6, s7, s8, s9, -⟩; go_simp; with_reducible rfl
                rotate_left
                · simp only [Act.put, setIfInBounds_toArray, set_cons_zero, set_cons_succ, i64_w, i32_w]; rfl
                refine pure_ (i := 54) (N := some 81) (v := ?_) (a' := ?_) (V5 36028797018963967) rfl rfl (any_of HT_.out (by kernel_rfl)) (fun _ _ _ h => h) (Or.inl ⟨by rfl, ?_⟩) ?_ ?_; rotate_left
                · intro w'; go_simp; with_reducible rfl
                rotate_left
                · simp only [Act.put, setIfInBounds_toArray, set_cons_zero, set_cons_succ, i64_w, i32_w]; rfl
                refine pure_ (i := 55) (N := some 82) (v := ?_) (a' := ?_) (V5 72057594037927935) rfl rfl (any_of HT_.out (by kernel_rfl)) (fun _ _ _ h => h) (Or.inl ⟨by rfl, ?_⟩) ?_ ?_; rotate_left
                · intro w'; go_simp; with_reducible rfl
                rotate_left
                · simp only [Act.put, setIfInBounds_toArray, set_cons_zero, set_cons_succ, i64_w, i32_w]; rfl
                refine pure_ (i := 56) (N := some 83) (v := ?_) (a' := ?_) (V5 144115188075855871) rfl rfl (any_of HT_.out (by kernel_rfl)) (fun _ _ _ h => h) (Or.inl ⟨by rfl, ?_⟩) ?_ ?_; rotate_left
                · intro w'; go_simp; with_reducible rfl
                rotate_left
                · simp only [Act.put, setIfInBounds_toArray, set_cons_zero, set_cons_succ, i64_w, i32_w]; rfl
                refine pure_ (i := 58) (N := some 85) (v := ?_) (a' := ?_) (V5 432345564227567615) rfl rfl (any_of HT_.out (by kernel_rfl)) (fun _ _ _ h => h) (Or.inl ⟨by rfl, ?_⟩) ?_ ?_; rotate_left
                · intro w'; go_simp; with_reducible rfl
                rotate_left
                · simp only [Act.put, setIfInBounds_toArray, set_cons_zero, set_cons_succ, i64_w, i32_w]; rfl
                refine take_ (i := 57) (N := some 84) (v := .agg mc2) (a' := ?_) (V5 576460752303423487) rfl rfl (take_ofW HT_.out HW_.out (by kernel_rfl)) (fun _ _ _ h => h) (Or.inl ⟨by rfl, fun w' hs => Go.Proofs.Ythapknnppabdaaa.Fill.row_yields 29 _ rfl p2 rfl 29 mc2 (0, 0) _ hs.2.2.2.2.2.2.2.2.2.2 hu29.out rfl HZ.out.2.2.2.2⟩) hHeld ?_ ?_; rotate_left
                · simp only [Act.put, setIfInBounds_toArray, set_cons_zero, set_cons_succ, i64_w, i32_w]; rfl
                refine take_ (i := 60) (N := some 87) (v := .agg mc2) (a' := ?_) (V5 1729382256910270463) rfl rfl (take_ofW HT_.out HW_.out (by kernel_rfl)) (fun _ _ _ h => h) (Or.inl ⟨by rfl, fun w' hs => Go.Proofs.Ythapknnppabdaaa.Fill.row_yields 29 _ rfl p2 rfl 29 mc2 (0, 0) _ hs.2.2.2.2.2.2.2.2.2.2 hu29.out rfl HZ.out.2.2.2.2⟩) hHeld ?_ ?_; rotate_left
                · simp only [Act.put, setIfInBounds_toArray, set_cons_zero, set_cons_succ, i64_w, i32_w]; rfl
                refine one_ (i := 59) (N := some 86) (V5 2305843009213693951) rfl rfl (one_of HT_.out (by kernel_rfl)) (by decide) (fun K hK => ?_)
                refine goes_ Try.func13 (by kernel_rfl) rfl #[.agg mc2, .agg #[.string ⟨#[]⟩, .string ⟨#[]⟩, .string ⟨#[]⟩, .slice none 0 0, .slice none 0 0]] (by rfl) rfl rfl (by (try simp only [List.map_toArray, List.map_cons, List.map_nil]); first | done | rfl) ?_
                with_reducible refine (H13.out _ hbd).mono ?_
                rintro e w120 ⟨nc, rfl, hk13, hb⟩
                have HK13 := Aside0.mk hk13; clear hk13
                refine ⟨_, rfl, ?_⟩
                have hbn := below_step hbd hb; clear hbd hHeld hb; have hbd := hbn; clear hbn
                refine hK.out _ _ (HKp.out _ hbd) (fun hHeld => ?_)
                clear hK K
                refine norm_ (a' := ?_) ?_ ?_; rotate_left
                · show Act.put _ (some 86) _ = _
                  simp only [Act.put, setIfInBounds_toArray, set_cons_zero, set_cons_succ, i64_w, i32_w]; rfl
                refine one_ (i := 61) (N := some 88) (V5 4611686018427387903) rfl rfl (one_of HT_.out (by kernel_rfl)) (by decide) (fun K hK => ?_)
                refine goes_ Try.func11 (by kernel_rfl) rfl #[.agg nc, .agg mc2] (by rfl) rfl rfl (by (try simp only [List.map_toArray, List.map_cons, List.map_nil]); first | done | rfl) ?_
                with_reducible refine (H11.out _ _ hbd HK13.out).mono ?_
                rintro e w121 ⟨rfl, hb⟩
                refine ⟨_, rfl, ?_⟩
                have hbn := below_step hbd hb; clear hbd hHeld hb; have hbd := hbn; clear hbn
                refine hK.out _ _ (HKp.out _ hbd) (fun hHeld => ?_)
                clear hK K
                refine norm_ (a' := ?_) ?_ ?_; rotate_left
                · show Act.put _ (some 88) _ = _
                  simp only [Act.put, setIfInBounds_toArray, set_cons_zero, set_cons_succ, i64_w, i32_w]; rfl
                refine pure_ (i := 62) (N := some 89) (v := ?_) (a' := ?_) (V5 9223372036854775807) rfl rfl (any_of HT_.out (by kernel_rfl)) (fun _ _ _ h => h) (Or.inl ⟨by rfl, ?_⟩) ?_ ?_; rotate_left
                · intro w'; go_simp; with_reducible rfl
                rotate_left
                · simp only [Act.put, setIfInBounds_toArray, set_cons_zero, set_cons_succ, i64_w, i32_w]; rfl
                refine pure_ (i := 63) (N := some 4) (v := ?_) (a' := ?_) (V5 18446744073709551615) rfl rfl (any_of HT_.out (by kernel_rfl)) (fun _ _ _ h => h) (Or.inl ⟨by rfl, ?_⟩) ?_ ?_; rotate_left
                · intro w'; go_simp; with_reducible rfl
                rotate_left
                · simp only [Act.put, setIfInBounds_toArray, set_cons_zero, set_cons_succ, i64_w, i32_w]; rfl
                refine done_ (done_of HT_.out (by kernel_rfl)) ?_
                try go_wp2
                go_ret
                exact ⟨rfl, below_step HB5.out hbd⟩
            · have c4p : y.f4.length > 0 := by omega
              have H21' := Aside0.mk (H21.out c4p)
              have c4b : ((y.f4.length : Int) == 0) = false := beq_eq_false_iff_ne.2 (by omega)
              clear c4p
              clear c4' H21
              as_aux_lemma =>
                go_wp2_with fail
                have HKp : Aside0 (∀ w', Below w5.heap.size w5 w' → w'.cell? ⟨p5, 1, none⟩ = some (.int .i64 bx.f1) ∧ w'.cell? ⟨p5, 8, none⟩ = some (.string ⟨#[]⟩) ∧ w'.cell? ⟨p5, 9, none⟩ = some (.string ⟨#[]⟩) ∧ w'.cell? ⟨p5, 18, none⟩ = some (.string y.f0) ∧ w'.cell? ⟨p5, 19, none⟩ = some (.slice B19 L18 d19) ∧ w'.cell? ⟨p5, 20, none⟩ = some (.slice B20 L19 d20) ∧ w'.cell? ⟨p3, 0, none⟩ = some (.string y.f0) ∧ w'.cell? ⟨p3, 3, none⟩ = some (.slice A3 y.f3.length c3) ∧ w'.cell? ⟨p3, 4, none⟩ = some (.slice A4 y.f4.length c4) ∧ w'.cell? ⟨p2, 1, none⟩ = some (.int .i64 bx.f1) ∧ w'.heap[p2]? = some (.cells mc2 29 (0, 0))) := ⟨fun w' hb => ⟨(hb.cell (World.block_lt_of_cell? w5 _ z1)).trans z1, (hb.cell (World.block_lt_of_cell? w5 _ z8)).trans z8, (hb.cell (World.block_lt_of_cell? w5 _ z9)).trans z9, (hb.cell (World.block_lt_of_cell? w5 _ z18)).trans z18, (hb.cell (World.block_lt_of_cell? w5 _ z19)).trans z19, (hb.cell (World.block_lt_of_cell? w5 _ z20)).trans z20, (hb.cell (World.block_lt_of_cell? w5 _ q0)).trans q0, (hb.cell (World.block_lt_of_cell? w5 _ q3)).trans q3, (hb.cell (World.block_lt_of_cell? w5 _ q4)).trans q4, (hb.cell (World.block_lt_of_cell? w5 _ y1)).trans y1, (HW.out w' hb).2.1⟩⟩
                clear z1 z8 z9 z18 z19 z20 q0 q3 q4 y1
                refine start_ (n := 64) (ds := []) (S := fun w' => w'.cell? ⟨p5, 1, none⟩ = some (.int .i64 bx.f1) ∧ w'.cell? ⟨p5, 8, none⟩ = some (.string ⟨#[]⟩) ∧ w'.cell? ⟨p5, 9, none⟩ = some (.string ⟨#[]⟩) ∧ w'.cell? ⟨p5, 18, none⟩ = some (.string y.f0) ∧ w'.cell? ⟨p5, 19, none⟩ = some (.slice B19 L18 d19) ∧ w'.cell? ⟨p5, 20, none⟩ = some (.slice B20 L19 d20) ∧ w'.cell? ⟨p3, 0, none⟩ = some (.string y.f0) ∧ w'.cell? ⟨p3, 3, none⟩ = some (.slice A3 y.f3.length c3) ∧ w'.cell? ⟨p3, 4, none⟩ = some (.slice A4 y.f4.length c4) ∧ w'.cell? ⟨p2, 1, none⟩ = some (.int .i64 bx.f1) ∧ w'.heap[p2]? = some (.cells mc2 29 (0, 0))) (V5 0) (by rfl) (by rfl) (by kernel_rfl) (HKp.out _ hbd) (fun hHeld => ?_); refine with_tabW tab5 bits5 (fun HT_ HW_ => ?_)
                generalize w5.drew = wd at hbd hHeld ⊢
                refine one_ (i := 0) (N := some 27) (V5 1) rfl rfl (one_of HT_.out (by kernel_rfl)) (by decide) (fun K hK => ?_)
                refine goes_ Try.func8 (by kernel_rfl) rfl #[] (by rfl) rfl rfl (by (try simp only [List.map_toArray, List.map_cons, List.map_nil]); first | done | rfl) ?_
                with_reducible refine (H8.out _).mono ?_
                rintro e w60 ⟨rfl, hb⟩
                refine ⟨_, rfl, ?_⟩
                have hbn := below_step hbd hb; clear hbd hHeld hb; have hbd := hbn; clear hbn
                refine hK.out _ _ (HKp.out _ hbd) (fun hHeld => ?_)
                clear hK K
                refine norm_ (a' := ?_) ?_ ?_; rotate_left
                · show Act.put _ (some 27) _ = _
                  simp only [Act.put, setIfInBounds_toArray, set_cons_zero, set_cons_succ, i64_w, i32_w]; rfl
                refine pure_ (i := 1) (N := some 28) (v := ?_) (a' := ?_) (V5 3) rfl rfl (any_of HT_.out (by kernel_rfl)) (fun _ _ _ h => h) (Or.inl ⟨by rfl, ?_⟩) ?_ ?_; rotate_left
                · intro w'; go_simp; with_reducible rfl
                rotate_left
                · simp only [Act.put, setIfInBounds_toArray, set_cons_zero, set_cons_succ, i64_w, i32_w]; rfl
                refine pure_ (i := 2) (N := some 29) (v := ?_) (a' := ?_) (V5 7) rfl rfl (any_of HT_.out (by kernel_rfl)) (fun _ _ _ h => h) (Or.inl ⟨by rfl, ?_⟩) ?_ ?_; rotate_left
                · intro w'; go_simp; with_reducible rfl
                rotate_left
                · simp only [Act.put, setIfInBounds_toArray, set_cons_zero, set_cons_succ, i64_w, i32_w]; rfl
                refine take_ (i := 3) (N := some 30) (v := ?_) (a' := ?_) (V5 15) rfl rfl (take_ofW HT_.out HW_.out (by kernel_rfl)) (fun _ _ _ h => h) (Or.inl ⟨by rfl, ?_⟩) hHeld ?_ ?_; rotate_left
                · rintro w' ⟨s0, s1, s2, s3, s4, s5, s6, s7, s8, s9, -⟩; go_simp; with_reducible rfl
                rotate_left
                · simp only [Act.put, setIfInBounds_toArray, set_cons_zero, set_cons_succ, i64_w, i32_w]; rfl
                refine pure_ (i := 4) (N := some 31) (v := ?_) (a' := ?_) (V5 31) rfl rfl (any_of HT_.out (by kernel_rfl)) (fun _ _ _ h => h) (Or.inl ⟨by rfl, ?_⟩) ?_ ?_; rotate_left
                · intro w'; go_simp; with_reducible rfl
                rotate_left
                · simp only [Act.put, setIfInBounds_toArray, set_cons_zero, set_cons_succ, i64_w, i32_w]; rfl
                refine pure_ (i := 5) (N := some 32) (v := ?_) (a' := ?_) (V5 63) rfl rfl (any_of HT_.out (by kernel_rfl)) (fun _ _ _ h => h) (Or.inl ⟨by rfl, ?_⟩) ?_ ?_; rotate_left
                · intro w'; go_simp; with_reducible rfl
                rotate_left
                · simp only [Act.put, setIfInBounds_toArray, set_cons_zero, set_cons_succ, i64_w, i32_w]; rfl
                refine pure_ (i := 6) (N := some 33) (v := ?_) (a' := ?_) (V5 127) rfl rfl (any_of HT_.out (by kernel_rfl)) (fun _ _ _ h => h) (Or.inl ⟨by rfl, ?_⟩) ?_ ?_; rotate_left
                · intro w'; go_simp; with_reducible rfl
                rotate_left
                · simp only [Act.put, setIfInBounds_toArray, set_cons_zero, set_cons_succ, i64_w, i32_w]; rfl
                refine pure_ (i := 7) (N := some 34) (v := ?_) (a' := ?_) (V5 255) rfl rfl (any_of HT_.out (by kernel_rfl)) (fun _ _ _ h => h) (Or.inl ⟨by rfl, ?_⟩) ?_ ?_; rotate_left
                · intro w'; go_simp; with_reducible rfl
                rotate_left
                · simp only [Act.put, setIfInBounds_toArray, set_cons_zero, set_cons_succ, i64_w, i32_w]; rfl
                refine take_ (i := 8) (N := some 35) (v := ?_) (a' := ?_) (V5 511) rfl rfl (take_ofW HT_.out HW_.out (by kernel_rfl)) (fun _ _ _ h => h) (Or.inl ⟨by rfl, ?_⟩) hHeld ?_ ?_; rotate_left
                · rintro w' ⟨s0, s1, s2, s3, s4, s5, s6, s7, s8, s9, -⟩; go_simp; with_reducible rfl
                rotate_left
                · simp only [Act.put, setIfInBounds_toArray, set_cons_zero, set_cons_succ, i64_w, i32_w]; rfl
                refine pure_ (i := 9) (N := some 36) (v := ?_) (a' := ?_) (V5 1023) rfl rfl (any_of HT_.out (by kernel_rfl)) (fun _ _ _ h => h) (Or.inl ⟨by rfl, ?_⟩) ?_ ?_; rotate_left
                · intro w'; go_simp; with_reducible rfl
                rotate_left
                · simp only [Act.put, setIfInBounds_toArray, set_cons_zero, set_cons_succ, i64_w, i32_w]; rfl
                refine pure_ (i := 10) (N := some 37) (v := ?_) (a' := ?_) (V5 2047) rfl rfl (any_of HT_.out (by kernel_rfl)) (fun _ _ _ h => h) (Or.inl ⟨by rfl, ?_⟩) ?_ ?_; rotate_left
                · intro w'; go_simp; with_reducible rfl
                rotate_left
                · simp only [Act.put, setIfInBounds_toArray, set_cons_zero, set_cons_succ, i64_w, i32_w]; rfl
                refine pure_ (i := 11) (N := some 38) (v := ?_) (a' := ?_) (V5 4095) rfl rfl (any_of HT_.out (by kernel_rfl)) (fun _ _ _ h => h) (Or.inl ⟨by rfl, ?_⟩) ?_ ?_; rotate_left
                · intro w'; go_simp; with_reducible rfl
                rotate_left
                · simp only [Act.put, setIfInBounds_toArray, set_cons_zero, set_cons_succ, i64_w, i32_w]; rfl
                refine pure_ (i := 12) (N := some 39) (v := ?_) (a' := ?_) (V5 8191) rfl rfl (any_of HT_.out (by kernel_rfl)) (fun _ _ _ h => h) (Or.inl ⟨by rfl, ?_⟩) ?_ ?_; rotate_left
                · intro w'; go_simp; with_reducible rfl
                rotate_left
                · simp only [Act.put, setIfInBounds_toArray, set_cons_zero, set_cons_succ, i64_w, i32_w]; rfl
                refine take_ (i := 13) (N := some 40) (v := ?_) (a' := ?_) (V5 16383) rfl rfl (take_ofW HT_.out HW_.out (by kernel_rfl)) (fun _ _ _ h => h) (Or.inl ⟨by rfl, ?_⟩) hHeld ?_ ?_; rotate_left
                · rintro w' ⟨s0, s1, s2, s3, s4, s5, s6, s7, s8, s9, -⟩; go_simp; with_reducible rfl
                rotate_left
                · simp only [Act.put, setIfInBounds_toArray, set_cons_zero, set_cons_succ, i64_w, i32_w]; rfl
                refine pure_ (i := 14) (N := some 41) (v := ?_) (a' := ?_) (V5 32767) rfl rfl (any_of HT_.out (by kernel_rfl)) (fun _ _ _ h => h) (Or.inl ⟨by rfl, ?_⟩) ?_ ?_; rotate_left
                · intro w'; go_simp; with_reducible rfl
                rotate_left
                · simp only [Act.put, setIfInBounds_toArray, set_cons_zero, set_cons_succ, i64_w, i32_w]; rfl
                refine pure_ (i := 15) (N := some 42) (v := ?_) (a' := ?_) (V5 65535) rfl rfl (any_of HT_.out (by kernel_rfl)) (fun _ _ _ h => h) (Or.inl ⟨by rfl, ?_⟩) ?_ ?_; rotate_left
                · intro w'; go_simp; with_reducible rfl
                rotate_left
                · simp only [Act.put, setIfInBounds_toArray, set_cons_zero, set_cons_succ, i64_w, i32_w]; rfl
                refine pure_ (i := 16) (N := some 43) (v := ?_) (a' := ?_) (V5 131071) rfl rfl (any_of HT_.out (by kernel_rfl)) (fun _ _ _ h => h) (Or.inl ⟨by rfl, ?_⟩) ?_ ?_; rotate_left
                · intro w'; go_simp; with_reducible rfl
                rotate_left
                · simp only [Act.put, setIfInBounds_toArray, set_cons_zero, set_cons_succ, i64_w, i32_w]; rfl
                refine pure_ (i := 18) (N := some 45) (v := ?_) (a' := ?_) (V5 393215) rfl rfl (any_of HT_.out (by kernel_rfl)) (fun _ _ _ h => h) (Or.inl ⟨by rfl, ?_⟩) ?_ ?_; rotate_left
                · intro w'; go_simp; with_reducible rfl
                rotate_left
                · simp only [Act.put, setIfInBounds_toArray, set_cons_zero, set_cons_succ, i64_w, i32_w]; rfl
                refine take_ (i := 17) (N := some 44) (v := ?_) (a' := ?_) (V5 524287) rfl rfl (take_ofW HT_.out HW_.out (by kernel_rfl)) (fun _ _ _ h => h) (Or.inl ⟨by rfl, ?_⟩) hHeld ?_ ?_; rotate_left
                · rintro w' ⟨s0, s1, s2, s3, s4, s5, s6, s7, s8, s9, -⟩; go_simp; with_reducible rfl
                rotate_left
                · simp only [Act.put, setIfInBounds_toArray, set_cons_zero, set_cons_succ, i64_w, i32_w]; rfl
                refine take_ (i := 19) (N := some 46) (v := ?_) (a' := ?_) (V5 1048575) rfl rfl (take_ofW HT_.out HW_.out (by kernel_rfl)) (fun _ _ _ h => h) (Or.inl ⟨by rfl, ?_⟩) hHeld ?_ ?_; rotate_left
                · rintro w' ⟨s0, s1, s2, s3, s4, s5, s6, s7, s8, s9, -⟩; go_simp; with_reducible rfl
                rotate_left
                · simp only [Act.put, setIfInBounds_toArray, set_cons_zero, set_cons_succ, i64_w, i32_w]; rfl
                refine pure_ (i := 20) (N := some 47) (v := ?_) (a' := ?_) (V5 2097151) rfl rfl (any_of HT_.out (by kernel_rfl)) (fun _ _ _ h => h) (Or.inl ⟨by rfl, ?_⟩) ?_ ?_; rotate_left
                · intro w'; go_simp; with_reducible rfl
                rotate_left
                · simp only [Act.put, setIfInBounds_toArray, set_cons_zero, set_cons_succ, i64_w, i32_w]; rfl
                refine pure_ (i := 21) (N := some 48) (v := ?_) (a' := ?_) (V5 4194303) rfl rfl (any_of HT_.out (by kernel_rfl)) (fun _ _ _ h => h) (Or.inl ⟨by rfl, ?_⟩) ?_ ?_; rotate_left
                · intro w'; go_simp; with_reducible rfl
                rotate_left
                · simp only [Act.put, setIfInBounds_toArray, set_cons_zero, set_cons_succ, i64_w, i32_w]; rfl
                refine pure_ (i := 22) (N := some 49) (v := ?_) (a' := ?_) (V5 8388607) rfl rfl (any_of HT_.out (by kernel_rfl)) (fun _ _ _ h => h) (Or.inl ⟨by rfl, ?_⟩) ?_ ?_; rotate_left
                · intro w'; go_simp; with_reducible rfl
                rotate_left
                · simp only [Act.put, setIfInBounds_toArray, set_cons_zero, set_cons_succ, i64_w, i32_w]; rfl
                refine pure_ (i := 23) (N := some 50) (v := ?_) (a' := ?_) (V5 16777215) rfl rfl (any_of HT_.out (by kernel_rfl)) (fun _ _ _ h => h) (Or.inl ⟨by rfl, ?_⟩) ?_ ?_; rotate_left
                · intro w'; go_simp; with_reducible rfl
                rotate_left
                · simp only [Act.put, setIfInBounds_toArray, set_cons_zero, set_cons_succ, i64_w, i32_w]; rfl
                refine pure_ (i := 24) (N := some 51) (v := ?_) (a' := ?_) (V5 33554431) rfl rfl (any_of HT_.out (by kernel_rfl)) (fun _ _ _ h => h) (Or.inl ⟨by rfl, ?_⟩) ?_ ?_; rotate_left
                · intro w'; go_simp; with_reducible rfl
                rotate_left
                · simp only [Act.put, setIfInBounds_toArray, set_cons_zero, set_cons_succ, i64_w, i32_w]; rfl
                refine take_ (i := 25) (N := some 52) (v := ?_) (a' := ?_) (V5 67108863) rfl rfl (take_ofW HT_.out HW_.out (by kernel_rfl)) (fun _ _ _ h => h) (Or.inl ⟨by rfl, ?_⟩) hHeld ?_ ?_; rotate_left
                · rintro w' ⟨s0, s1, s2, s3, s4, s5, s6, s7, s8, s9, -⟩; go_simp; with_reducible rfl
                rotate_left
                · simp only [Act.put, setIfInBounds_toArray, set_cons_zero, set_cons_succ, i64_w, i32_w]; rfl
                refine pure_ (i := 26) (N := some 53) (v := ?_) (a' := ?_) (V5 134217727) rfl rfl (any_of HT_.out (by kernel_rfl)) (fun _ _ _ h => h) (Or.inl ⟨by rfl, ?_⟩) ?_ ?_; rotate_left
                · intro w'; go_simp; with_reducible rfl
                rotate_left
                · simp only [Act.put, setIfInBounds_toArray, set_cons_zero, set_cons_succ, i64_w, i32_w]; rfl
                refine pure_ (i := 27) (N := some 54) (v := ?_) (a' := ?_) (V5 268435455) rfl rfl (any_of HT_.out (by kernel_rfl)) (fun _ _ _ h => h) (Or.inl ⟨by rfl, ?_⟩) ?_ ?_; rotate_left
                · intro w'; go_simp; with_reducible rfl
                rotate_left
                · simp only [Act.put, setIfInBounds_toArray, set_cons_zero, set_cons_succ, i64_w, i32_w]; rfl
                refine pure_ (i := 28) (N := some 55) (v := ?_) (a' := ?_) (V5 536870911) rfl rfl (any_of HT_.out (by kernel_rfl)) (fun _ _ _ h => h) (Or.inl ⟨by rfl, ?_⟩) ?_ ?_; rotate_left
                · intro w'; go_simp; with_reducible rfl
                rotate_left
                · simp only [Act.put, setIfInBounds_toArray, set_cons_zero, set_cons_succ, i64_w, i32_w]; rfl
                refine pure_ (i := 29) (N := some 56) (v := undef) (a' := ?_) (V5 1073741823) rfl rfl (any_of HT_.out (by kernel_rfl)) (fun _ _ _ h => h) (Or.inr ⟨by rfl, rfl⟩) ?_ ?_; rotate_left
                · simp only [Act.put, setIfInBounds_toArray, set_cons_zero, set_cons_succ, i64_w, i32_w]; rfl
                refine pure_ (i := 30) (N := some 57) (v := undef) (a' := ?_) (V5 2147483647) rfl rfl (any_of HT_.out (by kernel_rfl)) (fun _ _ _ h => h) (Or.inr ⟨by rfl, rfl⟩) ?_ ?_; rotate_left
                · simp only [Act.put, setIfInBounds_toArray, set_cons_zero, set_cons_succ, i64_w, i32_w]; rfl
                refine pure_ (i := 31) (N := some 58) (v := undef) (a' := ?_) (V5 4294967295) rfl rfl (any_of HT_.out (by kernel_rfl)) (fun _ _ _ h => h) (Or.inr ⟨by rfl, rfl⟩) ?_ ?_; rotate_left
                · simp only [Act.put, setIfInBounds_toArray, set_cons_zero, set_cons_succ, i64_w, i32_w]; rfl
                refine pure_ (i := 32) (N := some 59) (v := undef) (a' := ?_) (V5 8589934591) rfl rfl (any_of HT_.out (by kernel_rfl)) (fun _ _ _ h => h) (Or.inr ⟨by rfl, rfl⟩) ?_ ?_; rotate_left
                · simp only [Act.put, setIfInBounds_toArray, set_cons_zero, set_cons_succ, i64_w, i32_w]; rfl
                refine pure_ (i := 33) (N := some 60) (v := undef) (a' := ?_) (V5 17179869183) rfl rfl (any_of HT_.out (by kernel_rfl)) (fun _ _ _ h => h) (Or.inr ⟨by rfl, rfl⟩) ?_ ?_; rotate_left
                · simp only [Act.put, setIfInBounds_toArray, set_cons_zero, set_cons_succ, i64_w, i32_w]; rfl
                refine pure_ (i := 34) (N := some 61) (v := ?_) (a' := ?_) (V5 34359738367) rfl rfl (any_of HT_.out (by kernel_rfl)) (fun _ _ _ h => h) (Or.inl ⟨by rfl, ?_⟩) ?_ ?_; rotate_left
                · intro w'; go_simp; with_reducible rfl
                rotate_left
                · simp only [Act.put, setIfInBounds_toArray, set_cons_zero, set_cons_succ, i64_w, i32_w]; rfl
                refine pure_ (i := 35) (N := some 62) (v := ?_) (a' := ?_) (V5 68719476735) rfl rfl (any_of HT_.out (by kernel_rfl)) (fun _ _ _ h => h) (Or.inl ⟨by rfl, ?_⟩) ?_ ?_; rotate_left
                · intro w'; go_simp; with_reducible rfl
                rotate_left
                · simp only [Act.put, setIfInBounds_toArray, set_cons_zero, set_cons_succ, i64_w, i32_w]; rfl
                refine pure_ (i := 36) (N := some 63) (v := ?_) (a' := ?_) (V5 137438953471) rfl rfl (any_of HT_.out (by kernel_rfl)) (fun _ _ _ h => h) (Or.inl ⟨by rfl, ?_⟩) ?_ ?_; rotate_left
                · intro w'; go_simp; with_reducible rfl
                rotate_left
                · simp only [Act.put, setIfInBounds_toArray, set_cons_zero, set_cons_succ, i64_w, i32_w]; rfl
                refine pure_ (i := 37) (N := some 64) (v := ?_) (a' := ?_) (V5 274877906943) rfl rfl (any_of HT_.out (by kernel_rfl)) (fun _ _ _ h => h) (Or.inl ⟨by rfl, ?_⟩) ?_ ?_; rotate_left
                · intro w'; go_simp; with_reducible rfl
                rotate_left
                · simp only [Act.put, setIfInBounds_toArray, set_cons_zero, set_cons_succ, i64_w, i32_w]; rfl
                refine take_ (i := 38) (N := some 65) (v := ?_) (a' := ?_) (V5 549755813887) rfl rfl (take_ofW HT_.out HW_.out (by kernel_rfl)) (fun _ _ _ h => h) (Or.inl ⟨by rfl, ?_⟩) hHeld ?_ ?_; rotate_left
                · rintro w' ⟨s0, s1, s2, s3, s4, s5, s6, s7, s8, s9, -⟩; go_simp; with_reducible rfl
                rotate_left
                · simp only [Act.put, setIfInBounds_toArray, set_cons_zero, set_cons_succ, i64_w, i32_w]; rfl
                refine pure_ (i := 39) (N := some 66) (v := ?_) (a' := ?_) (V5 1099511627775) rfl rfl (any_of HT_.out (by kernel_rfl)) (fun _ _ _ h => h) (Or.inl ⟨by rfl, ?_⟩) ?_ ?_; rotate_left
                · intro w'; go_simp; with_reducible rfl
                rotate_left
                · simp only [Act.put, setIfInBounds_toArray, set_cons_zero, set_cons_succ, i64_w, i32_w]; rfl
                refine pure_ (i := 40) (N := some 67) (v := ?_) (a' := ?_) (V5 2199023255551) rfl rfl (any_of HT_.out (by kernel_rfl)) (fun _ _ _ h => h) (Or.inl ⟨by rfl, ?_⟩) ?_ ?_; rotate_left
                · intro w'; go_simp; with_reducible rfl
                rotate_left
                · simp only [Act.put, setIfInBounds_toArray, set_cons_zero, set_cons_succ, i64_w, i32_w]; rfl
                refine pure_ (i := 41) (N := some 68) (v := ?_) (a' := ?_) (V5 4398046511103) rfl rfl (any_of HT_.out (by kernel_rfl)) (fun _ _ _ h => h) (Or.inl ⟨by rfl, ?_⟩) ?_ ?_; rotate_left
                · intro w'; go_simp; with_reducible rfl
                rotate_left
                · simp only [Act.put, setIfInBounds_toArray, set_cons_zero, set_cons_succ, i64_w, i32_w]; rfl
                refine pure_ (i := 42) (N := some 69) (v := ?_) (a' := ?_) (V5 8796093022207) rfl rfl (any_of HT_.out (by kernel_rfl)) (fun _ _ _ h => h) (Or.inl ⟨by rfl, ?_⟩) ?_ ?_; rotate_left
                · intro w'; go_simp; with_reducible rfl
                rotate_left
                · simp only [Act.put, setIfInBounds_toArray, set_cons_zero, set_cons_succ, i64_w, i32_w]; rfl
                refine pure_ (i := 44) (N := some 71) (v := ?_) (a' := ?_) (V5 26388279066623) rfl rfl (any_of HT_.out (by kernel_rfl)) (fun _ _ _ h => h) (Or.inl ⟨by rfl, ?_⟩) ?_ ?_; rotate_left
                · intro w'; go_simp; with_reducible rfl
                rotate_left
                · simp only [Act.put, setIfInBounds_toArray, set_cons_zero, set_cons_succ, i64_w, i32_w]; rfl
                refine take_ (i := 43) (N := some 70) (v := ?_) (a' := ?_) (V5 35184372088831) rfl rfl (take_ofW HT_.out HW_.out (by kernel_rfl)) (fun _ _ _ h => h) (Or.inl ⟨by rfl, ?_⟩) hHeld ?_ ?_; rotate_left
                · rintro w' ⟨s0, s1, s2, s3, s4, s5, s6, s7, s8, s9, -⟩; go_simp; with_reducible rfl
                rotate_left
                · simp only [Act.put, setIfInBounds_toArray, set_cons_zero, set_cons_succ, i64_w, i32_w]; rfl
                refine take_ (i := 45) (N := some 72) (v := ?_) (a' := ?_) (V5 70368744177663) rfl rfl (take_ofW HT_.out HW_.out (by kernel_rfl)) (fun _ _ _ h => h) (Or.inl ⟨by rfl, ?_⟩) hHeld ?_ ?_; rotate_left
                · rintro w' ⟨s0, s1, s2, s3, s4, s5, s6, s7, s8, s9, -⟩; go_simp; with_reducible rfl
                rotate_left
                · simp only [Act.put, setIfInBounds_toArray, set_cons_zero, set_cons_succ, i64_w, i32_w]; rfl
                refine one_ (i := 46) (N := some 73) (V5 140737488355327) rfl rfl (one_of HT_.out (by kernel_rfl)) (by decide) (fun K hK => ?_)
                refine goes_ Try.func21 (by kernel_rfl) rfl #[.slice B20 L19 d20, .slice A4 y.f4.length c4, .func (.func 22) #[] #[]] (by rfl) rfl rfl (by (try simp only [List.map_toArray, List.map_cons, List.map_nil]); first | done | rfl) ?_
                with_reducible refine (H21'.out _ hbd).mono ?_
                rintro e w106 ⟨rfl, hb⟩
                refine ⟨_, rfl, ?_⟩
                have hbn := below_step hbd hb; clear hbd hHeld hb; have hbd := hbn; clear hbn
                refine hK.out _ _ (HKp.out _ hbd) (fun hHeld => ?_)
                clear hK K
                refine norm_ (a' := ?_) ?_ ?_; rotate_left
                · show Act.put _ (some 73) _ = _
                  simp only [Act.put, setIfInBounds_toArray, set_cons_zero, set_cons_succ, i64_w, i32_w]; rfl
                refine pure_ (i := 47) (N := some 74) (v := ?_) (a' := ?_) (V5 281474976710655) rfl rfl (any_of HT_.out (by kernel_rfl)) (fun _ _ _ h => h) (Or.inl ⟨by rfl, ?_⟩) ?_ ?_; rotate_left
                · intro w'; go_simp; with_reducible rfl
                rotate_left
                · simp only [Act.put, setIfInBounds_toArray, set_cons_zero, set_cons_succ, i64_w, i32_w]; rfl
                refine pure_ (i := 48) (N := some 75) (v := ?_) (a' := ?_) (V5 562949953421311) rfl rfl (any_of HT_.out (by kernel_rfl)) (fun _ _ _ h => h) (Or.inl ⟨by rfl, ?_⟩) ?_ ?_; rotate_left
                · intro w'; go_simp; with_reducible rfl
                rotate_left
                · simp only [Act.put, setIfInBounds_toArray, set_cons_zero, set_cons_succ, i64_w, i32_w]; rfl
                refine pure_ (i := 49) (N := some 76) (v := ?_) (a' := ?_) (V5 1125899906842623) rfl rfl (any_of HT_.out (by kernel_rfl)) (fun _ _ _ h => h) (Or.inl ⟨by rfl, ?_⟩) ?_ ?_; rotate_left
                · intro w'; go_simp; with_reducible rfl
                rotate_left
                · simp only [Act.put, setIfInBounds_toArray, set_cons_zero, set_cons_succ, i64_w, i32_w]; rfl
                refine pure_ (i := 50) (N := some 77) (v := ?_) (a' := ?_) (V5 2251799813685247) rfl rfl (any_of HT_.out (by kernel_rfl)) (fun _ _ _ h => h) (Or.inl ⟨by rfl, ?_⟩) ?_ ?_; rotate_left
                · intro w'; go_simp; with_reducible rfl
                rotate_left
                · simp only [Act.put, setIfInBounds_toArray, set_cons_zero, set_cons_succ, i64_w, i32_w]; rfl
                refine pure_ (i := 52) (N := some 79) (v := ?_) (a' := ?_) (V5 6755399441055743) rfl rfl (any_of HT_.out (by kernel_rfl)) (fun _ _ _ h => h) (Or.inl ⟨by rfl, ?_⟩) ?_ ?_; rotate_left
                · intro w'; go_simp; with_reducible rfl
                rotate_left
                · simp only [Act.put, setIfInBounds_toArray, set_cons_zero, set_cons_succ, i64_w, i32_w]; rfl
                refine take_ (i := 51) (N := some 78) (v := ?_) (a' := ?_) (V5 9007199254740991) rfl rfl (take_ofW HT_.out HW_.out (by kernel_rfl)) (fun _ _ _ h => h) (Or.inl ⟨by rfl, ?_⟩) hHeld ?_ ?_; rotate_left
                · rintro w' ⟨s0, s1, s2, s3, s4, s5, s6, s7, s8, s9, -⟩; go_simp; with_reducible rfl
                rotate_left
                · simp only [Act.put, setIfInBounds_toArray, set_cons_zero, set_cons_succ, i64_w, i32_w]; rfl
                refine take_ (i := 53) (N := some 80) (v := ?_) (a' := ?_) (V5 18014398509481983) rfl rfl (take_ofW HT_.out HW_.out (by kernel_rfl)) (fun _ _ _ h => h) (Or.inl ⟨by rfl, ?_⟩) hHeld ?_ ?_; rotate_left
                · rintro w' ⟨s0, s1, s2, s3, s4, s5, s6, s7, s8, s9, -⟩; go_simp; with_reducible rfl
                rotate_left
                · simp only [Act.put, setIfInBounds_toArray, set_cons_zero, set_cons_succ, i64_w, i32_w]; rfl
                refine pure_ (i := 54) (N := some 81) (v := ?_) (a' := ?_) (V5 36028797018963967) rfl rfl (any_of HT_.out (by kernel_rfl)) (fun _ _ _ h => h) (Or.inl ⟨by rfl, ?_⟩) ?_ ?_; rotate_left
                · intro w'; go_simp; with_reducible rfl
                rotate_left
                · simp only [Act.put, setIfInBounds_toArray, set_cons_zero, set_cons_succ, i64_w, i32_w]; rfl
                refine pure_ (i := 55) (N := some 82) (v := ?_) (a' := ?_) (V5 72057594037927935) rfl rfl (any_of HT_.out (by kernel_rfl)) (fun _ _ _ h => h) (Or.inl ⟨by rfl, ?_⟩) ?_ ?_; rotate_left
                · intro w'; go_simp; with_reducible rfl
                rotate_left
                · simp only [Act.put, setIfInBounds_toArray, set_cons_zero, set_cons_succ, i64_w, i32_w]; rfl
                refine pure_ (i := 56) (N := some 83) (v := ?_) (a' := ?_) (V5 144115188075855871) rfl rfl (any_of HT_.out (by kernel_rfl)) (fun _ _ _ h => h) (Or.inl ⟨by rfl, ?_⟩) ?_ ?_; rotate_left
                · intro w'; go_simp; with_reducible rfl
                rotate_left
                · simp only [Act.put, setIfInBounds_toArray, set_cons_zero, set_cons_succ, i64_w, i32_w]; rfl
                refine pure_ (i := 58) (N := some 85) (v := ?_) (a' := ?_) (V5 432345564227567615) rfl rfl (any_of HT_.out (by kernel_rfl)) (fun _ _ _ h => h) (Or.inl ⟨by rfl, ?_⟩) ?_ ?_; rotate_left
                · intro w'; go_simp; with_reducible rfl
                rotate_left
                · simp only [Act.put, setIfInBounds_toArray, set_cons_zero, set_cons_succ, i64_w, i32_w]; rfl
                refine take_ (i := 57) (N := some 84) (v := .agg mc2) (a' := ?_) (V5 576460752303423487) rfl rfl (take_ofW HT_.out HW_.out (by kernel_rfl)) (fun _ _ _ h => h) (Or.inl ⟨by rfl, fun w' hs => Go.Proofs.Ythapknnppabdaaa.Fill.row_yields 29 _ rfl p2 rfl 29 mc2 (0, 0) _ hs.2.2.2.2.2.2.2.2.2.2 hu29.out rfl HZ.out.2.2.2.2⟩) hHeld ?_ ?_; rotate_left
                · simp only [Act.put, setIfInBounds_toArray, set_cons_zero, set_cons_succ, i64_w, i32_w]; rfl
                refine take_ (i := 60) (N := some 87) (v := .agg mc2) (a' := ?_) (V5 1729382256910270463) rfl rfl (take_ofW HT_.out HW_.out (by kernel_rfl)) (fun _ _ _ h => h) (Or.inl ⟨by rfl, fun w' hs => Go.Proofs.Ythapknnppabdaaa.Fill.row_yields 29 _ rfl p2 rfl 29 mc2 (0, 0) _ hs.2.2.2.2.2.2.2.2.2.2 hu29.out rfl HZ.out.2.2.2.2⟩) hHeld ?_ ?_; rotate_left
                · simp only [Act.put, setIfInBounds_toArray, set_cons_zero, set_cons_succ, i64_w, i32_w]; rfl
                refine one_ (i := 59) (N := some 86) (V5 2305843009213693951) rfl rfl (one_of HT_.out (by kernel_rfl)) (by decide) (fun K hK => ?_)
                refine goes_ Try.func13 (by kernel_rfl) rfl #[.agg mc2, .agg #[.string ⟨#[]⟩, .string ⟨#[]⟩, .string ⟨#[]⟩, .slice none 0 0, .slice none 0 0]] (by rfl) rfl rfl (by (try simp only [List.map_toArray, List.map_cons, List.map_nil]); first | done | rfl) ?_
                with_reducible refine (H13.out _ hbd).mono ?_
                rintro e w120 ⟨nc, rfl, hk13, hb⟩
                have HK13 := Aside0.mk hk13; clear hk13
                refine ⟨_, rfl, ?_⟩
                have hbn := below_step hbd hb; clear hbd hHeld hb; have hbd := hbn; clear hbn
                refine hK.out _ _ (HKp.out _ hbd) (fun hHeld => ?_)
                clear hK K
                refine norm_ (a' := ?_) ?_ ?_; rotate_left
                · show Act.put _ (some 86) _ = _
                  simp only [Act.put, setIfInBounds_toArray, set_cons_zero, set_cons_succ, i64_w, i32_w]; rfl
                refine one_ (i := 61) (N := some 88) (V5 4611686018427387903) rfl rfl (one_of HT_.out (by kernel_rfl)) (by decide) (fun K hK => ?_)
                refine goes_ Try.func11 (by kernel_rfl) rfl #[.agg nc, .agg mc2] (by rfl) rfl rfl (by (try simp only [List.map_toArray, List.map_cons, List.map_nil]); first | done | rfl) ?_
                with_reducible refine (H11.out _ _ hbd HK13.out).mono ?_
                rintro e w121 ⟨rfl, hb⟩
                refine ⟨_, rfl, ?_⟩
                have hbn := below_step hbd hb; clear hbd hHeld hb; have hbd := hbn; clear hbn
                refine hK.out _ _ (HKp.out _ hbd) (fun hHeld => ?_)
                clear hK K
                refine norm_ (a' := ?_) ?_ ?_; rotate_left
                · show Act.put _ (some 88) _ = _
                  simp only [Act.put, setIfInBounds_toArray, set_cons_zero, set_cons_succ, i64_w, i32_w]; rfl
                refine pure_ (i := 62) (N := some 89) (v := ?_) (a' := ?_) (V5 9223372036854775807) rfl rfl (any_of HT_.out (by kernel_rfl)) (fun _ _ _ h => h) (Or.inl ⟨by rfl, ?_⟩) ?_ ?_; rotate_left
                · intro w'; go_simp; with_reducible rfl
                rotate_left
                · simp only [Act.put, setIfInBounds_toArray, set_cons_zero, set_cons_succ, i64_w, i32_w]; rfl
                refine pure_ (i := 63) (N := some 4) (v := ?_) (a' := ?_) (V5 18446744073709551615) rfl rfl (any_of HT_.out (by kernel_rfl)) (fun _ _ _ h => h) (Or.inl ⟨by rfl, ?_⟩) ?_ ?_; rotate_left
                · intro w'; go_simp; with_reducible rfl
                rotate_left
                · simp only [Act.put, setIfInBounds_toArray, set_cons_zero, set_cons_succ, i64_w, i32_w]; rfl
                refine done_ (done_of HT_.out (by kernel_rfl)) ?_
                try go_wp2
                go_ret
                exact ⟨rfl, below_step HB5.out hbd⟩
          · have c3p : y.f3.length > 0 := by omega
            have H20' := Aside0.mk (H20.out c3p)
            have c3b : ((y.f3.length : Int) == 0) = false := beq_eq_false_iff_ne.2 (by omega)
            clear c3p
            clear c3' H20
            by_cases c4' : y.f4.length = 0
            · have c4b : ((y.f4.length : Int) == 0) = true := beq_iff_eq.mpr (by omega)
              clear c4' H21
              as_aux_lemma =>
                go_wp2_with fail
                have HKp : Aside0 (∀ w', Below w5.heap.size w5 w' → w'.cell? ⟨p5, 1, none⟩ = some (.int .i64 bx.f1) ∧ w'.cell? ⟨p5, 8, none⟩ = some (.string ⟨#[]⟩) ∧ w'.cell? ⟨p5, 9, none⟩ = some (.string ⟨#[]⟩) ∧ w'.cell? ⟨p5, 18, none⟩ = some (.string y.f0) ∧ w'.cell? ⟨p5, 19, none⟩ = some (.slice B19 L18 d19) ∧ w'.cell? ⟨p5, 20, none⟩ = some (.slice B20 L19 d20) ∧ w'.cell? ⟨p3, 0, none⟩ = some (.string y.f0) ∧ w'.cell? ⟨p3, 3, none⟩ = some (.slice A3 y.f3.length c3) ∧ w'.cell? ⟨p3, 4, none⟩ = some (.slice A4 y.f4.length c4) ∧ w'.cell? ⟨p2, 1, none⟩ = some (.int .i64 bx.f1) ∧ w'.heap[p2]? = some (.cells mc2 29 (0, 0))) := ⟨fun w' hb => ⟨(hb.cell (World.block_lt_of_cell? w5 _ z1)).trans z1, (hb.cell (World.block_lt_of_cell? w5 _ z8)).trans z8, (hb.cell (World.block_lt_of_cell? w5 _ z9)).trans z9, (hb.cell (World.block_lt_of_cell? w5 _ z18)).trans z18, (hb.cell (World.block_lt_of_cell? w5 _ z19)).trans z19, (hb.cell (World.block_lt_of_cell? w5 _ z20)).trans z20, (hb.cell (World.block_lt_of_cell? w5 _ q0)).trans q0, (hb.cell (World.block_lt_of_cell? w5 _ q3)).trans q3, (hb.cell (World.block_lt_of_cell? w5 _ q4)).trans q4, (hb.cell (World.block_lt_of_cell? w5 _ y1)).trans y1, (HW.out w' hb).2.1⟩⟩
                clear z1 z8 z9 z18 z19 z20 q0 q3 q4 y1
                refine start_ (n := 64) (ds := []) (S := fun w' => w'.cell? ⟨p5, 1, none⟩ = some (.int .i64 bx.f1) ∧ w'.cell? ⟨p5, 8, none⟩ = some (.string ⟨#[]⟩) ∧ w'.cell? ⟨p5, 9, none⟩ = some (.string ⟨#[]⟩) ∧ w'.cell? ⟨p5, 18, none⟩ = some (.string y.f0) ∧ w'.cell? ⟨p5, 19, none⟩ = some (.slice B19 L18 d19) ∧ w'.cell? ⟨p5, 20, none⟩ = some (.slice B20 L19 d20) ∧ w'.cell? ⟨p3, 0, none⟩ = some (.string y.f0) ∧ w'.cell? ⟨p3, 3, none⟩ = some (.slice A3 y.f3.length c3) ∧ w'.cell? ⟨p3, 4, none⟩ = some (.slice A4 y.f4.length c4) ∧ w'.cell? ⟨p2, 1, none⟩ = some (.int .i64 bx.f1) ∧ w'.heap[p2]? = some (.cells mc2 29 (0, 0))) (V5 0) (by rfl) (by rfl) (by kernel_rfl) (HKp.out _ hbd) (fun hHeld => ?_); refine with_tabW tab5 bits5 (fun HT_ HW_ => ?_)
                generalize w5.drew = wd at hbd hHeld ⊢
                refine one_ (i := 0) (N := some 27) (V5 1) rfl rfl (one_of HT_.out (by kernel_rfl)) (by decide) (fun K hK => ?_)
                refine goes_ Try.func8 (by kernel_rfl) rfl #[] (by rfl) rfl rfl (by (try simp only [List.map_toArray, List.map_cons, List.map_nil]); first | done | rfl) ?_
                with_reducible refine (H8.out _).mono ?_
                rintro e w60 ⟨rfl, hb⟩
                refine ⟨_, rfl, ?_⟩
                have hbn := below_step hbd hb; clear hbd hHeld hb; have hbd := hbn; clear hbn
                refine hK.out _ _ (HKp.out _ hbd) (fun hHeld => ?_)
                clear hK K
                refine norm_ (a' := ?_) ?_ ?_; rotate_left
                · show Act.put _ (some 27) _ = _
                  simp only [Act.put, setIfInBounds_toArray, set_cons_zero, set_cons_succ, i64_w, i32_w]; rfl
                refine pure_ (i := 1) (N := some 28) (v := ?_) (a' := ?_) (V5 3) rfl rfl (any_of HT_.out (by kernel_rfl)) (fun _ _ _ h => h) (Or.inl ⟨by rfl, ?_⟩) ?_ ?_; rotate_left
                · intro w'; go_simp; with_reducible rfl
                rotate_left
                · simp only [Act.put, setIfInBounds_toArray, set_cons_zero, set_cons_succ, i64_w, i32_w]; rfl
                refine pure_ (i := 2) (N := some 29) (v := ?_) (a' := ?_) (V5 7) rfl rfl (any_of HT_.out (by kernel_rfl)) (fun _ _ _ h => h) (Or.inl ⟨by rfl, ?_⟩) ?_ ?_; rotate_left
                · intro w'; go_simp; with_reducible rfl
                rotate_left
                · simp only [Act.put, setIfInBounds_toArray, set_cons_zero, set_cons_succ, i64_w, i32_w]; rfl
                refine take_ (i := 3) (N := some 30) (v := ?_) (a' := ?_) (V5 15) rfl rfl (take_ofW HT_.out HW_.out (by kernel_rfl)) (fun _ _ _ h => h) (Or.inl ⟨by rfl, ?_⟩) hHeld ?_ ?_; rotate_left
                · rintro w' ⟨s0, s1, s2, s3, s4, s5, s6, s7, s8, s9, -⟩; go_simp; with_reducible rfl
                rotate_left
                · simp only [Act.put, setIfInBounds_toArray, set_cons_zero, set_cons_succ, i64_w, i32_w]; rfl
                refine pure_ (i := 4) (N := some 31) (v := ?_) (a' := ?_) (V5 31) rfl rfl (any_of HT_.out (by kernel_rfl)) (fun _ _ _ h => h) (Or.inl ⟨by rfl, ?_⟩) ?_ ?_; rotate_left
                · intro w'; go_simp; with_reducible rfl
                rotate_left
                · simp only [Act.put, setIfInBounds_toArray, set_cons_zero, set_cons_succ, i64_w, i32_w]; rfl
                refine pure_ (i := 5) (N := some 32) (v := ?_) (a' := ?_) (V5 63) rfl rfl (any_of HT_.out (by kernel_rfl)) (fun _ _ _ h => h) (Or.inl ⟨by rfl, ?_⟩) ?_ ?_; rotate_left
                · intro w'; go_simp; with_reducible rfl
                rotate_left
                · simp only [Act.put, setIfInBounds_toArray, set_cons_zero, set_cons_succ, i64_w, i32_w]; rfl
                refine pure_ (i := 6) (N := some 33) (v := ?_) (a' := ?_) (V5 127) rfl rfl (any_of HT_.out (by kernel_rfl)) (fun _ _ _ h => h) (Or.inl ⟨by rfl, ?_⟩) ?_ ?_; rotate_left
                · intro w'; go_simp; with_reducible rfl
                rotate_left
                · simp only [Act.put, setIfInBounds_toArray, set_cons_zero, set_cons_succ, i64_w, i32_w]; rfl
                refine pure_ (i := 7) (N := some 34) (v := ?_) (a' := ?_) (V5 255) rfl rfl (any_of HT_.out (by kernel_rfl)) (fun _ _ _ h => h) (Or.inl ⟨by rfl, ?_⟩) ?_ ?_; rotate_left
                · intro w'; go_simp; with_reducible rfl
                rotate_left
                · simp only [Act.put, setIfInBounds_toArray, set_cons_zero, set_cons_succ, i64_w, i32_w]; rfl
                refine take_ (i := 8) (N := some 35) (v := ?_) (a' := ?_) (V5 511) rfl rfl (take_ofW HT_.out HW_.out (by kernel_rfl)) (fun _ _ _ h => h) (Or.inl ⟨by rfl, ?_⟩) hHeld ?_ ?_; rotate_left
                · rintro w' ⟨s0, s1, s2, s3, s4, s5, s6, s7, s8, s9, -⟩; go_simp; with_reducible rfl
                rotate_left
                · simp only [Act.put, setIfInBounds_toArray, set_cons_zero, set_cons_succ, i64_w, i32_w]; rfl
                refine pure_ (i := 9) (N := some 36) (v := ?_) (a' := ?_) (V5 1023) rfl rfl (any_of HT_.out (by kernel_rfl)) (fun _ _ _ h => h) (Or.inl ⟨by rfl, ?_⟩) ?_ ?_; rotate_left
                · intro w'; go_simp; with_reducible rfl
                rotate_left
                · simp only [Act.put, setIfInBounds_toArray, set_cons_zero, set_cons_succ, i64_w, i32_w]; rfl
                refine pure_ (i := 10) (N := some 37) (v := ?_) (a' := ?_) (V5 2047) rfl rfl (any_of HT_.out (by kernel_rfl)) (fun _ _ _ h => h) (Or.inl ⟨by rfl, ?_⟩) ?_ ?_; rotate_left
                · intro w'; go_simp; with_reducible rfl
                rotate_left
                · simp only [Act.put, setIfInBounds_toArray, set_cons_zero, set_cons_succ, i64_w, i32_w]; rfl
                refine pure_ (i := 11) (N := some 38) (v := ?_) (a' := ?_) (V5 4095) rfl rfl (any_of HT_.out (by kernel_rfl)) (fun _ _ _ h => h) (Or.inl ⟨by rfl, ?_⟩) ?_ ?_; rotate_left
                · intro w'; go_simp; with_reducible rfl
                rotate_left
                · simp only [Act.put, setIfInBounds_toArray, set_cons_zero, set_cons_succ, i64_w, i32_w]; rfl
                refine pure_ (i := 12) (N := some 39) (v := ?_) (a' := ?_) (V5 8191) rfl rfl (any_of HT_.out (by kernel_rfl)) (fun _ _ _ h => h) (Or.inl ⟨by rfl, ?_⟩) ?_ ?_; rotate_left
                · intro w'; go_simp; with_reducible rfl
                rotate_left
                · simp only [Act.put, setIfInBounds_toArray, set_cons_zero, set_cons_succ, i64_w, i32_w]; rfl
                refine take_ (i := 13) (N := some 40) (v := ?_) (a' := ?_) (V5 16383) rfl rfl (take_ofW HT_.out HW_.out (by kernel_rfl)) (fun _ _ _ h => h) (Or.inl ⟨by rfl, ?_⟩) hHeld ?_ ?_; rotate_left
                · rintro w' ⟨s0, s1, s2, s3, s4, s5, s6, s7, s8, s9, -⟩; go_simp; with_reducible rfl
                rotate_left
                · simp only [Act.put, setIfInBounds_toArray, set_cons_zero, set_cons_succ, i64_w, i32_w]; rfl
                refine pure_ (i := 14) (N := some 41) (v := ?_) (a' := ?_) (V5 32767) rfl rfl (any_of HT_.out (by kernel_rfl)) (fun _ _ _ h => h) (Or.inl ⟨by rfl, ?_⟩) ?_ ?_; rotate_left
                · intro w'; go_simp; with_reducible rfl
                rotate_left
                · simp only [Act.put, setIfInBounds_toArray, set_cons_zero, set_cons_succ, i64_w, i32_w]; rfl
                refine pure_ (i := 15) (N := some 42) (v := ?_) (a' := ?_) (V5 65535) rfl rfl (any_of HT_.out (by kernel_rfl)) (fun _ _ _ h => h) (Or.inl ⟨by rfl, ?_⟩) ?_ ?_; rotate_left
                · intro w'; go_simp; with_reducible rfl
                rotate_left
                · simp only [Act.put, setIfInBounds_toArray, set_cons_zero, set_cons_succ, i64_w, i32_w]; rfl
                refine pure_ (i := 16) (N := some 43) (v := ?_) (a' := ?_) (V5 131071) rfl rfl (any_of HT_.out (by kernel_rfl)) (fun _ _ _ h => h) (Or.inl ⟨by rfl, ?_⟩) ?_ ?_; rotate_left
                · intro w'; go_simp; with_reducible rfl
                rotate_left
                · simp only [Act.put, setIfInBounds_toArray, set_cons_zero, set_cons_succ, i64_w, i32_w]; rfl
                refine pure_ (i := 18) (N := some 45) (v := ?_) (a' := ?_) (V5 393215) rfl rfl (any_of HT_.out (by kernel_rfl)) (fun _ _ _ h => h) (Or.inl ⟨by rfl, ?_⟩) ?_ ?_; rotate_left
                · intro w'; go_simp; with_reducible rfl
                rotate_left
                · simp only [Act.put, setIfInBounds_toArray, set_cons_zero, set_cons_succ, i64_w, i32_w]; rfl
                refine take_ (i := 17) (N := some 44) (v := ?_) (a' := ?_) (V5 524287) rfl rfl (take_ofW HT_.out HW_.out (by kernel_rfl)) (fun _ _ _ h => h) (Or.inl ⟨by rfl, ?_⟩) hHeld ?_ ?_; rotate_left
                · rintro w' ⟨s0, s1, s2, s3, s4, s5, s6, s7, s8, s9, -⟩; go_simp; with_reducible rfl
                rotate_left
                · simp only [Act.put, setIfInBounds_toArray, set_cons_zero, set_cons_succ, i64_w, i32_w]; rfl
                refine take_ (i := 19) (N := some 46) (v := ?_) (a' := ?_) (V5 1048575) rfl rfl (take_ofW HT_.out HW_.out (by kernel_rfl)) (fun _ _ _ h => h) (Or.inl ⟨by rfl, ?_⟩) hHeld ?_ ?_; rotate_left
                · rintro w' ⟨s0, s1, s2, s3, s4, s5, s6, s7, s8, s9, -⟩; go_simp; with_reducible rfl
                rotate_left
                · simp only [Act.put, setIfInBounds_toArray, set_cons_zero, set_cons_succ, i64_w, i32_w]; rfl
                refine pure_ (i := 20) (N := some 47) (v := ?_) (a' := ?_) (V5 2097151) rfl rfl (any_of HT_.out (by kernel_rfl)) (fun _ _ _ h => h) (Or.inl ⟨by rfl, ?_⟩) ?_ ?_; rotate_left
                · intro w'; go_simp; with_reducible rfl
                rotate_left
                · simp only [Act.put, setIfInBounds_toArray, set_cons_zero, set_cons_succ, i64_w, i32_w]; rfl
                refine pure_ (i := 21) (N := some 48) (v := ?_) (a' := ?_) (V5 4194303) rfl rfl (any_of HT_.out (by kernel_rfl)) (fun _ _ _ h => h) (Or.inl ⟨by rfl, ?_⟩) ?_ ?_; rotate_left
                · intro w'; go_simp; with_reducible rfl
                rotate_left
                · simp only [Act.put, setIfInBounds_toArray, set_cons_zero, set_cons_succ, i64_w, i32_w]; rfl
                refine pure_ (i := 22) (N := some 49) (v := ?_) (a' := ?_) (V5 8388607) rfl rfl (any_of HT_.out (by kernel_rfl)) (fun _ _ _ h => h) (Or.inl ⟨by rfl, ?_⟩) ?_ ?_; rotate_left
                · intro w'; go_simp; with_reducible rfl
                rotate_left
                · simp only [Act.put, setIfInBounds_toArray, set_cons_zero, set_cons_succ, i64_w, i32_w]; rfl
                refine pure_ (i := 23) (N := some 50) (v := ?_) (a' := ?_) (V5 16777215) rfl rfl (any_of HT_.out (by kernel_rfl)) (fun _ _ _ h => h) (Or.inl ⟨by rfl, ?_⟩) ?_ ?_; rotate_left
                · intro w'; go_simp; with_reducible rfl
                rotate_left
                · simp only [Act.put, setIfInBounds_toArray, set_cons_zero, set_cons_succ, i64_w, i32_w]; rfl
                refine pure_ (i := 24) (N := some 51) (v := ?_) (a' := ?_) (V5 33554431) rfl rfl (any_of HT_.out (by kernel_rfl)) (fun _ _ _ h => h) (Or.inl ⟨by rfl, ?_⟩) ?_ ?_; rotate_left
                · intro w'; go_simp; with_reducible rfl
                rotate_left
                · simp only [Act.put, setIfInBounds_toArray, set_cons_zero, set_cons_succ, i64_w, i32_w]; rfl
                refine take_ (i := 25) (N := some 52) (v := ?_) (a' := ?_) (V5 67108863) rfl rfl (take_ofW HT_.out HW_.out (by kernel_rfl)) (fun _ _ _ h => h) (Or.inl ⟨by rfl, ?_⟩) hHeld ?_ ?_; rotate_left
                · rintro w' ⟨s0, s1, s2, s3, s4, s5, s6, s7, s8, s9, -⟩; go_simp; with_reducible rfl
                rotate_left
                · simp only [Act.put, setIfInBounds_toArray, set_cons_zero, set_cons_succ, i64_w, i32_w]; rfl
                refine pure_ (i := 26) (N := some 53) (v := ?_) (a' := ?_) (V5 134217727) rfl rfl (any_of HT_.out (by kernel_rfl)) (fun _ _ _ h => h) (Or.inl ⟨by rfl, ?_⟩) ?_ ?_; rotate_left
                · intro w'; go_simp; with_reducible rfl
                rotate_left
                · simp only [Act.put, setIfInBounds_toArray, set_cons_zero, set_cons_succ, i64_w, i32_w]; rfl
                refine pure_ (i := 27) (N := some 54) (v := ?_) (a' := ?_) (V5 268435455) rfl rfl (any_of HT_.out (by kernel_rfl)) (fun _ _ _ h => h) (Or.inl ⟨by rfl, ?_⟩) ?_ ?_; rotate_left
                · intro w'; go_simp; with_reducible rfl
                rotate_left
                · simp only [Act.put, setIfInBounds_toArray, set_cons_zero, set_cons_succ, i64_w, i32_w]; rfl
                refine pure_ (i := 28) (N := some 55) (v := ?_) (a' := ?_) (V5 536870911) rfl rfl (any_of HT_.out (by kernel_rfl)) (fun _ _ _ h => h) (Or.inl ⟨by rfl, ?_⟩) ?_ ?_; rotate_left
                · intro w'; go_simp; with_reducible rfl
                rotate_left
                · simp only [Act.put, setIfInBounds_toArray, set_cons_zero, set_cons_succ, i64_w, i32_w]; rfl
                refine pure_ (i := 29) (N := some 56) (v := ?_) (a' := ?_) (V5 1073741823) rfl rfl (any_of HT_.out (by kernel_rfl)) (fun _ _ _ h => h) (Or.inl ⟨by rfl, ?_⟩) ?_ ?_; rotate_left
                · intro w'; go_simp; with_reducible rfl
                rotate_left
                · simp only [Act.put, setIfInBounds_toArray, set_cons_zero, set_cons_succ, i64_w, i32_w]; rfl
                refine pure_ (i := 31) (N := some 58) (v := ?_) (a' := ?_) (V5 3221225471) rfl rfl (any_of HT_.out (by kernel_rfl)) (fun _ _ _ h => h) (Or.inl ⟨by rfl, ?_⟩) ?_ ?_; rotate_left
                · intro w'; go_simp; with_reducible rfl
                rotate_left
                · simp only [Act.put, setIfInBounds_toArray, set_cons_zero, set_cons_succ, i64_w, i32_w]; rfl
                refine take_ (i := 30) (N := some 57) (v := ?_) (a' := ?_) (V5 4294967295) rfl rfl (take_ofW HT_.out HW_.out (by kernel_rfl)) (fun _ _ _ h => h) (Or.inl ⟨by rfl, ?_⟩) hHeld ?_ ?_; rotate_left
                · rintro w' ⟨s0, s1, s2, s3, s4, s5, s6, s7, s8, s9, -⟩; go_simp; with_reducible rfl
                rotate_left
                · simp only [Act.put, setIfInBounds_toArray, set_cons_zero, set_cons_succ, i64_w, i32_w]; rfl
                refine take_ (i := 32) (N := some 59) (v := ?_) (a' := ?_) (V5 8589934591) rfl rfl (take_ofW HT_.out HW_.out (by kernel_rfl)) (fun _ _ _ h => h) (Or.inl ⟨by rfl, ?_⟩) hHeld ?_ ?_; rotate_left
                · rintro w' ⟨s0, s1, s2, s3, s4, s5, s6, s7, s8, s9, -⟩; go_simp; with_reducible rfl
                rotate_left
                · simp only [Act.put, setIfInBounds_toArray, set_cons_zero, set_cons_succ, i64_w, i32_w]; rfl
                refine one_ (i := 33) (N := some 60) (V5 17179869183) rfl rfl (one_of HT_.out (by kernel_rfl)) (by decide) (fun K hK => ?_)
                refine goes_ Try.func20 (by kernel_rfl) rfl #[.slice B19 L18 d19, .slice A3 y.f3.length c3] (by rfl) rfl rfl (by (try simp only [List.map_toArray, List.map_cons, List.map_nil]); first | done | rfl) ?_
                with_reducible refine (H20'.out _ hbd).mono ?_
                rintro e w93 ⟨rfl, hb⟩
                refine ⟨_, rfl, ?_⟩
                have hbn := below_step hbd hb; clear hbd hHeld hb; have hbd := hbn; clear hbn
                refine hK.out _ _ (HKp.out _ hbd) (fun hHeld => ?_)
                clear hK K
                refine norm_ (a' := ?_) ?_ ?_; rotate_left
                · show Act.put _ (some 60) _ = _
                  simp only [Act.put, setIfInBounds_toArray, set_cons_zero, set_cons_succ, i64_w, i32_w]; rfl
                refine pure_ (i := 34) (N := some 61) (v := ?_) (a' := ?_) (V5 34359738367) rfl rfl (any_of HT_.out (by kernel_rfl)) (fun _ _ _ h => h) (Or.inl ⟨by rfl, ?_⟩) ?_ ?_; rotate_left
                · intro w'; go_simp; with_reducible rfl
                rotate_left
                · simp only [Act.put, setIfInBounds_toArray, set_cons_zero, set_cons_succ, i64_w, i32_w]; rfl
                refine pure_ (i := 35) (N := some 62) (v := ?_) (a' := ?_) (V5 68719476735) rfl rfl (any_of HT_.out (by kernel_rfl)) (fun _ _ _ h => h) (Or.inl ⟨by rfl, ?_⟩) ?_ ?_; rotate_left
                · intro w'; go_simp; with_reducible rfl
                rotate_left
                · simp only [Act.put, setIfInBounds_toArray, set_cons_zero, set_cons_succ, i64_w, i32_w]; rfl
                refine pure_ (i := 36) (N := some 63) (v := ?_) (a' := ?_) (V5 137438953471) rfl rfl (any_of HT_.out (by kernel_rfl)) (fun _ _ _ h => h) (Or.inl ⟨by rfl, ?_⟩) ?_ ?_; rotate_left
                · intro w'; go_simp; with_reducible rfl
                rotate_left
                · simp only [Act.put, setIfInBounds_toArray, set_cons_zero, set_cons_succ, i64_w, i32_w]; rfl
                refine pure_ (i := 37) (N := some 64) (v := ?_) (a' := ?_) (V5 274877906943) rfl rfl (any_of HT_.out (by kernel_rfl)) (fun _ _ _ h => h) (Or.inl ⟨by rfl, ?_⟩) ?_ ?_; rotate_left
                · intro w'; go_simp; with_reducible rfl
                rotate_left
                · simp only [Act.put, setIfInBounds_toArray, set_cons_zero, set_cons_succ, i64_w, i32_w]; rfl
                refine take_ (i := 38) (N := some 65) (v := ?_) (a' := ?_) (V5 549755813887) rfl rfl (take_ofW HT_.out HW_.out (by kernel_rfl)) (fun _ _ _ h => h) (Or.inl ⟨by rfl, ?_⟩) hHeld ?_ ?_; rotate_left
                · rintro w' ⟨s0, s1, s2, s3, s4, s5, s6, s7, s8, s9, -⟩; go_simp; with_reducible rfl
                rotate_left
                · simp only [Act.put, setIfInBounds_toArray, set_cons_zero, set_cons_succ, i64_w, i32_w]; rfl
                refine pure_ (i := 39) (N := some 66) (v := ?_) (a' := ?_) (V5 1099511627775) rfl rfl (any_of HT_.out (by kernel_rfl)) (fun _ _ _ h => h) (Or.inl ⟨by rfl, ?_⟩) ?_ ?_; rotate_left
                · intro w'; go_simp; with_reducible rfl
                rotate_left
                · simp only [Act.put, setIfInBounds_toArray, set_cons_zero, set_cons_succ, i64_w, i32_w]; rfl
                refine pure_ (i := 40) (N := some 67) (v := ?_) (a' := ?_) (V5 2199023255551) rfl rfl (any_of HT_.out (by kernel_rfl)) (fun _ _ _ h => h) (Or.inl ⟨by rfl, ?_⟩) ?_ ?_; rotate_left
                · intro w'; go_simp; with_reducible rfl
                rotate_left
                · simp only [Act.put, setIfInBounds_toArray, set_cons_zero, set_cons_succ, i64_w, i32_w]; rfl
                refine pure_ (i := 41) (N := some 68) (v := ?_) (a' := ?_) (V5 4398046511103) rfl rfl (any_of HT_.out (by kernel_rfl)) (fun _ _ _ h => h) (Or.inl ⟨by rfl, ?_⟩) ?_ ?_; rotate_left
                · intro w'; go_simp; with_reducible rfl
                rotate_left
                · simp only [Act.put, setIfInBounds_toArray, set_cons_zero, set_cons_succ, i64_w, i32_w]; rfl
                refine pure_ (i := 42) (N := some 69) (v := undef) (a' := ?_) (V5 8796093022207) rfl rfl (any_of HT_.out (by kernel_rfl)) (fun _ _ _ h => h) (Or.inr ⟨by rfl, rfl⟩) ?_ ?_; rotate_left
                · simp only [Act.put, setIfInBounds_toArray, set_cons_zero, set_cons_succ, i64_w, i32_w]; rfl
                refine pure_ (i := 43) (N := some 70) (v := undef) (a' := ?_) (V5 17592186044415) rfl rfl (any_of HT_.out (by kernel_rfl)) (fun _ _ _ h => h) (Or.inr ⟨by rfl, rfl⟩) ?_ ?_; rotate_left
                · simp only [Act.put, setIfInBounds_toArray, set_cons_zero, set_cons_succ, i64_w, i32_w]; rfl
                refine pure_ (i := 44) (N := some 71) (v := undef) (a' := ?_) (V5 35184372088831) rfl rfl (any_of HT_.out (by kernel_rfl)) (fun _ _ _ h => h) (Or.inr ⟨by rfl, rfl⟩) ?_ ?_; rotate_left
                · simp only [Act.put, setIfInBounds_toArray, set_cons_zero, set_cons_succ, i64_w, i32_w]; rfl
                refine pure_ (i := 45) (N := some 72) (v := undef) (a' := ?_) (V5 70368744177663) rfl rfl (any_of HT_.out (by kernel_rfl)) (fun _ _ _ h => h) (Or.inr ⟨by rfl, rfl⟩) ?_ ?_; rotate_left
                · simp only [Act.put, setIfInBounds_toArray, set_cons_zero, set_cons_succ, i64_w, i32_w]; rfl
                refine pure_ (i := 46) (N := some 73) (v := undef) (a' := ?_) (V5 140737488355327) rfl rfl (any_of HT_.out (by kernel_rfl)) (fun _ _ _ h => h) (Or.inr ⟨by rfl, rfl⟩) ?_ ?_; rotate_left
                · simp only [Act.put, setIfInBounds_toArray, set_cons_zero, set_cons_succ, i64_w, i32_w]; rfl
                refine pure_ (i := 47) (N := some 74) (v := ?_) (a' := ?_) (V5 281474976710655) rfl rfl (any_of HT_.out (by kernel_rfl)) (fun _ _ _ h => h) (Or.inl ⟨by rfl, ?_⟩) ?_ ?_; rotate_left
                · intro w'; go_simp; with_reducible rfl
                rotate_left
                · simp only [Act.put, setIfInBounds_toArray, set_cons_zero, set_cons_succ, i64_w, i32_w]; rfl
                refine pure_ (i := 48) (N := some 75) (v := ?_) (a' := ?_) (V5 562949953421311) rfl rfl (any_of HT_.out (by kernel_rfl)) (fun _ _ _ h => h) (Or.inl ⟨by rfl, ?_⟩) ?_ ?_; rotate_left
                · intro w'; go_simp; with_reducible rfl
                rotate_left
                · simp only [Act.put, setIfInBounds_toArray, set_cons_zero, set_cons_succ, i64_w, i32_w]; rfl
                refine pure_ (i := 49) (N := some 76) (v := ?_) (a' := ?_) (V5 1125899906842623) rfl rfl (any_of HT_.out (by kernel_rfl)) (fun _ _ _ h => h) (Or.inl ⟨by rfl, ?_⟩) ?_ ?_; rotate_left
                · intro w'; go_simp; with_reducible rfl
                rotate_left
                · simp only [Act.put, setIfInBounds_toArray, set_cons_zero, set_cons_succ, i64_w, i32_w]; rfl
                refine pure_ (i := 50) (N := some 77) (v := ?_) (a' := ?_) (V5 2251799813685247) rfl rfl (any_of HT_.out (by kernel_rfl)) (fun _ _ _ h => h) (Or.inl ⟨by rfl, ?_⟩) ?_ ?_; rotate_left
                · intro w'; go_simp; with_reducible rfl
                rotate_left
                · simp only [Act.put, setIfInBounds_toArray, set_cons_zero, set_cons_succ, i64_w, i32_w]; rfl
                refine pure_ (i := 52) (N := some 79) (v := ?_) (a' := ?_) (V5 6755399441055743) rfl rfl (any_of HT_.out (by kernel_rfl)) (fun _ _ _ h => h) (Or.inl ⟨by rfl, ?_⟩) ?_ ?_; rotate_left
                · intro w'; go_simp; with_reducible rfl
                rotate_left
                · simp only [Act.put, setIfInBounds_toArray, set_cons_zero, set_cons_succ, i64_w, i32_w]; rfl
                refine take_ (i := 51) (N := some 78) (v := ?_) (a' := ?_) (V5 9007199254740991) rfl rfl (take_ofW HT_.out HW_.out (by kernel_rfl)) (fun _ _ _ h => h) (Or.inl ⟨by rfl, ?_⟩) hHeld ?_ ?_; rotate_left
                · rintro w' ⟨s0, s1, s2, s3, s4, s5, s6, s7, s8, s9, -⟩; go_simp; with_reducible rfl
                rotate_left
                · simp only [Act.put, setIfInBounds_toArray, set_cons_zero, set_cons_succ, i64_w, i32_w]; rfl
                refine take_ (i := 53) (N := some 80) (v := ?_) (a' := ?_) (V5 18014398509481983) rfl rfl (take_ofW HT_.out HW_.out (by kernel_rfl)) (fun _ _ _ h => h) (Or.inl ⟨by rfl, ?_⟩) hHeld ?_ ?_; rotate_left
                · rintro w' ⟨s0, s1, s2, s3, s4, s5, s6, s7, s8, s9, -⟩; go_simp; with_reducible rfl
                rotate_left
                · simp only [Act.put, setIfInBounds_toArray, set_cons_zero, set_cons_succ, i64_w, i32_w]; rfl
                refine pure_ (i := 54) (N := some 81) (v := ?_) (a' := ?_) (V5 36028797018963967) rfl rfl (any_of HT_.out (by kernel_rfl)) (fun _ _ _ h => h) (Or.inl ⟨by rfl, ?_⟩) ?_ ?_; rotate_left
                · intro w'; go_simp; with_reducible rfl
                rotate_left
                · simp only [Act.put, setIfInBounds_toArray, set_cons_zero, set_cons_succ, i64_w, i32_w]; rfl
                refine pure_ (i := 55) (N := some 82) (v := ?_) (a' := ?_) (V5 72057594037927935) rfl rfl (any_of HT_.out (by kernel_rfl)) (fun _ _ _ h => h) (Or.inl ⟨by rfl, ?_⟩) ?_ ?_; rotate_left
                · intro w'; go_simp; with_reducible rfl
                rotate_left
                · simp only [Act.put, setIfInBounds_toArray, set_cons_zero, set_cons_succ, i64_w, i32_w]; rfl
                refine pure_ (i := 56) (N := some 83) (v := ?_) (a' := ?_) (V5 144115188075855871) rfl rfl (any_of HT_.out (by kernel_rfl)) (fun _ _ _ h => h) (Or.inl ⟨by rfl, ?_⟩) ?_ ?_; rotate_left
                · intro w'; go_simp; with_reducible rfl
                rotate_left
                · simp only [Act.put, setIfInBounds_toArray, set_cons_zero, set_cons_succ, i64_w, i32_w]; rfl
                refine pure_ (i := 58) (N := some 85) (v := ?_) (a' := ?_) (V5 432345564227567615) rfl rfl (any_of HT_.out (by kernel_rfl)) (fun _ _ _ h => h) (Or.inl ⟨by rfl, ?_⟩) ?_ ?_; rotate_left
                · intro w'; go_simp; with_reducible rfl
                rotate_left
                · simp only [Act.put, setIfInBounds_toArray, set_cons_zero, set_cons_succ, i64_w, i32_w]; rfl
                refine take_ (i := 57) (N := some 84) (v := .agg mc2) (a' := ?_) (V5 576460752303423487) rfl rfl (take_ofW HT_.out HW_.out (by kernel_rfl)) (fun _ _ _ h => h) (Or.inl ⟨by rfl, fun w' hs => Go.Proofs.Ythapknnppabdaaa.Fill.row_yields 29 _ rfl p2 rfl 29 mc2 (0, 0) _ hs.2.2.2.2.2.2.2.2.2.2 hu29.out rfl HZ.out.2.2.2.2⟩) hHeld ?_ ?_; rotate_left
                · simp only [Act.put, setIfInBounds_toArray, set_cons_zero, set_cons_succ, i64_w, i32_w]; rfl
                refine take_ (i := 60) (N := some 87) (v := .agg mc2) (a' := ?_) (V5 1729382256910270463) rfl rfl (take_ofW HT_.out HW_.out (by kernel_rfl)) (fun _ _ _ h => h) (Or.inl ⟨by rfl, fun w' hs => Go.Proofs.Ythapknnppabdaaa.Fill.row_yields 29 _ rfl p2 rfl 29 mc2 (0, 0) _ hs.2.2.2.2.2.2.2.2.2.2 hu29.out rfl HZ.out.2.2.2.2⟩) hHeld ?_ ?_; rotate_left
                · simp only [Act.put, setIfInBounds_toArray, set_cons_zero, set_cons_succ, i64_w, i32_w]; rfl
                refine one_ (i := 59) (N := some 86) (V5 2305843009213693951) rfl rfl (one_of HT_.out (by kernel_rfl)) (by decide) (fun K hK => ?_)
                refine goes_ Try.func13 (by kernel_rfl) rfl #[.agg mc2, .agg #[.string ⟨#[]⟩, .string ⟨#[]⟩, .string ⟨#[]⟩, .slice none 0 0, .slice none 0 0]] (by rfl) rfl rfl (by (try simp only [List.map_toArray, List.map_cons, List.map_nil]); first | done | rfl) ?_
                with_reducible refine (H13.out _ hbd).mono ?_
                rintro e w120 ⟨nc, rfl, hk13, hb⟩
                have HK13 := Aside0.mk hk13; clear hk13
                refine ⟨_, rfl, ?_⟩
                have hbn := below_step hbd hb; clear hbd hHeld hb; have hbd := hbn; clear hbn
                refine hK.out _ _ (HKp.out _ hbd) (fun hHeld => ?_)
                clear hK K
                refine norm_ (a' := ?_) ?_ ?_; rotate_left
                · show Act.put _ (some 86) _ = _
                  simp only [Act.put, setIfInBounds_toArray, set_cons_zero, set_cons_succ, i64_w, i32_w]; rfl
                refine one_ (i := 61) (N := some 88) (V5 4611686018427387903) rfl rfl (one_of HT_.out (by kernel_rfl)) (by decide) (fun K hK => ?_)
                refine goes_ Try.func11 (by kernel_rfl) rfl #[.agg nc, .agg mc2] (by rfl) rfl rfl (by (try simp only [List.map_toArray, List.map_cons, List.map_nil]); first | done | rfl) ?_
                with_reducible refine (H11.out _ _ hbd HK13.out).mono ?_
                rintro e w121 ⟨rfl, hb⟩
                refine ⟨_, rfl, ?_⟩
                have hbn := below_step hbd hb; clear hbd hHeld hb; have hbd := hbn; clear hbn
                refine hK.out _ _ (HKp.out _ hbd) (fun hHeld => ?_)
                clear hK K
                refine norm_ (a' := ?_) ?_ ?_; rotate_left
                · show Act.put _ (some 88) _ = _
                  simp only [Act.put, setIfInBounds_toArray, set_cons_zero, set_cons_succ, i64_w, i32_w]; rfl
                refine pure_ (i := 62) (N := some 89) (v := ?_) (a' := ?_) (V5 9223372036854775807) rfl rfl (any_of HT_.out (by kernel_rfl)) (fun _ _ _ h => h) (Or.inl ⟨by rfl, ?_⟩) ?_ ?_; rotate_left
                · intro w'; go_simp; with_reducible rfl
                rotate_left
                · simp only [Act.put, setIfInBounds_toArray, set_cons_zero, set_cons_succ, i64_w, i32_w]; rfl
                refine pure_ (i := 63) (N := some 4) (v := ?_) (a' := ?_) (V5 18446744073709551615) rfl rfl (any_of HT_.out (by kernel_rfl)) (fun _ _ _ h => h) (Or.inl ⟨by rfl, ?_⟩) ?_ ?_; rotate_left
                · intro w'; go_simp; with_reducible rfl
                rotate_left
                · simp only [Act.put, setIfInBounds_toArray, set_cons_zero, set_cons_succ, i64_w, i32_w]; rfl
                refine done_ (done_of HT_.out (by kernel_rfl)) ?_
                try go_wp2
                go_ret
                exact ⟨rfl, below_step HB5.out hbd⟩
            · have c4p : y.f4.length > 0 := by omega
              have H21' := Aside0.mk (H21.out c4p)
              have c4b : ((y.f4.length : Int) == 0) = false := beq_eq_false_iff_ne.2 (by omega)
              clear c4p
              clear c4' H21
              as_aux_lemma =>
                go_wp2_with fail
                have HKp : Aside0 (∀ w', Below w5.heap.size w5 w' → w'.cell? ⟨p5, 1, none⟩ = some (.int .i64 bx.f1) ∧ w'.cell? ⟨p5, 8, none⟩ = some (.string ⟨#[]⟩) ∧ w'.cell? ⟨p5, 9, none⟩ = some (.string ⟨#[]⟩) ∧ w'.cell? ⟨p5, 18, none⟩ = some (.string y.f0) ∧ w'.cell? ⟨p5, 19, none⟩ = some (.slice B19 L18 d19) ∧ w'.cell? ⟨p5, 20, none⟩ = some (.slice B20 L19 d20) ∧ w'.cell? ⟨p3, 0, none⟩ = some (.string y.f0) ∧ w'.cell? ⟨p3, 3, none⟩ = some (.slice A3 y.f3.length c3) ∧ w'.cell? ⟨p3, 4, none⟩ = some (.slice A4 y.f4.length c4) ∧ w'.cell? ⟨p2, 1, none⟩ = some (.int .i64 bx.f1) ∧ w'.heap[p2]? = some (.cells mc2 29 (0, 0))) := ⟨fun w' hb => ⟨(hb.cell (World.block_lt_of_cell? w5 _ z1)).trans z1, (hb.cell (World.block_lt_of_cell? w5 _ z8)).trans z8, (hb.cell (World.block_lt_of_cell? w5 _ z9)).trans z9, (hb.cell (World.block_lt_of_cell? w5 _ z18)).trans z18, (hb.cell (World.block_lt_of_cell? w5 _ z19)).trans z19, (hb.cell (World.block_lt_of_cell? w5 _ z20)).trans z20, (hb.cell (World.block_lt_of_cell? w5 _ q0)).trans q0, (hb.cell (World.block_lt_of_cell? w5 _ q3)).trans q3, (hb.cell (World.block_lt_of_cell? w5 _ q4)).trans q4, (hb.cell (World.block_lt_of_cell? w5 _ y1)).trans y1, (HW.out w' hb).2.1⟩⟩
                clear z1 z8 z9 z18 z19 z20 q0 q3 q4 y1
                refine start_ (n := 64) (ds := []) (S := fun w' => w'.cell? ⟨p5, 1, none⟩ = some (.int .i64 bx.f1) ∧ w'.cell? ⟨p5, 8, none⟩ = some (.string ⟨#[]⟩) ∧ w'.cell? ⟨p5, 9, none⟩ = some (.string ⟨#[]⟩) ∧ w'.cell? ⟨p5, 18, none⟩ = some (.string y.f0) ∧ w'.cell? ⟨p5, 19, none⟩ = some (.slice B19 L18 d19) ∧ w'.cell? ⟨p5, 20, none⟩ = some (.slice B20 L19 d20) ∧ w'.cell? ⟨p3, 0, none⟩ = some (.string y.f0) ∧ w'.cell? ⟨p3, 3, none⟩ = some (.slice A3 y.f3.length c3) ∧ w'.cell? ⟨p3, 4, none⟩ = some (.slice A4 y.f4.length c4) ∧ w'.cell? ⟨p2, 1, none⟩ = some (.int .i64 bx.f1) ∧ w'.heap[p2]? = some (.cells mc2 29 (0, 0))) (V5 0) (by rfl) (by rfl) (by kernel_rfl) (HKp.out _ hbd) (fun hHeld => ?_); refine with_tabW tab5 bits5 (fun HT_ HW_ => ?_)
                generalize w5.drew = wd at hbd hHeld ⊢
                refine one_ (i := 0) (N := some 27) (V5 1) rfl rfl (one_of HT_.out (by kernel_rfl)) (by decide) (fun K hK => ?_)
                refine goes_ Try.func8 (by kernel_rfl) rfl #[] (by rfl) rfl rfl (by (try simp only [List.map_toArray, List.map_cons, List.map_nil]); first | done | rfl) ?_
                with_reducible refine (H8.out _).mono ?_
                rintro e w60 ⟨rfl, hb⟩
                refine ⟨_, rfl, ?_⟩
                have hbn := below_step hbd hb; clear hbd hHeld hb; have hbd := hbn; clear hbn
                refine hK.out _ _ (HKp.out _ hbd) (fun hHeld => ?_)
                clear hK K
                refine norm_ (a' := ?_) ?_ ?_; rotate_left
                · show Act.put _ (some 27) _ = _
                  simp only [Act.put, setIfInBounds_toArray, set_cons_zero, set_cons_succ, i64_w, i32_w]; rfl
                refine pure_ (i := 1) (N := some 28) (v := ?_) (a' := ?_) (V5 3) rfl rfl (any_of HT_.out (by kernel_rfl)) (fun _ _ _ h => h) (Or.inl ⟨by rfl, ?_⟩) ?_ ?_; rotate_left
                · intro w'; go_simp; with_reducible rfl
                rotate_left
                · simp only [Act.put, setIfInBounds_toArray, set_cons_zero, set_cons_succ, i64_w, i32_w]; rfl
                refine pure_ (i := 2) (N := some 29) (v := ?_) (a' := ?_) (V5 7) rfl rfl (any_of HT_.out (by kernel_rfl)) (fun _ _ _ h => h) (Or.inl ⟨by rfl, ?_⟩) ?_ ?_; rotate_left
                · intro w'; go_simp; with_reducible rfl
                rotate_left
                · simp only [Act.put, setIfInBounds_toArray, set_cons_zero, set_cons_succ, i64_w, i32_w]; rfl
                refine take_ (i := 3) (N := some 30) (v := ?_) (a' := ?_) (V5 15) rfl rfl (take_ofW HT_.out HW_.out (by kernel_rfl)) (fun _ _ _ h => h) (Or.inl ⟨by rfl, ?_⟩) hHeld ?_ ?_; rotate_left
                · rintro w' ⟨s0, s1, s2, s3, s4, s5, s6, s7, s8, s9, -⟩; go_simp; with_reducible rfl
                rotate_left
                · simp only [Act.put, setIfInBounds_toArray, set_cons_zero, set_cons_succ, i64_w, i32_w]; rfl
                refine pure_ (i := 4) (N := some 31) (v := ?_) (a' := ?_) (V5 31) rfl rfl (any_of HT_.out (by kernel_rfl)) (fun _ _ _ h => h) (Or.inl ⟨by rfl, ?_⟩) ?_ ?_; rotate_left
                · intro w'; go_simp; with_reducible rfl
                rotate_left
                · simp only [Act.put, setIfInBounds_toArray, set_cons_zero, set_cons_succ, i64_w, i32_w]; rfl
                refine pure_ (i := 5) (N := some 32) (v := ?_) (a' := ?_) (V5 63) rfl rfl (any_of HT_.out (by kernel_rfl)) (fun _ _ _ h => h) (Or.inl ⟨by rfl, ?_⟩) ?_ ?_; rotate_left
                · intro w'; go_simp; with_reducible rfl
                rotate_left
                · simp only [Act.put, setIfInBounds_toArray, set_cons_zero, set_cons_succ, i64_w, i32_w]; rfl
                refine pure_ (i := 6) (N := some 33) (v := ?_) (a' := ?_) (V5 127) rfl rfl (any_of HT_.out (by kernel_rfl)) (fun _ _ _ h => h) (Or.inl ⟨by rfl, ?_⟩) ?_ ?_; rotate_left
                · intro w'; go_simp; with_reducible rfl
                rotate_left
                · simp only [Act.put, setIfInBounds_toArray, set_cons_zero, set_cons_succ, i64_w, i32_w]; rfl
                refine pure_ (i := 7) (N := some 34) (v := ?_) (a' := ?_) (V5 255) rfl rfl (any_of HT_.out (by kernel_rfl)) (fun _ _ _ h => h) (Or.inl ⟨by rfl, ?_⟩) ?_ ?_; rotate_left
                · intro w'; go_simp; with_reducible rfl
                rotate_left
                · simp only [Act.put, setIfInBounds_toArray, set_cons_zero, set_cons_succ, i64_w, i32_w]; rfl
                refine take_ (i := 8) (N := some 35) (v := ?_) (a' := ?_) (V5 511) rfl rfl (take_ofW HT_.out HW_.out (by kernel_rfl)) (fun _ _ _ h => h) (Or.inl ⟨by rfl, ?_⟩) hHeld ?_ ?_; rotate_left
                · rintro w' ⟨s0, s1, s2, s3, s4, s5, s6, s7, s8, s9, -⟩; go_simp; with_reducible rfl
                rotate_left
                · simp only [Act.put, setIfInBounds_toArray, set_cons_zero, set_cons_succ, i64_w, i32_w]; rfl
                refine pure_ (i := 9) (N := some 36) (v := ?_) (a' := ?_) (V5 1023) rfl rfl (any_of HT_.out (by kernel_rfl)) (fun _ _ _ h => h) (Or.inl ⟨by rfl, ?_⟩) ?_ ?_; rotate_left
                · intro w'; go_simp; with_reducible rfl
                rotate_left
                · simp only [Act.put, setIfInBounds_toArray, set_cons_zero, set_cons_succ, i64_w, i32_w]; rfl
                refine pure_ (i := 10) (N := some 37) (v := ?_) (a' := ?_) (V5 2047) rfl rfl (any_of HT_.out (by kernel_rfl)) (fun _ _ _ h => h) (Or.inl ⟨by rfl, ?_⟩) ?_ ?_; rotate_left
                · intro w'; go_simp; with_reducible rfl
                rotate_left
                · simp only [Act.put, setIfInBounds_toArray, set_cons_zero, set_cons_succ, i64_w, i32_w]; rfl
                refine pure_ (i := 11) (N := some 38) (v := ?_) (a' := ?_) (V5 4095) rfl rfl (any_of HT_.out (by kernel_rfl)) (fun _ _ _ h => h) (Or.inl ⟨by rfl, ?_⟩) ?_ ?_; rotate_left
                · intro w'; go_simp; with_reducible rfl
                rotate_left
                · simp only [Act.put, setIfInBounds_toArray, set_cons_zero, set_cons_succ, i64_w, i32_w]; rfl
                refine pure_ (i := 12) (N := some 39) (v := ?_) (a' := ?_) (V5 8191) rfl rfl (any_of HT_.out (by kernel_rfl)) (fun _ _ _ h => h) (Or.inl ⟨by rfl, ?_⟩) ?_ ?_; rotate_left
                · intro w'; go_simp; with_reducible rfl
                rotate_left
                · simp only [Act.put, setIfInBounds_toArray, set_cons_zero, set_cons_succ, i64_w, i32_w]; rfl
                refine take_ (i := 13) (N := some 40) (v := ?_) (a' := ?_) (V5 16383) rfl rfl (take_ofW HT_.out HW_.out (by kernel_rfl)) (fun _ _ _ h => h) (Or.inl ⟨by rfl, ?_⟩) hHeld ?_ ?_; rotate_left
                · rintro w' ⟨s0, s1, s2, s3, s4, s5, s6, s7, s8, s9, -⟩; go_simp; with_reducible rfl
                rotate_left
                · simp only [Act.put, setIfInBounds_toArray, set_cons_zero, set_cons_succ, i64_w, i32_w]; rfl
                refine pure_ (i := 14) (N := some 41) (v := ?_) (a' := ?_) (V5 32767) rfl rfl (any_of HT_.out (by kernel_rfl)) (fun _ _ _ h => h) (Or.inl ⟨by rfl, ?_⟩) ?_ ?_; rotate_left
                · intro w'; go_simp; with_reducible rfl
                rotate_left
                · simp only [Act.put, setIfInBounds_toArray, set_cons_zero, set_cons_succ, i64_w, i32_w]; rfl
                refine pure_ (i := 15) (N := some 42) (v := ?_) (a' := ?_) (V5 65535) rfl rfl (any_of HT_.out (by kernel_rfl)) (fun _ _ _ h => h) (Or.inl ⟨by rfl, ?_⟩) ?_ ?_; rotate_left
                · intro w'; go_simp; with_reducible rfl
                rotate_left
                · simp only [Act.put, setIfInBounds_toArray, set_cons_zero, set_cons_succ, i64_w, i32_w]; rfl
                refine pure_ (i := 16) (N := some 43) (v := ?_) (a' := ?_) (V5 131071) rfl rfl (any_of HT_.out (by kernel_rfl)) (fun _ _ _ h => h) (Or.inl ⟨by rfl, ?_⟩) ?_ ?_; rotate_left
                · intro w'; go_simp; with_reducible rfl
                rotate_left
                · simp only [Act.put, setIfInBounds_toArray, set_cons_zero, set_cons_succ, i64_w, i32_w]; rfl
                refine pure_ (i := 18) (N := some 45) (v := ?_) (a' := ?_) (V5 393215) rfl rfl (any_of HT_.out (by kernel_rfl)) (fun _ _ _ h => h) (Or.inl ⟨by rfl, ?_⟩) ?_ ?_; rotate_left
                · intro w'; go_simp; with_reducible rfl
                rotate_left
                · simp only [Act.put, setIfInBounds_toArray, set_cons_zero, set_cons_succ, i64_w, i32_w]; rfl
                refine take_ (i := 17) (N := some 44) (v := ?_) (a' := ?_) (V5 524287) rfl rfl (take_ofW HT_.out HW_.out (by kernel_rfl)) (fun _ _ _ h => h) (Or.inl ⟨by rfl, ?_⟩) hHeld ?_ ?_; rotate_left
                · rintro w' ⟨s0, s1, s2, s3, s4, s5, s6, s7, s8, s9, -⟩; go_simp; with_reducible rfl
                rotate_left
                · simp only [Act.put, setIfInBounds_toArray, set_cons_zero, set_cons_succ, i64_w, i32_w]; rfl
                refine take_ (i := 19) (N := some 46) (v := ?_) (a' := ?_) (V5 1048575) rfl rfl (take_ofW HT_.out HW_.out (by kernel_rfl)) (fun _ _ _ h => h) (Or.inl ⟨by rfl, ?_⟩) hHeld ?_ ?_; rotate_left
                · rintro w' ⟨s0, s1, s2, s3, s4, s5, s6, s7, s8, s9, -⟩; go_simp; with_reducible rfl
                rotate_left
                · simp only [Act.put, setIfInBounds_toArray, set_cons_zero, set_cons_succ, i64_w, i32_w]; rfl
                refine pure_ (i := 20) (N := some 47) (v := ?_) (a' := ?_) (V5 2097151) rfl rfl (any_of HT_.out (by kernel_rfl)) (fun _ _ _ h => h) (Or.inl ⟨by rfl, ?_⟩) ?_ ?_; rotate_left
                · intro w'; go_simp; with_reducible rfl
                rotate_left
                · simp only [Act.put, setIfInBounds_toArray, set_cons_zero, set_cons_succ, i64_w, i32_w]; rfl
                refine pure_ (i := 21) (N := some 48) (v := ?_) (a' := ?_) (V5 4194303) rfl rfl (any_of HT_.out (by kernel_rfl)) (fun _ _ _ h => h) (Or.inl ⟨by rfl, ?_⟩) ?_ ?_; rotate_left
                · intro w'; go_simp; with_reducible rfl
                rotate_left
                · simp only [Act.put, setIfInBounds_toArray, set_cons_zero, set_cons_succ, i64_w, i32_w]; rfl
                refine pure_ (i := 22) (N := some 49) (v := ?_) (a' := ?_) (V5 8388607) rfl rfl (any_of HT_.out (by kernel_rfl)) (fun _ _ _ h => h) (Or.inl ⟨by rfl, ?_⟩) ?_ ?_; rotate_left
                · intro w'; go_simp; with_reducible rfl
                rotate_left
                · simp only [Act.put, setIfInBounds_toArray, set_cons_zero, set_cons_succ, i64_w, i32_w]; rfl
                refine pure_ (i := 23) (N := some 50) (v := ?_) (a' := ?_) (V5 16777215) rfl rfl (any_of HT_.out (by kernel_rfl)) (fun _ _ _ h => h) (Or.inl ⟨by rfl, ?_⟩) ?_ ?_; rotate_left
                · intro w'; go_simp; with_reducible rfl
                rotate_left
                · simp only [Act.put, setIfInBounds_toArray, set_cons_zero, set_cons_succ, i64_w, i32_w]; rfl
                refine pure_ (i := 24) (N := some 51) (v := ?_) (a' := ?_) (V5 33554431) rfl rfl (any_of HT_.out (by kernel_rfl)) (fun _ _ _ h => h) (Or.inl ⟨by rfl, ?_⟩) ?_ ?_; rotate_left
                · intro w'; go_simp; with_reducible rfl
                rotate_left
                · simp only [Act.put, setIfInBounds_toArray, set_cons_zero, set_cons_succ, i64_w, i32_w]; rfl
                refine take_ (i := 25) (N := some 52) (v := ?_) (a' := ?_) (V5 67108863) rfl rfl (take_ofW HT_.out HW_.out (by kernel_rfl)) (fun _ _ _ h => h) (Or.inl ⟨by rfl, ?_⟩) hHeld ?_ ?_; rotate_left
                · rintro w' ⟨s0, s1, s2, s3, s4, s5, s6, s7, s8, s9, -⟩; go_simp; with_reducible rfl
                rotate_left
                · simp only [Act.put, setIfInBounds_toArray, set_cons_zero, set_cons_succ, i64_w, i32_w]; rfl
                refine pure_ (i := 26) (N := some 53) (v := ?_) (a' := ?_) (V5 134217727) rfl rfl (any_of HT_.out (by kernel_rfl)) (fun _ _ _ h => h) (Or.inl ⟨by rfl, ?_⟩) ?_ ?_; rotate_left
                · intro w'; go_simp; with_reducible rfl
                rotate_left
                · simp only [Act.put, setIfInBounds_toArray, set_cons_zero, set_cons_succ, i64_w, i32_w]; rfl
                refine pure_ (i := 27) (N := some 54) (v := ?_) (a' := ?_) (V5 268435455) rfl rfl (any_of HT_.out (by kernel_rfl)) (fun _ _ _ h => h) (Or.inl ⟨by rfl, ?_⟩) ?_ ?_; rotate_left
                · intro w'; go_simp; with_reducible rfl
                rotate_left
                · simp only [Act.put, setIfInBounds_toArray, set_cons_zero, set_cons_succ, i64_w, i32_w]; rfl
                refine pure_ (i := 28) (N := some 55) (v := ?_) (a' := ?_) (V5 536870911) rfl rfl (any_of HT_.out (by kernel_rfl)) (fun _ _ _ h => h) (Or.inl ⟨by rfl, ?_⟩) ?_ ?_; rotate_left
                · intro w'; go_simp; with_reducible rfl
                rotate_left
                · simp only [Act.put, setIfInBounds_toArray, set_cons_zero, set_cons_succ, i64_w, i32_w]; rfl
                refine pure_ (i := 29) (N := some 56) (v := ?_) (a' := ?_) (V5 1073741823) rfl rfl (any_of HT_.out (by kernel_rfl)) (fun _ _ _ h => h) (Or.inl ⟨by rfl, ?_⟩) ?_ ?_; rotate_left
                · intro w'; go_simp; with_reducible rfl
                rotate_left
                · simp only [Act.put, setIfInBounds_toArray, set_cons_zero, set_cons_succ, i64_w, i32_w]; rfl
                refine pure_ (i := 31) (N := some 58) (v := ?_) (a' := ?_) (V5 3221225471) rfl rfl (any_of HT_.out (by kernel_rfl)) (fun _ _ _ h => h) (Or.inl ⟨by rfl, ?_⟩) ?_ ?_; rotate_left
                · intro w'; go_simp; with_reducible rfl
                rotate_left
                · simp only [Act.put, setIfInBounds_toArray, set_cons_zero, set_cons_succ, i64_w, i32_w]; rfl
                refine take_ (i := 30) (N := some 57) (v := ?_) (a' := ?_) (V5 4294967295) rfl rfl (take_ofW HT_.out HW_.out (by kernel_rfl)) (fun _ _ _ h => h) (Or.inl ⟨by rfl, ?_⟩) hHeld ?_ ?_; rotate_left
                · rintro w' ⟨s0, s1, s2, s3, s4, s5, s6, s7, s8, s9, -⟩; go_simp; with_reducible rfl
                rotate_left
                · simp only [Act.put, setIfInBounds_toArray, set_cons_zero, set_cons_succ, i64_w, i32_w]; rfl
                refine take_ (i := 32) (N := some 59) (v := ?_) (a' := ?_) (V5 8589934591) rfl rfl (take_ofW HT_.out HW_.out (by kernel_rfl)) (fun _ _ _ h => h) (Or.inl ⟨by rfl, ?_⟩) hHeld ?_ ?_; rotate_left
                · rintro w' ⟨s0, s1, s2, s3, s4, s5, s6, s7, s8, s9, -⟩; go_simp; with_reducible rfl
                rotate_left
                · simp only [Act.put, setIfInBounds_toArray, set_cons_zero, set_cons_succ, i64_w, i32_w]; rfl
                refine one_ (i := 33) (N := some 60) (V5 17179869183) rfl rfl (one_of HT_.out (by kernel_rfl)) (by decide) (fun K hK => ?_)
                refine goes_ Try.func20 (by kernel_rfl) rfl #[.slice B19 L18 d19, .slice A3 y.f3.length c3] (by rfl) rfl rfl (by (try simp only [List.map_toArray, List.map_cons, List.map_nil]); first | done | rfl) ?_
                with_reducible refine (H20'.out _ hbd).mono ?_
                rintro e w93 ⟨rfl, hb⟩
                refine ⟨_, rfl, ?_⟩
                have hbn := below_step hbd hb; clear hbd hHeld hb; have hbd := hbn; clear hbn
                refine hK.out _ _ (HKp.out _ hbd) (fun hHeld => ?_)
                clear hK K
                refine norm_ (a' := ?_) ?_ ?_; rotate_left
                · show Act.put _ (some 60) _ = _
                  simp only [Act.put, setIfInBounds_toArray, set_cons_zero, set_cons_succ, i64_w, i32_w]; rfl
                refine pure_ (i := 34) (N := some 61) (v := ?_) (a' := ?_) (V5 34359738367) rfl rfl (any_of HT_.out (by kernel_rfl)) (fun _ _ _ h => h) (Or.inl ⟨by rfl, ?_⟩) ?_ ?_; rotate_left
                · intro w'; go_simp; with_reducible rfl
                rotate_left
                · simp only [Act.put, setIfInBounds_toArray, set_cons_zero, set_cons_succ, i64_w, i32_w]; rfl
                refine pure_ (i := 35) (N := some 62) (v := ?_) (a' := ?_) (V5 68719476735) rfl rfl (any_of HT_.out (by kernel_rfl)) (fun _ _ _ h => h) (Or.inl ⟨by rfl, ?_⟩) ?_ ?_; rotate_left
                · intro w'; go_simp; with_reducible rfl
                rotate_left
                · simp only [Act.put, setIfInBounds_toArray, set_cons_zero, set_cons_succ, i64_w, i32_w]; rfl
                refine pure_ (i := 36) (N := some 63) (v := ?_) (a' := ?_) (V5 137438953471) rfl rfl (any_of HT_.out (by kernel_rfl)) (fun _ _ _ h => h) (Or.inl ⟨by rfl, ?_⟩) ?_ ?_; rotate_left
                · intro w'; go_simp; with_reducible rfl
                rotate_left
                · simp only [Act.put, setIfInBounds_toArray, set_cons_zero, set_cons_succ, i64_w, i32_w]; rfl
                refine pure_ (i := 37) (N := some 64) (v := ?_) (a' := ?_) (V5 274877906943) rfl rfl (any_of HT_.out (by kernel_rfl)) (fun _ _ _ h => h) (Or.inl ⟨by rfl, ?_⟩) ?_ ?_; rotate_left
                · intro w'; go_simp; with_reducible rfl
                rotate_left
                · simp only [Act.put, setIfInBounds_toArray, set_cons_zero, set_cons_succ, i64_w, i32_w]; rfl
                refine take_ (i := 38) (N := some 65) (v := ?_) (a' := ?_) (V5 549755813887) rfl rfl (take_ofW HT_.out HW_.out (by kernel_rfl)) (fun _ _ _ h => h) (Or.inl ⟨by rfl, ?_⟩) hHeld ?_ ?_; rotate_left
                · rintro w' ⟨s0, s1, s2, s3, s4, s5, s6, s7, s8, s9, -⟩; go_simp; with_reducible rfl
                rotate_left
                · simp only [Act.put, setIfInBounds_toArray, set_cons_zero, set_cons_succ, i64_w, i32_w]; rfl
                refine pure_ (i := 39) (N := some 66) (v := ?_) (a' := ?_) (V5 1099511627775) rfl rfl (any_of HT_.out (by kernel_rfl)) (fun _ _ _ h => h) (Or.inl ⟨by rfl, ?_⟩) ?_ ?_; rotate_left
                · intro w'; go_simp; with_reducible rfl
                rotate_left
                · simp only [Act.put, setIfInBounds_toArray, set_cons_zero, set_cons_succ, i64_w, i32_w]; rfl
                refine pure_ (i := 40) (N := some 67) (v := ?_) (a' := ?_) (V5 2199023255551) rfl rfl (any_of HT_.out (by kernel_rfl)) (fun _ _ _ h => h) (Or.inl ⟨by rfl, ?_⟩) ?_ ?_; rotate_left
                · intro w'; go_simp; with_reducible rfl
                rotate_left
                · simp only [Act.put, setIfInBounds_toArray, set_cons_zero, set_cons_succ, i64_w, i32_w]; rfl
                refine pure_ (i := 41) (N := some 68) (v := ?_) (a' := ?_) (V5 4398046511103) rfl rfl (any_of HT_.out (by kernel_rfl)) (fun _ _ _ h => h) (Or.inl ⟨by rfl, ?_⟩) ?_ ?_; rotate_left
                · intro w'; go_simp; with_reducible rfl
                rotate_left
                · simp only [Act.put, setIfInBounds_toArray, set_cons_zero, set_cons_succ, i64_w, i32_w]; rfl
                refine pure_ (i := 42) (N := some 69) (v := ?_) (a' := ?_) (V5 8796093022207) rfl rfl (any_of HT_.out (by kernel_rfl)) (fun _ _ _ h => h) (Or.inl ⟨by rfl, ?_⟩) ?_ ?_; rotate_left
                · intro w'; go_simp; with_reducible rfl
                rotate_left
                · simp only [Act.put, setIfInBounds_toArray, set_cons_zero, set_cons_succ, i64_w, i32_w]; rfl
                refine pure_ (i := 44) (N := some 71) (v := ?_) (a' := ?_) (V5 26388279066623) rfl rfl (any_of HT_.out (by kernel_rfl)) (fun _ _ _ h => h) (Or.inl ⟨by rfl, ?_⟩) ?_ ?_; rotate_left
                · intro w'; go_simp; with_reducible rfl
                rotate_left
                · simp only [Act.put, setIfInBounds_toArray, set_cons_zero, set_cons_succ, i64_w, i32_w]; rfl
                refine take_ (i := 43) (N := some 70) (v := ?_) (a' := ?_) (V5 35184372088831) rfl rfl (take_ofW HT_.out HW_.out (by kernel_rfl)) (fun _ _ _ h => h) (Or.inl ⟨by rfl, ?_⟩) hHeld ?_ ?_; rotate_left
                · rintro w' ⟨s0, s1, s2, s3, s4, s5, s6, s7, s8, s9, -⟩; go_simp; with_reducible rfl
                rotate_left
                · simp only [Act.put, setIfInBounds_toArray, set_cons_zero, set_cons_succ, i64_w, i32_w]; rfl
                refine take_ (i := 45) (N := some 72) (v := ?_) (a' := ?_) (V5 70368744177663) rfl rfl (take_ofW HT_.out HW_.out (by kernel_rfl)) (fun _ _ _ h => h) (Or.inl ⟨by rfl, ?_⟩) hHeld ?_ ?_; rotate_left
                · rintro w' ⟨s0, s1, s2, s3, s4, s5, s6, s7, s8, s9, -⟩; go_simp; with_reducible rfl
                rotate_left
                · simp only [Act.put, setIfInBounds_toArray, set_cons_zero, set_cons_succ, i64_w, i32_w]; rfl
                refine one_ (i := 46) (N := some 73) (V5 140737488355327) rfl rfl (one_of HT_.out (by kernel_rfl)) (by decide) (fun K hK => ?_)
                refine goes_ Try.func21 (by kernel_rfl) rfl #[.slice B20 L19 d20, .slice A4 y.f4.length c4, .func (.func 22) #[] #[]] (by rfl) rfl rfl (by (try simp only [List.map_toArray, List.map_cons, List.map_nil]); first | done | rfl) ?_
                with_reducible refine (H21'.out _ hbd).mono ?_
                rintro e w106 ⟨rfl, hb⟩
                refine ⟨_, rfl, ?_⟩
                have hbn := below_step hbd hb; clear hbd hHeld hb; have hbd := hbn; clear hbn
                refine hK.out _ _ (HKp.out _ hbd) (fun hHeld => ?_)
                clear hK K
                refine norm_ (a' := ?_) ?_ ?_; rotate_left
                · show Act.put _ (some 73) _ = _
                  simp only [Act.put, setIfInBounds_toArray, set_cons_zero, set_cons_succ, i64_w, i32_w]; rfl
                refine pure_ (i := 47) (N := some 74) (v := ?_) (a' := ?_) (V5 281474976710655) rfl rfl (any_of HT_.out (by kernel_rfl)) (fun _ _ _ h => h) (Or.inl ⟨by rfl, ?_⟩) ?_ ?_; rotate_left
                · intro w'; go_simp; with_reducible rfl
                rotate_left
                · simp only [Act.put, setIfInBounds_toArray, set_cons_zero, set_cons_succ, i64_w, i32_w]; rfl
                refine pure_ (i := 48) (N := some 75) (v := ?_) (a' := ?_) (V5 562949953421311) rfl rfl (any_of HT_.out (by kernel_rfl)) (fun _ _ _ h => h) (Or.inl ⟨by rfl, ?_⟩) ?_ ?_; rotate_left
                · intro w'; go_simp; with_reducible rfl
                rotate_left
                · simp only [Act.put, setIfInBounds_toArray, set_cons_zero, set_cons_succ, i64_w, i32_w]; rfl
                refine pure_ (i := 49) (N := some 76) (v := ?_) (a' := ?_) (V5 1125899906842623) rfl rfl (any_of HT_.out (by kernel_rfl)) (fun _ _ _ h => h) (Or.inl ⟨by rfl, ?_⟩) ?_ ?_; rotate_left
                · intro w'; go_simp; with_reducible rfl
                rotate_left
                · simp only [Act.put, setIfInBounds_toArray, set_cons_zero, set_cons_succ, i64_w, i32_w]; rfl
                refine pure_ (i := 50) (N := some 77) (v := ?_) (a' := ?_) (V5 2251799813685247) rfl rfl (any_of HT_.out (by kernel_rfl)) (fun _ _ _ h => h) (Or.inl ⟨by rfl, ?_⟩) ?_ ?_; rotate_left
                · intro w'; go_simp; with_reducible rfl
                rotate_left
                · simp only [Act.put, setIfInBounds_toArray, set_cons_zero, set_cons_succ, i64_w, i32_w]; rfl
                refine pure_ (i := 52) (N := some 79) (v := ?_) (a' := ?_) (V5 6755399441055743) rfl rfl (any_of HT_.out (by kernel_rfl)) (fun _ _ _ h => h) (Or.inl ⟨by rfl, ?_⟩) ?_ ?_; rotate_left
                · intro w'; go_simp; with_reducible rfl
                rotate_left
                · simp only [Act.put, setIfInBounds_toArray, set_cons_zero, set_cons_succ, i64_w, i32_w]; rfl
                refine take_ (i := 51) (N := some 78) (v := ?_) (a' := ?_) (V5 9007199254740991) rfl rfl (take_ofW HT_.out HW_.out (by kernel_rfl)) (fun _ _ _ h => h) (Or.inl ⟨by rfl, ?_⟩) hHeld ?_ ?_; rotate_left
                · rintro w' ⟨s0, s1, s2, s3, s4, s5, s6, s7, s8, s9, -⟩; go_simp; with_reducible rfl
                rotate_left
                · simp only [Act.put, setIfInBounds_toArray, set_cons_zero, set_cons_succ, i64_w, i32_w]; rfl
                refine take_ (i := 53) (N := some 80) (v := ?_) (a' := ?_) (V5 18014398509481983) rfl rfl (take_ofW HT_.out HW_.out (by kernel_rfl)) (fun _ _ _ h => h) (Or.inl ⟨by rfl, ?_⟩) hHeld ?_ ?_; rotate_left
                · rintro w' ⟨s0, s1, s2, s3, s4, s5, s6, s7, s8, s9, -⟩; go_simp; with_reducible rfl
                rotate_left
                · simp only [Act.put, setIfInBounds_toArray, set_cons_zero, set_cons_succ, i64_w, i32_w]; rfl
                refine pure_ (i := 54) (N := some 81) (v := ?_) (a' := ?_) (V5 36028797018963967) rfl rfl (any_of HT_.out (by kernel_rfl)) (fun _ _ _ h => h) (Or.inl ⟨by rfl, ?_⟩) ?_ ?_; rotate_left
                · intro w'; go_simp; with_reducible rfl
                rotate_left
                · simp only [Act.put, setIfInBounds_toArray, set_cons_zero, set_cons_succ, i64_w, i32_w]; rfl
                refine pure_ (i := 55) (N := some 82) (v := ?_) (a' := ?_) (V5 72057594037927935) rfl rfl (any_of HT_.out (by kernel_rfl)) (fun _ _ _ h => h) (Or.inl ⟨by rfl, ?_⟩) ?_ ?_; rotate_left
                · intro w'; go_simp; with_reducible rfl
                rotate_left
                · simp only [Act.put, setIfInBounds_toArray, set_cons_zero, set_cons_succ, i64_w, i32_w]; rfl
                refine pure_ (i := 56) (N := some 83) (v := ?_) (a' := ?_) (V5 144115188075855871) rfl rfl (any_of HT_.out (by kernel_rfl)) (fun _ _ _ h => h) (Or.inl ⟨by rfl, ?_⟩) ?_ ?_; rotate_left
                · intro w'; go_simp; with_reducible rfl
                rotate_left
                · simp only [Act.put, setIfInBounds_toArray, set_cons_zero, set_cons_succ, i64_w, i32_w]; rfl
                refine pure_ (i := 58) (N := some 85) (v := ?_) (a' := ?_) (V5 432345564227567615) rfl rfl (any_of HT_.out (by kernel_rfl)) (fun _ _ _ h => h) (Or.inl ⟨by rfl, ?_⟩) ?_ ?_; rotate_left
                · intro w'; go_simp; with_reducible rfl
                rotate_left
                · simp only [Act.put, setIfInBounds_toArray, set_cons_zero, set_cons_succ, i64_w, i32_w]; rfl
                refine take_ (i := 57) (N := some 84) (v := .agg mc2) (a' := ?_) (V5 576460752303423487) rfl rfl (take_ofW HT_.out HW_.out (by kernel_rfl)) (fun _ _ _ h => h) (Or.inl ⟨by rfl, fun w' hs => Go.Proofs.Ythapknnppabdaaa.Fill.row_yields 29 _ rfl p2 rfl 29 mc2 (0, 0) _ hs.2.2.2.2.2.2.2.2.2.2 hu29.out rfl HZ.out.2.2.2.2⟩) hHeld ?_ ?_; rotate_left
                · simp only [Act.put, setIfInBounds_toArray, set_cons_zero, set_cons_succ, i64_w, i32_w]; rfl
                refine take_ (i := 60) (N := some 87) (v := .agg mc2) (a' := ?_) (V5 1729382256910270463) rfl rfl (take_ofW HT_.out HW_.out (by kernel_rfl)) (fun _ _ _ h => h) (Or.inl ⟨by rfl, fun w' hs => Go.Proofs.Ythapknnppabdaaa.Fill.row_yields 29 _ rfl p2 rfl 29 mc2 (0, 0) _ hs.2.2.2.2.2.2.2.2.2.2 hu29.out rfl HZ.out.2.2.2.2⟩) hHeld ?_ ?_; rotate_left
                · simp only [Act.put, setIfInBounds_toArray, set_cons_zero, set_cons_succ, i64_w, i32_w]; rfl
                refine one_ (i := 59) (N := some 86) (V5 2305843009213693951) rfl rfl (one_of HT_.out (by kernel_rfl)) (by decide) (fun K hK => ?_)
                refine goes_ Try.func13 (by kernel_rfl) rfl #[.agg mc2, .agg #[.string ⟨#[]⟩, .string ⟨#[]⟩, .string ⟨#[]⟩, .slice none 0 0, .slice none 0 0]] (by rfl) rfl rfl (by (try simp only [List.map_toArray, List.map_cons, List.map_nil]); first | done | rfl) ?_
                with_reducible refine (H13.out _ hbd).mono ?_
                rintro e w120 ⟨nc, rfl, hk13, hb⟩
                have HK13 := Aside0.mk hk13; clear hk13
                refine ⟨_, rfl, ?_⟩
                have hbn := below_step hbd hb; clear hbd hHeld hb; have hbd := hbn; clear hbn
                refine hK.out _ _ (HKp.out _ hbd) (fun hHeld => ?_)
                clear hK K
                refine norm_ (a' := ?_) ?_ ?_; rotate_left
                · show Act.put _ (some 86) _ = _
                  simp only [Act.put, setIfInBounds_toArray, set_cons_zero, set_cons_succ, i64_w, i32_w]; rfl
                refine one_ (i := 61) (N := some 88) (V5 4611686018427387903) rfl rfl (one_of HT_.out (by kernel_rfl)) (by decide) (fun K hK => ?_)
                refine goes_ Try.func11 (by kernel_rfl) rfl #[.agg nc, .agg mc2] (by rfl) rfl rfl (by (try simp only [List.map_toArray, List.map_cons, List.map_nil]); first | done | rfl) ?_
                with_reducible refine (H11.out _ _ hbd HK13.out).mono ?_
                rintro e w121 ⟨rfl, hb⟩
                refine ⟨_, rfl, ?_⟩
                have hbn := below_step hbd hb; clear hbd hHeld hb; have hbd := hbn; clear hbn
                refine hK.out _ _ (HKp.out _ hbd) (fun hHeld => ?_)
                clear hK K
                refine norm_ (a' := ?_) ?_ ?_; rotate_left
                · show Act.put _ (some 88) _ = _
                  simp only [Act.put, setIfInBounds_toArray, set_cons_zero, set_cons_succ, i64_w, i32_w]; rfl
                refine pure_ (i := 62) (N := some 89) (v := ?_) (a' := ?_) (V5 9223372036854775807) rfl rfl (any_of HT_.out (by kernel_rfl)) (fun _ _ _ h => h) (Or.inl ⟨by rfl, ?_⟩) ?_ ?_; rotate_left
                · intro w'; go_simp; with_reducible rfl
                rotate_left
                · simp only [Act.put, setIfInBounds_toArray, set_cons_zero, set_cons_succ, i64_w, i32_w]; rfl
                refine pure_ (i := 63) (N := some 4) (v := ?_) (a' := ?_) (V5 18446744073709551615) rfl rfl (any_of HT_.out (by kernel_rfl)) (fun _ _ _ h => h) (Or.inl ⟨by rfl, ?_⟩) ?_ ?_; rotate_left
                · intro w'; go_simp; with_reducible rfl
                rotate_left
                · simp only [Act.put, setIfInBounds_toArray, set_cons_zero, set_cons_succ, i64_w, i32_w]; rfl
                refine done_ (done_of HT_.out (by kernel_rfl)) ?_
                try go_wp2
                go_ret
                exact ⟨rfl, below_step HB5.out hbd⟩
end Go.Proofs.Ythapknnppabdaaa.MR
