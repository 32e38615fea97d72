/- ResidueTells walked: any message split for any side, and joined with any residue; whether any residue is empty. -/
import Derived.Test.YthapknnppabdaaaHTellsC
import Derived.Test.YthapknnppabdaaaHSplitW
import Derived.Test.YthapknnppabdaaaHJoinW
import Derived.Test.YthapknnppabdaaaHRow
import Derived.Deep.CutBlock
import Derived.Deep.CutRange
namespace Go.Proofs.Ythapknnppabdaaa.MR
open Go.RowKit Go.Proofs.YthapknnppabdaaaW.PrintWords Go.Proofs.YthapknnppabdaaaW.PrintLast Go.Proofs.YthapknnppabdaaaW.PrintMore
set_option linter.unusedVariables false
set_option linter.unusedSimpArgs false

theorem info29' : (Try.prog.info? 29).map (·.size) = some 21 := by kernel_rfl
theorem info29 {w : World} {x : S29} {mc : Array Value} (h : k29.K w x mc.toList) : (Try.prog.info? 29).map (·.size) = some mc.size := by
  have h1 : mc.toList.length = k29.sz := k29.K_len h
  have h2 : k29.sz = 21 := rfl
  rw [h2, Array.length_toList] at h1
  rw [h1]; exact info29'
theorem one29 {w : World} {x : S29} {mc : Array Value} (h : k29.K w x mc.toList) : mc.all (·.oneCell') = true := by
  rw [Array.all_eq_true]
  intro i hlt
  exact k29.K_one h _ (by rw [Array.mem_toList_iff]; exact Array.getElem_mem hlt)
theorem one31 {w : World} {y : S31} {mc : Array Value} (h : k31.K w y mc.toList) : mc.all (·.oneCell') = true := by
  rw [Array.all_eq_true]
  intro i hlt
  exact k31.K_one h _ (by rw [Array.mem_toList_iff]; exact Array.getElem_mem hlt)
theorem blk_new1 (w : World) (v v' : Obj) : ((w.alloc v).alloc v').heap[w.heap.size + 1]? = some v' := by
  have := blk_new (w.alloc v) v'
  rw [show (w.alloc v).heap.size = w.heap.size + 1 by simp] at this
  exact this
/-- The message in block p2, the residue behind it. -/
structure TB (w : World) (p2 : Nat) (mc rc : Array Value) (W : World) : Prop where
  m : W.heap[p2]? = some (.cells mc 29 (0, 0))
  r : W.heap[p2 + 1]? = some (.cells rc 31 (0, 0))
  bel : Below w.heap.size w W
  lo : w.heap.size ≤ p2
theorem TB.below {w : World} {p2 : Nat} {mc rc : Array Value} {W W' : World} (h : TB w p2 mc rc W) (hb : Below W.heap.size W W') : TB w p2 mc rc W' :=
  ⟨blk_below h.m hb, blk_below h.r hb, below_step h.bel hb, h.lo⟩
theorem tb_start (w : World) (mc rc : Array Value) : TB w w.heap.size mc rc ((w.alloc (.cells mc 29)).alloc (.cells rc 31)) :=
  ⟨blk_alloc (blk_new w _) _, blk_new1 w _ _, below_alloc (below_alloc (Below.refl _ w) _) _, Nat.le_refl _⟩
theorem two_stored {w4 w5 w6 : World} {z z5 : Obj} {a x : Array Value} (h1 : w5.heap[w4.heap.size]? = some (.cells a 29 (0, 0))) (k1 : KeepBut ((w4.alloc z).alloc z5) w5 w4.heap.size none) (b1 : ∀ B w0, Below B w0 ((w4.alloc z).alloc z5) → B ≤ w4.heap.size → Below B w0 w5)
    (h2 : w6.heap[w4.heap.size + 1]? = some (.cells x 31 (0, 0))) (k2 : KeepBut w5 w6 (w4.heap.size + 1) none) (b2 : ∀ B w0, Below B w0 w5 → B ≤ w4.heap.size + 1 → Below B w0 w6) :
    w6.heap[w4.heap.size]? = some (.cells a 29 (0, 0)) ∧ w6.heap[w4.heap.size + 1]? = some (.cells x 31 (0, 0)) ∧ Below w4.heap.size w4 w6 :=
  ⟨KeepBut.blk k2 h1 (by omega) (by simp), h2, b2 _ _ (b1 _ _ (below_alloc (below_alloc (Below.refl _ w4) _) _) (Nat.le_refl _)) (by omega)⟩
/-- All that the comparison reads. -/
structure TS (p2 q3 q4 : Nat) (mc rc ac xc bc yc : Array Value) (w : World) : Prop where
  m : w.heap[p2]? = some (.cells mc 29 (0, 0))
  r : w.heap[p2 + 1]? = some (.cells rc 31 (0, 0))
  a : w.heap[q3]? = some (.cells ac 29 (0, 0))
  x : w.heap[q3 + 1]? = some (.cells xc 31 (0, 0))
  b : w.heap[q4]? = some (.cells bc 29 (0, 0))
  y : w.heap[q4 + 1]? = some (.cells yc 31 (0, 0))
theorem TS.below {p2 q3 q4 : Nat} {mc rc ac xc bc yc : Array Value} {w w' : World} (h : TS p2 q3 q4 mc rc ac xc bc yc w) (hb : Below w.heap.size w w') : TS p2 q3 q4 mc rc ac xc bc yc w' :=
  ⟨blk_below h.m hb, blk_below h.r hb, blk_below h.a hb, blk_below h.x hb, blk_below h.b hb, blk_below h.y hb⟩
theorem small31 {y : S31} (h : Reach31 y) (h0 : y.f0.size ≤ 140737488351232) (h1 : y.f1.size ≤ 140737488351232) (h2 : y.f2.size ≤ 140737488351232) : y.f0.size + y.f1.size + y.f2.size + y.f3.length + y.f4.length ≤ 9223372036854775807 := by
  have a := h.h3; have b := h.h4
  omega
theorem spR_small {x : S29} {side : Int} (h : Reach29 x) (h8 : x.f8.size ≤ 140737488351232) (h9 : x.f9.size ≤ 140737488351232) (h17 : x.f17.size ≤ 140737488351232) : (spR ansB x side).f0.size + (spR ansB x side).f1.size + (spR ansB x side).f2.size + (spR ansB x side).f3.length + (spR ansB x side).f4.length ≤ 9223372036854775807 := by
  have a := h.h18; have b := h.h19
  have hn : noText.size = 0 := rfl
  unfold spR
  by_cases s0 : side = 0
  · simp only [if_pos s0, hn, List.length_nil]; omega
  · by_cases s1 : side = 1
    · simp only [if_neg s0, if_pos s1, List.length_nil]
      cases outB ansB x.f8 15 <;> cases outB ansB x.f9 8 <;> simp only [hn, if_true, if_false, Bool.false_eq_true, reduceIte] <;> omega
    · simp only [if_neg s0, if_neg s1, hn, List.length_nil]; omega
def V3 (n : Nat) : Array Bool := ((List.range 35).map n.testBit).toArray
def T3 : Bool × List (List Nat × List Nat) := (true, [([], []), ([0, 0], [0]), ([1], [1]), ([1], [1]), ([2, 3, 1, 1], [1, 2, 3]), ([1, 4], [1, 4]), ([5, 4], [5]), ([6], [6]), ([6], [6]), ([7, 8, 6, 6], [6, 7, 8]), ([6, 9], [6, 9]), ([10, 9], [10]), ([11], [11]), ([11], [11]), ([12, 13, 11, 11], [11, 12, 13]), ([11], [11]), ([11], [11]), ([15, 16, 14, 11], [11, 15, 16]), ([14, 17, 17, 11], [11, 14, 17]), ([11, 18], [11, 18]), ([19, 18], [19]), ([20], [20]), ([21, 20, 20], [20, 21]), ([20], [20]), ([23, 22, 20], [20, 23]), ([22, 24, 20], [20, 22, 24]), ([20, 25], [20, 25]), ([26, 24], [26]), ([27], [27]), ([28, 27, 27], [27, 28]), ([27], [27]), ([30, 29, 27], [27, 30]), ([29, 31, 27], [27, 29, 31]), ([27, 32], [27, 32]), ([33, 31, 0, 1, 2, 3, 4, 5, 6, 7, 8, 9, 10, 11, 12, 13, 14, 15, 16, 17, 18, 19, 20, 21, 22, 23, 24, 25, 26, 27, 28, 29, 30, 31, 32, 33], [33])])
def B3 : List Nat := [0, 1, 3, 3, 15, 31, 63, 127, 127, 511, 1023, 2047, 4095, 4095, 16383, 4095, 4095, 131071, 262143, 524287, 1048575, 2097151, 4194303, 2097151, 16777215, 33554431, 67108863, 134217727, 268435455, 536870911, 268435455, 2147483647, 4294967295, 8589934591, 17179869183]
theorem tab3 : rtab .any (opsOf Try.f3 5) = T3 := by kernel_rfl
theorem bits3 : waitsOk T3.2 B3 = true := by kernel_rfl
open List (setIfInBounds_toArray set_cons_zero set_cons_succ)
set_option maxHeartbeats 8000000 in
set_option maxRecDepth 100000 in
theorem tells_walk (x : S29) (side : Int) (y : S31) (mc : Array Value) (A3 : Option Addr) (c3 : Nat) (A4 : Option Addr) (c4 : Nat) (w : World) (h : k29.K w x mc.toList) (l3 : y.f3.length ≤ c3) (g3 : k48.C w A3 y.f3.length y.f3) (l4 : y.f4.length ≤ c4) (g4 : k52.C w A4 y.f4.length y.f4)
    (hr : Reach29 x ∧ Reach31 y ∧ x.f8.size ≤ 140737488351232 ∧ x.f9.size ≤ 140737488351232 ∧ x.f17.size ≤ 140737488351232 ∧ y.f0.size ≤ 140737488351232 ∧ y.f1.size ≤ 140737488351232 ∧ y.f2.size ≤ 140737488351232) :
    Calls Try.prog 3 #[.agg mc, .int .i64 side, .agg #[.string y.f0, .string y.f1, .string y.f2, .slice A3 y.f3.length c3, .slice A4 y.f4.length c4]] w fun e w' => e = .returned (.bool true) ∧ Below w.heap.size w w' := by
  have hu29 := Aside0.mk Try.underlying29
  have hu31 := Aside0.mk Try.underlying31
  have HI := Aside0.mk (info29 h)
  have HK := Aside0.mk h
  have HR := Aside0.mk hr
  have HG := Aside0.mk (And.intro l3 (And.intro g3 (And.intro l4 g4)))
  clear h hr g3 g4 l3 l4
  go_enter Try.func3, Try.ntmps3
  go_upto_region 1 with fail
  obtain ⟨p2, hp2⟩ : ∃ p, p = w.heap.size := ⟨_, rfl⟩
  have J0 : TB w w.heap.size mc #[.string y.f0, .string y.f1, .string y.f2, .slice A3 y.f3.length c3, .slice A4 y.f4.length c4] ((w.alloc (.cells mc 29)).alloc (.cells #[.string y.f0, .string y.f1, .string y.f2, .slice A3 y.f3.length c3, .slice A4 y.f4.length c4] 31)) := tb_start w mc _
  rw [← hp2] at J0 ⊢; clear hp2; revert J0
  generalize ((w.alloc _).alloc _) = W1; intro J0
  replace J0 := Aside0.mk J0
  have HS := Aside0.mk (small_x x mc W1 (k29.K_below J0.out.bel HK.out) HR.out.1)
  go_wp2_with (first | ((with_reducible refine gate_dst (N := 11) rfl ?_); refine wpList_load_row rfl 29 (.tmp 3) rfl p2 rfl 29 mc (0, 0) _ J0.out.m hu29.out rfl HI.out ?_))
  refine HS.out.mono ?_
  rintro e w2 ⟨b, rfl, hb⟩
  have J1 := Aside0.mk (J0.out.below hb)
  have d3 : w2.cell? ⟨p2 + 1, 3, none⟩ = some (.slice A3 y.f3.length c3) := (blk_cell J1.out.r 3).trans rfl
  have d4 : w2.cell? ⟨p2 + 1, 4, none⟩ = some (.slice A4 y.f4.length c4) := (blk_cell J1.out.r 4).trans rfl
  have HA2 := Aside0.mk (awake_x w2)
  clear hb HS J0
  cases b with
  | false =>
    go_wp2_with fail
    refine HA2.out.mono ?_
    rintro e w3 ⟨rfl, hb⟩
    go_wp2_with fail
    go_ret
    exact ⟨rfl, below_step J1.out.bel hb⟩
  | true =>
    by_cases s1 : (20 : Int) < (y.f3.length : Int)
    · have s1' : 20 < y.f3.length := by omega
      go_wp2_with fail
      refine HA2.out.mono ?_
      rintro e w3 ⟨rfl, hb⟩
      go_wp2_with fail
      go_ret
      exact ⟨rfl, below_step J1.out.bel hb⟩
    · have s1' : decide (20 < y.f3.length) = false := decide_eq_false (by omega)
      have s1'' : decide ((20 : Int) < (y.f3.length : Int)) = false := decide_eq_false s1
      by_cases s2 : (20 : Int) < (y.f4.length : Int)
      · have s2' : 20 < y.f4.length := by omega
        go_wp2_with fail
        refine HA2.out.mono ?_
        rintro e w3 ⟨rfl, hb⟩
        go_wp2_with fail
        go_ret
        exact ⟨rfl, below_step J1.out.bel hb⟩
      · have s2' : decide (20 < y.f4.length) = false := decide_eq_false (by omega)
        have s2'' : decide ((20 : Int) < (y.f4.length : Int)) = false := decide_eq_false s2
        clear s1 s2
        go_upto_region 3 with fail
        clear s1' s1'' s2' s2'' HA2 d3 d4
        have hS := split9_x x side mc w2 (k29.K_below J1.out.bel HK.out) HR.out.1 HR.out.2.2.1 HR.out.2.2.2.1
        have HS3 := Aside0.mk hS; clear hS
        go_wp2_with (first | ((with_reducible refine gate_dst (N := 28) rfl ?_); refine wpList_load_row rfl 29 (.tmp 3) rfl p2 rfl 29 mc (0, 0) _ J1.out.m hu29.out rfl HI.out ?_))
        refine HS3.out.mono ?_
        rintro e w34 ⟨ac3, xc3, rfl, ha, hx, hka, hkx, hb⟩
        have hia : (Try.prog.info? 29).map (·.size) = some ac3.size := by rw [ha]; kernel_rfl
        have hix : (Try.prog.info? 31).map (·.size) = some xc3.size := by rw [hx]; kernel_rfl
        have hoa : ac3.all (·.oneCell') = true := one29 hka
        have hox : xc3.all (·.oneCell') = true := one31 hkx
        have HQ3 := Aside0.mk (And.intro ha (And.intro hx (And.intro hia (And.intro hix (And.intro hoa hox)))))
        have HKS3 := Aside0.mk (And.intro hka (And.intro hkx hb)); clear ha hx hka hkx hb hia hix hoa hox
        go_upto_region 4 with (first | ((with_reducible refine gate_store (t := 29) (p := 7) rfl ?_); refine Go.Proofs.Ythapknnppabdaaa.Fill.store_event rfl 29 _ _ rfl w34.heap.size ac3 rfl rfl 29 _ (blk_alloc (blk_new w34 _) _) HQ3.out.2.2.1 (by rw [HQ3.out.1]; rfl) HQ3.out.2.2.2.2.1 ?_; intro w35 ea eb ec; have HE3 := Aside0.mk (And.intro ea (And.intro eb ec)); clear ea eb ec) | ((with_reducible refine gate_store (t := 31) (p := 8) rfl ?_); refine Go.Proofs.Ythapknnppabdaaa.Fill.store_event rfl 31 _ _ rfl (w34.heap.size + 1) xc3 rfl rfl 31 _ (KeepBut.blk HE3.out.2.1 (blk_new1 w34 _ _) (by omega) (by simp)) HQ3.out.2.2.2.1 (by rw [HQ3.out.2.1]; rfl) HQ3.out.2.2.2.2.2 ?_; intro w36 ea eb ec; have HG3 := Aside0.mk (And.intro ea (And.intro eb ec)); clear ea eb ec))
        have E := two_stored HE3.out.1 HE3.out.2.1 HE3.out.2.2 HG3.out.1 HG3.out.2.1 HG3.out.2.2
        have bA : Below w2.heap.size w2 w36 := below_step HKS3.out.2.2 E.2.2
        have J3 := Aside0.mk (J1.out.below bA)
        have KA : Aside0 (k29.K w36 (spM ansB x side) ac3.toList ∧ k31.K w36 (spR ansB x side) xc3.toList) := ⟨k29.K_below E.2.2 HKS3.out.1, k31.K_below E.2.2 HKS3.out.2.1⟩
        have BA := Aside0.mk bA; clear bA
        obtain ⟨q3, hq⟩ : ∃ q, q = w34.heap.size := ⟨_, rfl⟩
        rw [← hq] at E ⊢
        have PA := Aside0.mk (And.intro E.1 E.2.1)
        clear E hq HE3 HG3 HKS3 HS3
        have K3 := KA; have P3 := PA; have B3 := BA; clear KA PA BA
        have H3 := HQ3; clear HQ3
        have hS := split10 x side mc w36 (k29.K_below J3.out.bel HK.out) HR.out.2.2.1 HR.out.2.2.2.1
        have HS4 := Aside0.mk hS; clear hS
        go_wp2_with (first | ((with_reducible refine gate_dst (N := 34) rfl ?_); refine wpList_load_row rfl 29 (.tmp 3) rfl p2 rfl 29 mc (0, 0) _ J3.out.m hu29.out rfl HI.out ?_))
        refine HS4.out.mono ?_
        rintro e w44 ⟨ac4, xc4, rfl, ha, hx, hka, hkx, hb⟩
        have hia : (Try.prog.info? 29).map (·.size) = some ac4.size := by rw [ha]; kernel_rfl
        have hix : (Try.prog.info? 31).map (·.size) = some xc4.size := by rw [hx]; kernel_rfl
        have hoa : ac4.all (·.oneCell') = true := one29 hka
        have hox : xc4.all (·.oneCell') = true := one31 hkx
        have HQ4 := Aside0.mk (And.intro ha (And.intro hx (And.intro hia (And.intro hix (And.intro hoa hox)))))
        have HKS4 := Aside0.mk (And.intro hka (And.intro hkx hb)); clear ha hx hka hkx hb hia hix hoa hox
        go_upto_region 5 with (first | ((with_reducible refine gate_store (t := 29) (p := 9) rfl ?_); refine Go.Proofs.Ythapknnppabdaaa.Fill.store_event rfl 29 _ _ rfl w44.heap.size ac4 rfl rfl 29 _ (blk_alloc (blk_new w44 _) _) HQ4.out.2.2.1 (by rw [HQ4.out.1]; rfl) HQ4.out.2.2.2.2.1 ?_; intro w45 ea eb ec; have HE4 := Aside0.mk (And.intro ea (And.intro eb ec)); clear ea eb ec) | ((with_reducible refine gate_store (t := 31) (p := 10) rfl ?_); refine Go.Proofs.Ythapknnppabdaaa.Fill.store_event rfl 31 _ _ rfl (w44.heap.size + 1) xc4 rfl rfl 31 _ (KeepBut.blk HE4.out.2.1 (blk_new1 w44 _ _) (by omega) (by simp)) HQ4.out.2.2.2.1 (by rw [HQ4.out.2.1]; rfl) HQ4.out.2.2.2.2.2 ?_; intro w46 ea eb ec; have HG4 := Aside0.mk (And.intro ea (And.intro eb ec)); clear ea eb ec))
        have E := two_stored HE4.out.1 HE4.out.2.1 HE4.out.2.2 HG4.out.1 HG4.out.2.1 HG4.out.2.2
        have bA : Below w36.heap.size w36 w46 := below_step HKS4.out.2.2 E.2.2
        have J5 := Aside0.mk (J3.out.below bA)
        have KA : Aside0 (k29.K w46 (spM ansB x side) ac4.toList ∧ k31.K w46 (spR ansB x side) xc4.toList) := ⟨k29.K_below E.2.2 HKS4.out.1, k31.K_below E.2.2 HKS4.out.2.1⟩
        have BA := Aside0.mk bA; clear bA
        obtain ⟨q4, hq⟩ : ∃ q, q = w44.heap.size := ⟨_, rfl⟩
        rw [← hq] at E ⊢
        have PA := Aside0.mk (And.intro E.1 E.2.1)
        clear E hq HE4 HG4 HKS4 HS4
        have K4 := KA; have P4 := PA; have B4 := BA; clear KA PA BA
        obtain ⟨W, hWd⟩ : ∃ W, W = w46 := ⟨_, rfl⟩; rw [← hWd] at J5 K4 P4 B4 ⊢; clear hWd
        have KR : Aside0 (k31.K W y (#[.string y.f0, .string y.f1, .string y.f2, .slice A3 y.f3.length c3, .slice A4 y.f4.length c4] : Array Value).toList) := ⟨k31_mk W y HG.out.1 (Kd.C_below HG.out.2.1 J5.out.bel) HG.out.2.2.1 (Kd.C_below HG.out.2.2.2 J5.out.bel)⟩
        have IR : Aside0 ((Try.prog.info? 31).map (·.size) = some (#[.string y.f0, .string y.f1, .string y.f2, .slice A3 y.f3.length c3, .slice A4 y.f4.length c4] : Array Value).size) := ⟨by kernel_rfl⟩
        generalize (#[.string y.f0, .string y.f1, .string y.f2, .slice A3 y.f3.length c3, .slice A4 y.f4.length c4] : Array Value) = rc at J5 KR IR ⊢
        have T0 : TS p2 q3 q4 mc rc ac3 xc3 ac4 xc4 W := ⟨J5.out.m, J5.out.r, blk_below P3.out.1 B4.out, blk_below P3.out.2 B4.out, P4.out.1, P4.out.2⟩
        have HKp : Aside0 (∀ w', Below W.heap.size W w' → TS p2 q3 q4 mc rc ac3 xc3 ac4 xc4 w') := ⟨fun w' hb => T0.below hb⟩
        have KM : k29.K W x mc.toList := k29.K_below J5.out.bel HK.out
        have K3a := k29.K_below B4.out K3.out.1; have K3x := k31.K_below B4.out K3.out.2
        have H8 : Aside0 (∀ w', Calls Try.prog 8 #[] w' fun e w'' => e = .returned (.bool true) ∧ Below w'.heap.size w' w'') := ⟨awake_x⟩
        have H11 : Aside0 (∀ w', Below W.heap.size W w' → Calls Try.prog 11 #[.agg ac3, .agg ac4] w' fun e w'' => e = .returned (.bool true) ∧ Below w'.heap.size w' w'') := ⟨fun w' hb => message_x _ _ _ w' (k29.K_below hb K3a) (k29.K_below hb K4.out.1)⟩
        have H12 : Aside0 (∀ w', Below W.heap.size W w' → Calls Try.prog 12 #[.agg xc3, .agg xc4] w' fun e w'' => e = .returned (.bool true) ∧ Below w'.heap.size w' w'') := ⟨fun w' hb => residue_x _ _ _ w' (k31.K_below hb K3x) (k31.K_below hb K4.out.2)⟩
        have H13 : Aside0 (∀ w', Below W.heap.size W w' → Calls Try.prog 13 #[.agg mc, .agg rc] w' fun e w'' => ∃ nc : Array Value, e = .returned (.agg nc) ∧ k29.K w'' (joinG x y) nc.toList ∧ Below w'.heap.size w' w'') := ⟨fun w' hb => (join13_x x y mc rc w' (k29.K_below hb KM) (k31.K_below hb KR.out) HR.out.1 HR.out.2.1).mono fun e w'' ⟨nc, h1, _, h3, h4⟩ => ⟨nc, h1, h3, h4⟩⟩
        have H14 : Aside0 (∀ w', Below W.heap.size W w' → Calls Try.prog 14 #[.agg mc, .agg rc] w' fun e w'' => ∃ nc : Array Value, e = .returned (.agg nc) ∧ k29.K w'' (joinG x y) nc.toList ∧ Below w'.heap.size w' w'') := ⟨fun w' hb => (join14 x y mc rc w' (k29.K_below hb KM) (k31.K_below hb KR.out) HR.out.2.1.h3 HR.out.2.1.h4).mono fun e w'' ⟨nc, h1, _, h3, h4⟩ => ⟨nc, h1, h3, h4⟩⟩
        have H15 : Aside0 (∀ w', Below W.heap.size W w' → Calls Try.prog 15 #[.agg rc] w' fun e w'' => e = .returned (.bool (emptyB y)) ∧ Below w'.heap.size w' w'') := ⟨fun w' hb => empty15_x y rc w' (k31.K_below hb KR.out) (small31 HR.out.2.1 HR.out.2.2.2.2.2.1 HR.out.2.2.2.2.2.2.1 HR.out.2.2.2.2.2.2.2)⟩
        have H16 : Aside0 (∀ w', Below W.heap.size W w' → Calls Try.prog 16 #[.agg rc] w' fun e w'' => e = .returned (.bool (emptyB y)) ∧ Below w'.heap.size w' w'') := ⟨fun w' hb => empty16_x y rc w' (k31.K_below hb KR.out)⟩
        have G15 : Aside0 (∀ w', Below W.heap.size W w' → Calls Try.prog 15 #[.agg xc3] w' fun e w'' => e = .returned (.bool (emptyB (spR ansB x side))) ∧ Below w'.heap.size w' w'') := ⟨fun w' hb => empty15_x _ xc3 w' (k31.K_below hb K3x) (spR_small HR.out.1 HR.out.2.2.1 HR.out.2.2.2.1 HR.out.2.2.2.2.1)⟩
        have G16 : Aside0 (∀ w', Below W.heap.size W w' → Calls Try.prog 16 #[.agg xc4] w' fun e w'' => e = .returned (.bool (emptyB (spR ansB x side))) ∧ Below w'.heap.size w' w'') := ⟨fun w' hb => empty16_x _ xc4 w' (k31.K_below hb K4.out.2)⟩
        have I3 := Aside0.mk H3.out.2.2.1; have J3' := Aside0.mk H3.out.2.2.2.1; have I4 := Aside0.mk HQ4.out.2.2.1; have J4' := Aside0.mk HQ4.out.2.2.2.1
        generalize emptyB y = e1 at H15 H16; generalize emptyB (spR ansB x side) = e2 at G15 G16
        have HBL := Aside0.mk J5.out.bel
        clear KM K3a K3x T0 H3 HQ4 K3 K4 P3 P4 B3 B4 KR J1 J3 J5 HK HR HG
        generalize hjg : joinG x y = jg at H13 H14; clear hjg
        have hbd := below_drew1 (Below.refl W.heap.size W)
        refine start_ (n := 35) (ds := []) (S := fun w' => TS p2 q3 q4 mc rc ac3 xc3 ac4 xc4 w') (V3 0) (by rfl) (by rfl) (by kernel_rfl) (HKp.out _ hbd) (fun hHeld => ?_); refine with_tabW tab3 bits3 (fun HT_ HW_ => ?_)
        generalize W.drew = wd at hbd hHeld ⊢
        refine one_ (i := 0) (N := some 39) (V3 1) rfl rfl (one_of HT_.out (by kernel_rfl)) (by decide) (fun K hK => ?_)
        refine goes_ Try.func8 (by kernel_rfl) rfl #[] (by rfl) rfl rfl (by (try simp only [List.map_toArray, List.map_cons, List.map_nil]); first | done | rfl) ?_
        with_reducible refine (H8.out _).mono ?_
        rintro e w60 ⟨rfl, hb⟩
        refine ⟨_, rfl, ?_⟩
        have hbn := below_step hbd hb; clear hbd hHeld hb; have hbd := hbn; clear hbn
        refine hK.out _ _ (HKp.out _ hbd) (fun hHeld => ?_)
        clear hK K
        refine norm_ (a' := ?_) ?_ ?_; rotate_left
        · show Act.put _ (some 39) _ = _
          simp only [Act.put, setIfInBounds_toArray, set_cons_zero, set_cons_succ, i64_w, i32_w]; rfl
        refine pure_ (i := 1) (N := some 40) (v := ?_) (a' := ?_) (V3 3) rfl rfl (any_of HT_.out (by kernel_rfl)) (fun _ _ _ h => h) (Or.inl ⟨by rfl, ?_⟩) ?_ ?_; rotate_left
        · intro w'; go_simp; with_reducible rfl
        rotate_left
        · simp only [Act.put, setIfInBounds_toArray, set_cons_zero, set_cons_succ, i64_w, i32_w]; rfl
        refine take_ (i := 2) (N := some 41) (v := .agg ac3) (a' := ?_) (V3 7) rfl rfl (take_ofW HT_.out HW_.out (by kernel_rfl)) (fun _ _ _ h => h) (Or.inl ⟨by rfl, fun w' hs => Go.Proofs.Ythapknnppabdaaa.Fill.row_yields 29 _ rfl q3 rfl 29 ac3 (0, 0) _ hs.a hu29.out rfl I3.out⟩) hHeld ?_ ?_; rotate_left
        · simp only [Act.put, setIfInBounds_toArray, set_cons_zero, set_cons_succ, i64_w, i32_w]; rfl
        refine take_ (i := 3) (N := some 42) (v := .agg ac4) (a' := ?_) (V3 15) rfl rfl (take_ofW HT_.out HW_.out (by kernel_rfl)) (fun _ _ _ h => h) (Or.inl ⟨by rfl, fun w' hs => Go.Proofs.Ythapknnppabdaaa.Fill.row_yields 29 _ rfl q4 rfl 29 ac4 (0, 0) _ hs.b hu29.out rfl I4.out⟩) hHeld ?_ ?_; rotate_left
        · simp only [Act.put, setIfInBounds_toArray, set_cons_zero, set_cons_succ, i64_w, i32_w]; rfl
        refine one_ (i := 4) (N := some 43) (V3 31) rfl rfl (one_of HT_.out (by kernel_rfl)) (by decide) (fun K hK => ?_)
        refine goes_ Try.func11 (by kernel_rfl) rfl #[.agg ac3, .agg ac4] (by rfl) rfl rfl (by (try simp only [List.map_toArray, List.map_cons, List.map_nil]); first | done | rfl) ?_
        with_reducible refine (H11.out _ hbd).mono ?_
        rintro e w64 ⟨rfl, hb⟩
        refine ⟨_, rfl, ?_⟩
        have hbn := below_step hbd hb; clear hbd hHeld hb; have hbd := hbn; clear hbn
        refine hK.out _ _ (HKp.out _ hbd) (fun hHeld => ?_)
        clear hK K
        refine norm_ (a' := ?_) ?_ ?_; rotate_left
        · show Act.put _ (some 43) _ = _
          simp only [Act.put, setIfInBounds_toArray, set_cons_zero, set_cons_succ, i64_w, i32_w]; rfl
        refine pure_ (i := 5) (N := some 44) (v := ?_) (a' := ?_) (V3 63) rfl rfl (any_of HT_.out (by kernel_rfl)) (fun _ _ _ h => h) (Or.inl ⟨by rfl, ?_⟩) ?_ ?_; rotate_left
        · intro w'; go_simp; with_reducible rfl
        rotate_left
        · simp only [Act.put, setIfInBounds_toArray, set_cons_zero, set_cons_succ, i64_w, i32_w]; rfl
        refine pure_ (i := 6) (N := some 45) (v := ?_) (a' := ?_) (V3 127) rfl rfl (any_of HT_.out (by kernel_rfl)) (fun _ _ _ h => h) (Or.inl ⟨by rfl, ?_⟩) ?_ ?_; rotate_left
        · intro w'; go_simp; with_reducible rfl
        rotate_left
        · simp only [Act.put, setIfInBounds_toArray, set_cons_zero, set_cons_succ, i64_w, i32_w]; rfl
        refine take_ (i := 7) (N := some 46) (v := .agg xc3) (a' := ?_) (V3 255) rfl rfl (take_ofW HT_.out HW_.out (by kernel_rfl)) (fun _ _ _ h => h) (Or.inl ⟨by rfl, fun w' hs => Go.Proofs.Ythapknnppabdaaa.Fill.row_yields 31 _ rfl (q3 + 1) rfl 31 xc3 (0, 0) _ hs.x hu31.out rfl J3'.out⟩) hHeld ?_ ?_; rotate_left
        · simp only [Act.put, setIfInBounds_toArray, set_cons_zero, set_cons_succ, i64_w, i32_w]; rfl
        refine take_ (i := 8) (N := some 47) (v := .agg xc4) (a' := ?_) (V3 511) rfl rfl (take_ofW HT_.out HW_.out (by kernel_rfl)) (fun _ _ _ h => h) (Or.inl ⟨by rfl, fun w' hs => Go.Proofs.Ythapknnppabdaaa.Fill.row_yields 31 _ rfl (q4 + 1) rfl 31 xc4 (0, 0) _ hs.y hu31.out rfl J4'.out⟩) hHeld ?_ ?_; rotate_left
        · simp only [Act.put, setIfInBounds_toArray, set_cons_zero, set_cons_succ, i64_w, i32_w]; rfl
        refine one_ (i := 9) (N := some 48) (V3 1023) rfl rfl (one_of HT_.out (by kernel_rfl)) (by decide) (fun K hK => ?_)
        refine goes_ Try.func12 (by kernel_rfl) rfl #[.agg xc3, .agg xc4] (by rfl) rfl rfl (by (try simp only [List.map_toArray, List.map_cons, List.map_nil]); first | done | rfl) ?_
        with_reducible refine (H12.out _ hbd).mono ?_
        rintro e w69 ⟨rfl, hb⟩
        refine ⟨_, rfl, ?_⟩
        have hbn := below_step hbd hb; clear hbd hHeld hb; have hbd := hbn; clear hbn
        refine hK.out _ _ (HKp.out _ hbd) (fun hHeld => ?_)
        clear hK K
        refine norm_ (a' := ?_) ?_ ?_; rotate_left
        · show Act.put _ (some 48) _ = _
          simp only [Act.put, setIfInBounds_toArray, set_cons_zero, set_cons_succ, i64_w, i32_w]; rfl
        refine pure_ (i := 10) (N := some 49) (v := ?_) (a' := ?_) (V3 2047) rfl rfl (any_of HT_.out (by kernel_rfl)) (fun _ _ _ h => h) (Or.inl ⟨by rfl, ?_⟩) ?_ ?_; rotate_left
        · intro w'; go_simp; with_reducible rfl
        rotate_left
        · simp only [Act.put, setIfInBounds_toArray, set_cons_zero, set_cons_succ, i64_w, i32_w]; rfl
        refine pure_ (i := 11) (N := some 50) (v := ?_) (a' := ?_) (V3 4095) rfl rfl (any_of HT_.out (by kernel_rfl)) (fun _ _ _ h => h) (Or.inl ⟨by rfl, ?_⟩) ?_ ?_; rotate_left
        · intro w'; go_simp; with_reducible rfl
        rotate_left
        · simp only [Act.put, setIfInBounds_toArray, set_cons_zero, set_cons_succ, i64_w, i32_w]; rfl
        refine take_ (i := 12) (N := some 51) (v := .agg mc) (a' := ?_) (V3 8191) rfl rfl (take_ofW HT_.out HW_.out (by kernel_rfl)) (fun _ _ _ h => h) (Or.inl ⟨by rfl, fun w' hs => Go.Proofs.Ythapknnppabdaaa.Fill.row_yields 29 _ rfl p2 rfl 29 mc (0, 0) _ hs.m hu29.out rfl HI.out⟩) hHeld ?_ ?_; rotate_left
        · simp only [Act.put, setIfInBounds_toArray, set_cons_zero, set_cons_succ, i64_w, i32_w]; rfl
        refine take_ (i := 13) (N := some 52) (v := .agg rc) (a' := ?_) (V3 16383) rfl rfl (take_ofW HT_.out HW_.out (by kernel_rfl)) (fun _ _ _ h => h) (Or.inl ⟨by rfl, fun w' hs => Go.Proofs.Ythapknnppabdaaa.Fill.row_yields 31 _ rfl (p2 + 1) rfl 31 rc (0, 0) _ hs.r hu31.out rfl IR.out⟩) hHeld ?_ ?_; rotate_left
        · simp only [Act.put, setIfInBounds_toArray, set_cons_zero, set_cons_succ, i64_w, i32_w]; rfl
        refine take_ (i := 15) (N := some 54) (v := .agg mc) (a' := ?_) (V3 49151) rfl rfl (take_ofW HT_.out HW_.out (by kernel_rfl)) (fun _ _ _ h => h) (Or.inl ⟨by rfl, fun w' hs => Go.Proofs.Ythapknnppabdaaa.Fill.row_yields 29 _ rfl p2 rfl 29 mc (0, 0) _ hs.m hu29.out rfl HI.out⟩) hHeld ?_ ?_; rotate_left
        · simp only [Act.put, setIfInBounds_toArray, set_cons_zero, set_cons_succ, i64_w, i32_w]; rfl
        refine take_ (i := 16) (N := some 55) (v := .agg rc) (a' := ?_) (V3 114687) rfl rfl (take_ofW HT_.out HW_.out (by kernel_rfl)) (fun _ _ _ h => h) (Or.inl ⟨by rfl, fun w' hs => Go.Proofs.Ythapknnppabdaaa.Fill.row_yields 31 _ rfl (p2 + 1) rfl 31 rc (0, 0) _ hs.r hu31.out rfl IR.out⟩) hHeld ?_ ?_; rotate_left
        · simp only [Act.put, setIfInBounds_toArray, set_cons_zero, set_cons_succ, i64_w, i32_w]; rfl
        refine one_ (i := 14) (N := some 53) (V3 131071) rfl rfl (one_of HT_.out (by kernel_rfl)) (by decide) (fun K hK => ?_)
        refine goes_ Try.func13 (by kernel_rfl) rfl #[.agg mc, .agg rc] (by rfl) rfl rfl (by (try simp only [List.map_toArray, List.map_cons, List.map_nil]); first | done | rfl) ?_
        with_reducible refine (H13.out _ hbd).mono ?_
        rintro e w74 ⟨nc, rfl, hk, hb⟩
        have HNC := Aside0.mk hk; clear hk
        refine ⟨_, rfl, ?_⟩
        have hbn := below_step hbd hb; clear hbd hHeld hb; have hbd := hbn; clear hbn
        refine hK.out _ _ (HKp.out _ hbd) (fun hHeld => ?_)
        clear hK K
        refine norm_ (a' := ?_) ?_ ?_; rotate_left
        · show Act.put _ (some 53) _ = _
          simp only [Act.put, setIfInBounds_toArray, set_cons_zero, set_cons_succ, i64_w, i32_w]; rfl
        refine one_ (i := 17) (N := some 56) (V3 262143) rfl rfl (one_of HT_.out (by kernel_rfl)) (by decide) (fun K hK => ?_)
        refine goes_ Try.func14 (by kernel_rfl) rfl #[.agg mc, .agg rc] (by rfl) rfl rfl (by (try simp only [List.map_toArray, List.map_cons, List.map_nil]); first | done | rfl) ?_
        with_reducible refine (H14.out _ hbd).mono ?_
        rintro e w77 ⟨oc, rfl, hk, hb⟩
        have HOC := Aside0.mk hk; clear hk; replace HNC := Aside0.mk (k29.K_below hb HNC.out)
        refine ⟨_, rfl, ?_⟩
        have hbn := below_step hbd hb; clear hbd hHeld hb; have hbd := hbn; clear hbn
        refine hK.out _ _ (HKp.out _ hbd) (fun hHeld => ?_)
        clear hK K
        refine norm_ (a' := ?_) ?_ ?_; rotate_left
        · show Act.put _ (some 56) _ = _
          simp only [Act.put, setIfInBounds_toArray, set_cons_zero, set_cons_succ, i64_w, i32_w]; rfl
        refine one_ (i := 18) (N := some 57) (V3 524287) rfl rfl (one_of HT_.out (by kernel_rfl)) (by decide) (fun K hK => ?_)
        refine goes_ Try.func11 (by kernel_rfl) rfl #[.agg nc, .agg oc] (by rfl) rfl rfl (by (try simp only [List.map_toArray, List.map_cons, List.map_nil]); first | done | rfl) ?_
        with_reducible refine (message_x _ _ _ _ HNC.out HOC.out).mono ?_
        rintro e w78 ⟨rfl, hb⟩
        refine ⟨_, rfl, ?_⟩
        have hbn := below_step hbd hb; clear hbd hHeld hb; have hbd := hbn; clear hbn
        refine hK.out _ _ (HKp.out _ hbd) (fun hHeld => ?_)
        clear hK K
        refine norm_ (a' := ?_) ?_ ?_; rotate_left
        · show Act.put _ (some 57) _ = _
          simp only [Act.put, setIfInBounds_toArray, set_cons_zero, set_cons_succ, i64_w, i32_w]; rfl
        refine pure_ (i := 19) (N := some 58) (v := ?_) (a' := ?_) (V3 1048575) rfl rfl (any_of HT_.out (by kernel_rfl)) (fun _ _ _ h => h) (Or.inl ⟨by rfl, ?_⟩) ?_ ?_; rotate_left
        · intro w'; go_simp; with_reducible rfl
        rotate_left
        · simp only [Act.put, setIfInBounds_toArray, set_cons_zero, set_cons_succ, i64_w, i32_w]; rfl
        refine pure_ (i := 20) (N := some 59) (v := ?_) (a' := ?_) (V3 2097151) rfl rfl (any_of HT_.out (by kernel_rfl)) (fun _ _ _ h => h) (Or.inl ⟨by rfl, ?_⟩) ?_ ?_; rotate_left
        · intro w'; go_simp; with_reducible rfl
        rotate_left
        · simp only [Act.put, setIfInBounds_toArray, set_cons_zero, set_cons_succ, i64_w, i32_w]; rfl
        refine take_ (i := 21) (N := some 60) (v := .agg rc) (a' := ?_) (V3 4194303) rfl rfl (take_ofW HT_.out HW_.out (by kernel_rfl)) (fun _ _ _ h => h) (Or.inl ⟨by rfl, fun w' hs => Go.Proofs.Ythapknnppabdaaa.Fill.row_yields 31 _ rfl (p2 + 1) rfl 31 rc (0, 0) _ hs.r hu31.out rfl IR.out⟩) hHeld ?_ ?_; rotate_left
        · simp only [Act.put, setIfInBounds_toArray, set_cons_zero, set_cons_succ, i64_w, i32_w]; rfl
        refine take_ (i := 23) (N := some 62) (v := .agg rc) (a' := ?_) (V3 12582911) rfl rfl (take_ofW HT_.out HW_.out (by kernel_rfl)) (fun _ _ _ h => h) (Or.inl ⟨by rfl, fun w' hs => Go.Proofs.Ythapknnppabdaaa.Fill.row_yields 31 _ rfl (p2 + 1) rfl 31 rc (0, 0) _ hs.r hu31.out rfl IR.out⟩) hHeld ?_ ?_; rotate_left
        · simp only [Act.put, setIfInBounds_toArray, set_cons_zero, set_cons_succ, i64_w, i32_w]; rfl
        refine one_ (i := 22) (N := some 61) (V3 16777215) rfl rfl (one_of HT_.out (by kernel_rfl)) (by decide) (fun K hK => ?_)
        refine goes_ Try.func15 (by kernel_rfl) rfl #[.agg rc] (by rfl) rfl rfl (by (try simp only [List.map_toArray, List.map_cons, List.map_nil]); first | done | rfl) ?_
        with_reducible refine (H15.out _ hbd).mono ?_
        rintro e w82 ⟨rfl, hb⟩
        refine ⟨_, rfl, ?_⟩
        have hbn := below_step hbd hb; clear hbd hHeld hb; have hbd := hbn; clear hbn
        refine hK.out _ _ (HKp.out _ hbd) (fun hHeld => ?_)
        clear hK K
        refine norm_ (a' := ?_) ?_ ?_; rotate_left
        · show Act.put _ (some 61) _ = _
          simp only [Act.put, setIfInBounds_toArray, set_cons_zero, set_cons_succ, i64_w, i32_w]; rfl
        refine one_ (i := 24) (N := some 63) (V3 33554431) rfl rfl (one_of HT_.out (by kernel_rfl)) (by decide) (fun K hK => ?_)
        refine goes_ Try.func16 (by kernel_rfl) rfl #[.agg rc] (by rfl) rfl rfl (by (try simp only [List.map_toArray, List.map_cons, List.map_nil]); first | done | rfl) ?_
        with_reducible refine (H16.out _ hbd).mono ?_
        rintro e w84 ⟨rfl, hb⟩
        refine ⟨_, rfl, ?_⟩
        have hbn := below_step hbd hb; clear hbd hHeld hb; have hbd := hbn; clear hbn
        refine hK.out _ _ (HKp.out _ hbd) (fun hHeld => ?_)
        clear hK K
        refine norm_ (a' := ?_) ?_ ?_; rotate_left
        · show Act.put _ (some 63) _ = _
          simp only [Act.put, setIfInBounds_toArray, set_cons_zero, set_cons_succ, i64_w, i32_w]; rfl
        refine pure_ (i := 25) (N := some 64) (v := .bool true) (a' := ?_) (V3 67108863) rfl rfl (any_of HT_.out (by kernel_rfl)) (fun _ _ _ h => h) (Or.inl ⟨by rfl, ?_⟩) ?_ ?_
        · intro w'; go_simp; try simp
        rotate_left
        · simp only [Act.put, setIfInBounds_toArray, set_cons_zero, set_cons_succ, i64_w, i32_w]; rfl
        refine pure_ (i := 26) (N := some 65) (v := ?_) (a' := ?_) (V3 134217727) rfl rfl (any_of HT_.out (by kernel_rfl)) (fun _ _ _ h => h) (Or.inl ⟨by rfl, ?_⟩) ?_ ?_; rotate_left
        · intro w'; go_simp; with_reducible rfl
        rotate_left
        · simp only [Act.put, setIfInBounds_toArray, set_cons_zero, set_cons_succ, i64_w, i32_w]; rfl
        refine pure_ (i := 27) (N := some 66) (v := ?_) (a' := ?_) (V3 268435455) rfl rfl (any_of HT_.out (by kernel_rfl)) (fun _ _ _ h => h) (Or.inl ⟨by rfl, ?_⟩) ?_ ?_; rotate_left
        · intro w'; go_simp; with_reducible rfl
        rotate_left
        · simp only [Act.put, setIfInBounds_toArray, set_cons_zero, set_cons_succ, i64_w, i32_w]; rfl
        refine take_ (i := 28) (N := some 67) (v := .agg xc3) (a' := ?_) (V3 536870911) rfl rfl (take_ofW HT_.out HW_.out (by kernel_rfl)) (fun _ _ _ h => h) (Or.inl ⟨by rfl, fun w' hs => Go.Proofs.Ythapknnppabdaaa.Fill.row_yields 31 _ rfl (q3 + 1) rfl 31 xc3 (0, 0) _ hs.x hu31.out rfl J3'.out⟩) hHeld ?_ ?_; rotate_left
        · simp only [Act.put, setIfInBounds_toArray, set_cons_zero, set_cons_succ, i64_w, i32_w]; rfl
        refine take_ (i := 30) (N := some 69) (v := .agg xc4) (a' := ?_) (V3 1610612735) rfl rfl (take_ofW HT_.out HW_.out (by kernel_rfl)) (fun _ _ _ h => h) (Or.inl ⟨by rfl, fun w' hs => Go.Proofs.Ythapknnppabdaaa.Fill.row_yields 31 _ rfl (q4 + 1) rfl 31 xc4 (0, 0) _ hs.y hu31.out rfl J4'.out⟩) hHeld ?_ ?_; rotate_left
        · simp only [Act.put, setIfInBounds_toArray, set_cons_zero, set_cons_succ, i64_w, i32_w]; rfl
        refine one_ (i := 29) (N := some 68) (V3 2147483647) rfl rfl (one_of HT_.out (by kernel_rfl)) (by decide) (fun K hK => ?_)
        refine goes_ Try.func15 (by kernel_rfl) rfl #[.agg xc3] (by rfl) rfl rfl (by (try simp only [List.map_toArray, List.map_cons, List.map_nil]); first | done | rfl) ?_
        with_reducible refine (G15.out _ hbd).mono ?_
        rintro e w89 ⟨rfl, hb⟩
        refine ⟨_, rfl, ?_⟩
        have hbn := below_step hbd hb; clear hbd hHeld hb; have hbd := hbn; clear hbn
        refine hK.out _ _ (HKp.out _ hbd) (fun hHeld => ?_)
        clear hK K
        refine norm_ (a' := ?_) ?_ ?_; rotate_left
        · show Act.put _ (some 68) _ = _
          simp only [Act.put, setIfInBounds_toArray, set_cons_zero, set_cons_succ, i64_w, i32_w]; rfl
        refine one_ (i := 31) (N := some 70) (V3 4294967295) rfl rfl (one_of HT_.out (by kernel_rfl)) (by decide) (fun K hK => ?_)
        refine goes_ Try.func16 (by kernel_rfl) rfl #[.agg xc4] (by rfl) rfl rfl (by (try simp only [List.map_toArray, List.map_cons, List.map_nil]); first | done | rfl) ?_
        with_reducible refine (G16.out _ hbd).mono ?_
        rintro e w91 ⟨rfl, hb⟩
        refine ⟨_, rfl, ?_⟩
        have hbn := below_step hbd hb; clear hbd hHeld hb; have hbd := hbn; clear hbn
        refine hK.out _ _ (HKp.out _ hbd) (fun hHeld => ?_)
        clear hK K
        refine norm_ (a' := ?_) ?_ ?_; rotate_left
        · show Act.put _ (some 70) _ = _
          simp only [Act.put, setIfInBounds_toArray, set_cons_zero, set_cons_succ, i64_w, i32_w]; rfl
        refine pure_ (i := 32) (N := some 71) (v := .bool true) (a' := ?_) (V3 8589934591) rfl rfl (any_of HT_.out (by kernel_rfl)) (fun _ _ _ h => h) (Or.inl ⟨by rfl, ?_⟩) ?_ ?_
        · intro w'; go_simp; try simp
        rotate_left
        · simp only [Act.put, setIfInBounds_toArray, set_cons_zero, set_cons_succ, i64_w, i32_w]; rfl
        refine pure_ (i := 33) (N := some 72) (v := ?_) (a' := ?_) (V3 17179869183) rfl rfl (any_of HT_.out (by kernel_rfl)) (fun _ _ _ h => h) (Or.inl ⟨by rfl, ?_⟩) ?_ ?_; rotate_left
        · intro w'; go_simp; with_reducible rfl
        rotate_left
        · simp only [Act.put, setIfInBounds_toArray, set_cons_zero, set_cons_succ, i64_w, i32_w]; rfl
        refine pure_ (i := 34) (N := some 6) (v := ?_) (a' := ?_) (V3 34359738367) rfl rfl (any_of HT_.out (by kernel_rfl)) (fun _ _ _ h => h) (Or.inl ⟨by rfl, ?_⟩) ?_ ?_; rotate_left
        · intro w'; go_simp; with_reducible rfl
        rotate_left
        · simp only [Act.put, setIfInBounds_toArray, set_cons_zero, set_cons_succ, i64_w, i32_w]; rfl
        refine done_ (done_of HT_.out (by kernel_rfl)) ?_
        try go_wp2
        go_ret
        exact ⟨rfl, below_step HBL.out hbd⟩
end Go.Proofs.Ythapknnppabdaaa.MR
