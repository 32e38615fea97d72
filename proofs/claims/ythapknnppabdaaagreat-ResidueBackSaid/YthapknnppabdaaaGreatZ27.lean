/- ResidueBack: part 27 of its proof. -/
import Derived.Test.YthapknnppabdaaaGreatZ26
namespace Go.Proofs.YthapknnppabdaaaGreat.MQ
open Go.RowKit Go.Proofs.YthapknnppabdaaaGreatW.PrintWords Go.Proofs.YthapknnppabdaaaGreatW.PrintLast Go.Proofs.YthapknnppabdaaaGreatW.PrintMore
set_option linter.unusedVariables false
set_option linter.unusedSimpArgs false
theorem size29 {x : S29} {cs : Array Value} {w : World} (h : k29.K w x cs.toList) : cs.size = 21 := by obtain ⟨_, _, _, _, _, _, e, _⟩ := k29_open h; rw [← Array.length_toList, e]; rfl
theorem size35 {x : S35} {cs : Array Value} {w : World} (h : k35.K w x cs.toList) : cs.size = 5 := by obtain ⟨_, _, _, _, e, _⟩ := k35_open h; rw [← Array.length_toList, e]; rfl
theorem info29k {x : S29} {cs : Array Value} {w : World} (h : k29.K w x cs.toList) : (Tryz.prog.info? 29).map (·.size) = some cs.size := by rw [size29 h]; kernel_rfl
theorem info35k {x : S35} {cs : Array Value} {w : World} (h : k35.K w x cs.toList) : (Tryz.prog.info? 35).map (·.size) = some cs.size := by rw [size35 h]; kernel_rfl
theorem one29 {x : S29} {cs : Array Value} {w : World} (h : k29.K w x cs.toList) : cs.all (·.oneCell') = true := by
  rw [Array.all_eq_true]
  intro i hlt
  exact k29.K_one h _ (by rw [Array.mem_toList_iff]; exact Array.getElem_mem hlt)
theorem one35 {x : S35} {cs : Array Value} {w : World} (h : k35.K w x cs.toList) : cs.all (·.oneCell') = true := by
  rw [Array.all_eq_true]
  intro i hlt
  exact k35.K_one h _ (by rw [Array.mem_toList_iff]; exact Array.getElem_mem hlt)
theorem side0_k (z : S29) (zc : Array Value) (w : World) (h : k29.K w z zc.toList) (hF : XOK z) : Calls Tryz.prog 9 #[.int .i64 0, .agg zc] w (EndS (XmlP z) w) := by
  obtain ⟨A16, c16, A19, c19, A20, c20, e, l16, g16, l19, g19, l20, g20⟩ := k29_open h
  have em : zc = rowM z (.slice A16 z.f15.length c16) (.slice A19 z.f18.length c19) (.slice A20 z.f19.length c20) := Array.toList_inj.1 e
  rw [em]
  exact side0_e z A16 c16 A19 c19 A20 c20 w hF l16 g16 l19 g19 l20 g20
theorem side1_k (z : S29) (zc : Array Value) (w : World) (h : k29.K w z zc.toList) (hF : BOK z) : Calls Tryz.prog 9 #[.int .i64 1, .agg zc] w (EndS BitP w) := by
  obtain ⟨A16, c16, A19, c19, A20, c20, e, l16, g16, l19, g19, l20, g20⟩ := k29_open h
  have em : zc = rowM z (.slice A16 z.f15.length c16) (.slice A19 z.f18.length c19) (.slice A20 z.f19.length c20) := Array.toList_inj.1 e
  rw [em]
  exact side1_e z A16 c16 A19 c19 A20 c20 w hF l16 g16 l19 g19 l20 g20
/-- A message comes back that a side may say. -/
def MadeEnd (side : Int) (w : World) (e : Ending) (w' : World) : Prop := ∃ (z : S29) (zc : Array Value), e = .returned (.agg zc) ∧ MsgOf side z ∧ (∀ W' : World, (∀ k, w.heap.size ≤ k → k < w'.heap.size → W'.heap[k]? = w'.heap[k]?) → k29.K W' z zc.toList) ∧ Below w.heap.size w w'
theorem made_x (x : S29) (side : Int) (mc : Array Value) (w : World) (h : k29.K w x mc.toList) (hx : MsgIn x) : Calls Tryz.prog 7 #[.agg mc, .int .i64 side] w (MadeEnd side w) := by
  obtain ⟨A16, c16, A19, c19, A20, c20, e, l16, g16, l19, g19, l20, g20⟩ := k29_open h
  have em : mc = rowM x (.slice A16 x.f15.length c16) (.slice A19 x.f18.length c19) (.slice A20 x.f19.length c20) := Array.toList_inj.1 e
  rw [em]
  refine (msg_x x side A16 c16 A19 c19 A20 c20 w hx l16 g16 l19 g19 l20 g20).mono ?_
  rintro e w' ⟨z, B16, d16, B19, d19, B20, d20, rfl, hz, m16, m19, m20, hc, hb⟩
  exact ⟨z, _, rfl, hz, fun W' hW => k29_mk W' z m16 (hc W' hW).1 m19 (hc W' hW).2.1 m20 (hc W' hW).2.2, hb⟩
theorem no_el : ∀ t ∈ ([] : List S50), t.f1.length ≤ 140737488355328 := fun t ht => by cases ht
theorem reach_left {z : S29} (h : MsgOf 0 z) : ReachL (lefts z) := by
  have r := reach_of h
  exact ⟨r.h15, r.d15, Nat.zero_le _, r.h19, r.d19⟩
theorem reach_cut {z : S29} (h : MsgOf 1 z) : ReachL { z with f19 := [] } := by
  have r := reach_of h
  exact ⟨r.h15, r.d15, r.h18, Nat.zero_le _, fun t ht => by cases ht⟩
def T3_8 : Bool × List (List Nat × List Nat) := (true, [([], []), ([0, 0], [0]), ([1], [1]), ([1], [1]), ([2, 3, 1, 1], [1, 2, 3]), ([1], [1]), ([4, 5, 4, 1], [1, 4, 5]), ([1, 6], [1, 6]), ([7, 6], [7]), ([8], [8]), ([9, 8], [8, 9]), ([10, 8, 8], [8, 10]), ([11], [11]), ([12, 11], [11, 12]), ([11, 13, 8], [8, 11, 13]), ([14, 11, 8], [8, 14]), ([15], [15]), ([16, 15], [15, 16]), ([15, 17, 8], [8, 15, 17]), ([8, 18], [8, 18]), ([19, 15, 0, 1, 2, 3, 4, 5, 6, 7, 8, 9, 10, 11, 12, 13, 14, 15, 16, 17, 18, 19], [19])])
def B3_8 : List Nat := [0, 1, 3, 3, 15, 3, 63, 127, 255, 511, 1023, 2047, 4095, 8191, 16383, 32767, 65535, 131071, 262143, 524287, 1048575]
theorem tab3_8 : rtab .any (opsOf Tryz.f3 8) = T3_8 := by kernel_rfl
theorem bits3_8 : waitsOk T3_8.2 B3_8 = true := by kernel_rfl
set_option maxHeartbeats 32000000 in
set_option maxRecDepth 100000 in
theorem back_walk (x : S29) (v : Int) (mc : Array Value) (w : World) (h : k29.K w x mc.toList) (hr : ReachL x) (hx : MsgIn x) : Calls Tryz.prog 3 #[.agg mc, .int .i64 v] w fun e w' => e = .returned (.bool true) ∧ Below w.heap.size w w' := by
  have hu29 := Aside0.mk Tryz.underlying29
  have hu35 := Aside0.mk Tryz.underlying35
  have HX := Aside0.mk (And.intro h (And.intro hr hx))
  have HI := Aside0.mk (info29k h)
  have HZ := Aside0.mk (size29 h)
  clear h hr hx
  go_enter Tryz.func3, Tryz.ntmps3
  go_upto_region 1 with fail
  obtain ⟨p, hp⟩ : ∃ p, p = w.heap.size := ⟨_, rfl⟩
  have J0 : (w.alloc (.cells mc 29)).heap[w.heap.size]? = some (.cells mc 29 (0, 0)) ∧ (∀ n, n = w.heap.size → Below n w (w.alloc (.cells mc 29))) := ⟨blk_new w _, fun n hn => hn ▸ below_alloc (Below.refl _ w) _⟩
  have HP : Aside0 (p = w.heap.size) := ⟨hp⟩
  rw [← hp] at J0 ⊢
  revert J0
  generalize w.alloc (.cells mc 29) = w0
  intro J0
  have P0 := Aside0.mk J0.1
  have B0 : Aside0 (Below w.heap.size w w0) := ⟨J0.2 _ HP.out.symm⟩
  clear J0 hp
  go_wp2_with ((with_reducible refine gate_dst (N := 11) rfl ?_); refine wpList_load_row rfl 29 (.tmp 2) rfl p rfl 29 mc (0, 0) _ P0.out hu29.out rfl HI.out ?_)
  refine (small_any x mc _ (k29.K_below B0.out HX.out.1) HX.out.2.1).mono ?_
  rintro e w1 ⟨b, rfl, -, hB⟩
  have P1 := Aside0.mk (blk_below P0.out hB)
  have B1 := Aside0.mk (below_step B0.out hB)
  clear hB P0 B0
  cases b with
  | false =>
    go_wp2_with fail
    refine (awake_x _).mono ?_
    rintro e w2 ⟨rfl, hB⟩
    have B2 := Aside0.mk (below_step B1.out hB)
    clear hB
    go_wp2_with fail
    go_ret
    exact ⟨rfl, B2.out⟩
  | true =>
  go_wp2_with fail
  refine (side_x v _).mono ?_
  rintro e w2 ⟨s, rfl, hs, hB⟩
  have P2 := Aside0.mk (blk_below P1.out hB)
  have B2 := Aside0.mk (below_step B1.out hB)
  have hs' : s = 0 ∨ s = 1 := by have h1 := hs.1; have h2 := hs.2; omega
  clear hB hs P1 B1
  rcases hs' with rfl | rfl
  · skip
    go_wp2_with ((with_reducible refine gate_dst (N := 17) rfl ?_); refine wpList_load_row rfl 29 (.tmp 2) rfl p rfl 29 mc (0, 0) _ P2.out hu29.out rfl HI.out ?_)
    refine (made_x x 0 mc _ (k29.K_below B2.out HX.out.1) HX.out.2.2).mono ?_
    rintro e w3 ⟨z, zc, rfl, hz, hc, hB⟩
    have P3 := Aside0.mk (blk_below P2.out hB)
    have B3 := Aside0.mk (below_step B2.out hB)
    have HM := Aside0.mk hz
    have HC := Aside0.mk hc
    have KZ3 := Aside0.mk (hc w3 (fun _ _ _ => rfl))
    have HLT := Aside0.mk (blk_lt P2.out)
    clear hB hz hc P2 B2
    go_upto_region 5 with ((with_reducible refine gate_store (t := 29) (p := 2) rfl ?_); refine Fill.store_event rfl 29 _ _ rfl p zc rfl rfl 29 mc P3.out (info29k KZ3.out) (by rw [HZ.out, size29 KZ3.out]) (one29 KZ3.out) ?_; intro w4 ea eb ec; have HS := Aside0.mk (And.intro ea (And.intro eb ec)); clear ea eb ec)
    have KZ := Aside0.mk (HC.out w4 (fun k h1 h2 => HS.out.2.1.2 k h2 (by have := HLT.out; omega) (by simp)))
    have P4 := Aside0.mk HS.out.1
    have B4 := Aside0.mk (HS.out.2.2 _ _ B3.out (by rw [HP.out]; exact Nat.le_refl _))
    have HIZ := Aside0.mk (info29k KZ.out)
    clear HS P3 B3 KZ3 HC HLT
    go_wp2_with ((with_reducible refine gate_dst (N := 21) rfl ?_); refine wpList_load_row rfl 29 (.tmp 2) rfl p rfl 29 zc (0, 0) _ P4.out hu29.out rfl HIZ.out ?_)
    refine (split1_x z zc _ KZ.out (reach_of HM.out) (by have := text_top HM.out.mer.2 (by decide) (by decide); omega) (by have := text_top HM.out.ter.2 (by decide) (by decide); omega)).mono ?_
    rintro e w5 ⟨nc, rc, rfl, hA, hR, hB⟩
    have KA : Aside0 (k29.K w5 (lefts z) nc.toList) := ⟨hA⟩
    have KR : Aside0 (k35.K w5 (⟨z.f17, outF z.f8 15, outF z.f9 8, z.f18, []⟩ : S35) rc.toList) := ⟨hR⟩
    have KZ5 := Aside0.mk (k29.K_below hB KZ.out)
    have P5 := Aside0.mk (blk_below P4.out hB)
    have B5 := Aside0.mk (below_step B4.out hB)
    have HIA := Aside0.mk (info29k hA)
    have HIR := Aside0.mk (info35k hR)
    clear hA hR hB KZ P4 B4
    go_upto_region 6 with (first | ((with_reducible refine gate_store (t := 29) (p := 5) rfl ?_); refine Fill.store_event rfl 29 _ _ rfl w5.heap.size nc rfl rfl 29 zeroM (blk_alloc (blk_new w5 _) _) HIA.out (by rw [size29 KA.out]; rfl) (one29 KA.out) ?_; intro w6 ea eb ec; have HE := Aside0.mk (And.intro ea (And.intro eb ec)); clear ea eb ec) | ((with_reducible refine gate_store (t := 35) (p := 6) rfl ?_); refine Fill.store_event rfl 35 _ _ rfl (w5.heap.size + 1) rc rfl rfl 35 zeroR (KeepBut.blk HE.out.2.1 (blk_new2 w5 _ _) (by omega) (by simp)) HIR.out (by rw [size35 KR.out]; rfl) (one35 KR.out) ?_; intro w7 ea eb ec; have HF := Aside0.mk (And.intro ea (And.intro eb ec)); clear ea eb ec))
    have hbel := HF.out.2.2 _ _ (HE.out.2.2 _ _ (below_alloc (below_alloc (Below.refl w5.heap.size w5) _) _) (Nat.le_refl _)) (by omega)
    obtain ⟨q, hq⟩ : ∃ q, q = w5.heap.size := ⟨_, rfl⟩
    have PA : Aside0 (w7.heap[q]? = some (.cells nc 29 (0, 0))) := ⟨by rw [hq]; exact KeepBut.blk HF.out.2.1 HE.out.1 (by omega) (by simp)⟩
    have PR : Aside0 (w7.heap[q + 1]? = some (.cells rc 35 (0, 0))) := ⟨by rw [hq]; exact HF.out.1⟩
    have PZ := Aside0.mk (blk_below P5.out hbel)
    have KA7 := Aside0.mk (k29.K_below hbel KA.out)
    have KR7 := Aside0.mk (k35.K_below hbel KR.out)
    have KZ7 := Aside0.mk (k29.K_below hbel KZ5.out)
    have BX := Aside0.mk (below_step B5.out hbel)
    rw [← hq]
    clear hq hbel HE HF KA KR KZ5 P5 B5
    have MB : Aside0 (∀ W, Below w7.heap.size w7 W → (W.heap[p]? = some (.cells zc 29 (0, 0)) ∧ W.heap[q]? = some (.cells nc 29 (0, 0)) ∧ W.heap[q + 1]? = some (.cells rc 35 (0, 0))) ∧ k29.K W z zc.toList ∧ k29.K W (lefts z) nc.toList ∧ k35.K W (⟨z.f17, outF z.f8 15, outF z.f9 8, z.f18, []⟩ : S35) rc.toList ∧ Below w.heap.size w W) := ⟨fun W hW => ⟨⟨blk_below PZ.out hW, blk_below PA.out hW, blk_below PR.out hW⟩, k29.K_below hW KZ7.out, k29.K_below hW KA7.out, k35.K_below hW KR7.out, below_step BX.out hW⟩⟩
    have B0 := Aside0.mk (Below.refl w7.heap.size w7)
    clear PA PR PZ KA7 KR7 KZ7 BX
    go_wp2_with ((with_reducible refine gate_dst (N := 29) rfl ?_); refine wpList_load_row rfl 29 (.tmp 2) rfl p rfl 29 zc (0, 0) _ (MB.out _ B0.out).1.1 hu29.out rfl HIZ.out ?_)
    refine (side0_k z zc _ (MB.out _ B0.out).2.1 (xok_of HM.out)).mono ?_
    rintro e w8 ⟨AE, nE, cE, ev, rfl, -, hB⟩
    have B1 := Aside0.mk (below_step B0.out hB)
    clear hB B0
    go_wp2_with ((with_reducible refine gate_dst (N := 36) rfl ?_); refine wpList_load_row rfl 29 (.tmp 5) rfl q rfl 29 nc (0, 0) _ (MB.out _ B1.out).1.2.1 hu29.out rfl HIA.out ?_)
    refine (side1_k (lefts z) nc _ (MB.out _ B1.out).2.2.1 (bok_split HM.out)).mono ?_
    rintro e w9 ⟨AF, nF, cF, fv, rfl, hf, hB⟩
    have HFV : Aside0 (fv = 0 ∨ fv = 4) := ⟨hf⟩
    have B2 := Aside0.mk (below_step B1.out hB)
    clear hB hf B1
    go_upto_region 8 with fail
    have BX := Aside0.mk (below_drew1 B2.out)
    refine start_ (n := 21) (ds := []) (S := fun w' => w'.heap[p]? = some (.cells zc 29 (0, 0)) ∧ w'.heap[q]? = some (.cells nc 29 (0, 0)) ∧ w'.heap[q + 1]? = some (.cells rc 35 (0, 0))) (V 21 0) (by rfl) (by rfl) (by kernel_rfl) ((MB.out _ BX.out).1) (fun hHeld => ?_); refine with_tabW tab3_8 bits3_8 (fun HT_ HW_ => ?_)
    generalize World.drew _ = wd at BX hHeld ⊢
    refine one_ (i := 0) (N := some 40) (V 21 1) rfl rfl (one_of HT_.out (by kernel_rfl)) (by decide) (fun K hK => ?_)
    refine goes_ Tryz.func5 (by kernel_rfl) rfl #[] (by rfl) rfl rfl (by (try simp only [List.map_toArray, List.map_cons, List.map_nil]); first | done | rfl) ?_
    with_reducible refine (awake_x _).mono ?_
    rintro e w100 ⟨rfl, hb⟩
    refine ⟨_, rfl, ?_⟩
    replace BX := Aside0.mk (below_step BX.out hb); clear hb
    refine hK.out _ _ ((MB.out _ BX.out).1) (fun hHeld => ?_)
    clear hK K
    refine norm_ (a' := ?_) ?_ ?_; rotate_left
    · show Act.put _ (some 40) _ = _; simp only [Act.put, List.setIfInBounds_toArray, List.set_cons_zero, List.set_cons_succ, i64_w, i32_w]; rfl
    refine pure_ (i := 1) (N := some 41) (v := ?_) (a' := ?_) (V 21 3) rfl rfl (any_of HT_.out (by kernel_rfl)) (fun _ _ _ h => h) (Or.inl ⟨by rfl, ?_⟩) ?_ ?_; rotate_left
    · intro w'; go_simp; with_reducible rfl
    rotate_left
    · simp only [Act.put, List.setIfInBounds_toArray, List.set_cons_zero, List.set_cons_succ, i64_w, i32_w]; rfl
    refine take_ (i := 2) (N := some 42) (v := .agg nc) (a' := ?_) (V 21 7) rfl rfl (take_ofW HT_.out HW_.out (by kernel_rfl)) (fun _ _ _ h => h) (Or.inl ⟨by rfl, fun w' hs => Fill.row_yields 29 _ rfl q rfl 29 _ (0, 0) _ hs.2.1 hu29.out rfl HIA.out⟩) hHeld ?_ ?_; rotate_left
    · simp only [Act.put, List.setIfInBounds_toArray, List.set_cons_zero, List.set_cons_succ, i64_w, i32_w]; rfl
    refine take_ (i := 3) (N := some 43) (v := .agg rc) (a' := ?_) (V 21 15) rfl rfl (take_ofW HT_.out HW_.out (by kernel_rfl)) (fun _ _ _ h => h) (Or.inl ⟨by rfl, fun w' hs => Fill.row_yields 35 _ rfl (q + 1) rfl 35 _ (0, 0) _ hs.2.2 hu35.out rfl HIR.out⟩) hHeld ?_ ?_; rotate_left
    · simp only [Act.put, List.setIfInBounds_toArray, List.set_cons_zero, List.set_cons_succ, i64_w, i32_w]; rfl
    refine take_ (i := 5) (N := some 45) (v := .agg zc) (a' := ?_) (V 21 47) rfl rfl (take_ofW HT_.out HW_.out (by kernel_rfl)) (fun _ _ _ h => h) (Or.inl ⟨by rfl, fun w' hs => Fill.row_yields 29 _ rfl p rfl 29 _ (0, 0) _ hs.1 hu29.out rfl HIZ.out⟩) hHeld ?_ ?_; rotate_left
    · simp only [Act.put, List.setIfInBounds_toArray, List.set_cons_zero, List.set_cons_succ, i64_w, i32_w]; rfl
    refine one_ (i := 4) (N := some 44) (V 21 63) rfl rfl (one_of HT_.out (by kernel_rfl)) (by decide) (fun K hK => ?_)
    refine goes_ Tryz.func11 (by kernel_rfl) rfl #[.agg nc, .agg rc] (by rfl) rfl rfl (by (try simp only [List.map_toArray, List.map_cons, List.map_nil]); first | done | rfl) ?_
    with_reducible refine (join_x (lefts z) (⟨z.f17, outF z.f8 15, outF z.f9 8, z.f18, []⟩ : S35) nc rc _ (MB.out _ BX.out).2.2.1 (MB.out _ BX.out).2.2.2.1 (reach_left HM.out) ⟨(reach_of HM.out).h18, Nat.zero_le _, no_el⟩).mono ?_
    rintro e w104 ⟨jc, rfl, hj, hb⟩
    refine ⟨_, rfl, ?_⟩
    have KJ : Aside0 (k29.K w104 z jc.toList) := ⟨by have h := hj; rw [back0] at h; exact h⟩; clear hj
    replace BX := Aside0.mk (below_step BX.out hb); clear hb
    refine hK.out _ _ ((MB.out _ BX.out).1) (fun hHeld => ?_)
    clear hK K
    refine norm_ (a' := ?_) ?_ ?_; rotate_left
    · show Act.put _ (some 44) _ = _; simp only [Act.put, List.setIfInBounds_toArray, List.set_cons_zero, List.set_cons_succ, i64_w, i32_w]; rfl
    refine one_ (i := 6) (N := some 46) (V 21 127) rfl rfl (one_of HT_.out (by kernel_rfl)) (by decide) (fun K hK => ?_)
    refine goes_ Tryz.func10 (by kernel_rfl) rfl #[.agg jc, .agg zc] (by rfl) rfl rfl (by (try simp only [List.map_toArray, List.map_cons, List.map_nil]); first | done | rfl) ?_
    with_reducible refine (same_x z jc zc _ KJ.out (MB.out _ BX.out).2.1).mono ?_
    rintro e w106 ⟨rfl, hb⟩
    refine ⟨_, rfl, ?_⟩
    replace BX := Aside0.mk (below_step BX.out hb); clear hb
    refine hK.out _ _ ((MB.out _ BX.out).1) (fun hHeld => ?_)
    clear hK K
    refine norm_ (a' := ?_) ?_ ?_; rotate_left
    · show Act.put _ (some 46) _ = _; simp only [Act.put, List.setIfInBounds_toArray, List.set_cons_zero, List.set_cons_succ, i64_w, i32_w]; rfl
    refine pure_ (i := 7) (N := some 47) (v := ?_) (a' := ?_) (V 21 255) rfl rfl (any_of HT_.out (by kernel_rfl)) (fun _ _ _ h => h) (Or.inl ⟨by rfl, ?_⟩) ?_ ?_; rotate_left
    · intro w'; go_simp; with_reducible rfl
    rotate_left
    · simp only [Act.put, List.setIfInBounds_toArray, List.set_cons_zero, List.set_cons_succ, i64_w, i32_w]; rfl
    refine pure_ (i := 8) (N := some 48) (v := ?_) (a' := ?_) (V 21 511) rfl rfl (any_of HT_.out (by kernel_rfl)) (fun _ _ _ h => h) (Or.inl ⟨by rfl, ?_⟩) ?_ ?_; rotate_left
    · intro w'; go_simp; with_reducible rfl
    rotate_left
    · simp only [Act.put, List.setIfInBounds_toArray, List.set_cons_zero, List.set_cons_succ, i64_w, i32_w]; rfl
    by_cases ev0 : ev = 0
    · subst ev0
      rcases HFV.out with rfl | rfl
      · skip
        refine pure_ (i := 9) (N := some 49) (v := ?_) (a' := ?_) (V 21 1023) rfl rfl (any_of HT_.out (by kernel_rfl)) (fun _ _ _ h => h) (Or.inl ⟨by rfl, ?_⟩) ?_ ?_; rotate_left
        · intro w'; go_simp; with_reducible rfl
        rotate_left
        · simp only [Act.put, List.setIfInBounds_toArray, List.set_cons_zero, List.set_cons_succ, i64_w, i32_w]; rfl
        refine pure_ (i := 10) (N := some 50) (v := ?_) (a' := ?_) (V 21 2047) rfl rfl (any_of HT_.out (by kernel_rfl)) (fun _ _ _ h => h) (Or.inl ⟨by rfl, ?_⟩) ?_ ?_; rotate_left
        · intro w'; go_simp; with_reducible rfl
        rotate_left
        · simp only [Act.put, List.setIfInBounds_toArray, List.set_cons_zero, List.set_cons_succ, i64_w, i32_w]; rfl
        refine pure_ (i := 11) (N := some 51) (v := ?_) (a' := ?_) (V 21 4095) rfl rfl (any_of HT_.out (by kernel_rfl)) (fun _ _ _ h => h) (Or.inl ⟨by rfl, ?_⟩) ?_ ?_; rotate_left
        · intro w'; go_simp; with_reducible rfl
        rotate_left
        · simp only [Act.put, List.setIfInBounds_toArray, List.set_cons_zero, List.set_cons_succ, i64_w, i32_w]; rfl
        refine pure_ (i := 12) (N := some 52) (v := ?_) (a' := ?_) (V 21 8191) rfl rfl (any_of HT_.out (by kernel_rfl)) (fun _ _ _ h => h) (Or.inl ⟨by rfl, ?_⟩) ?_ ?_; rotate_left
        · intro w'; go_simp; with_reducible rfl
        rotate_left
        · simp only [Act.put, List.setIfInBounds_toArray, List.set_cons_zero, List.set_cons_succ, i64_w, i32_w]; rfl
        refine pure_ (i := 13) (N := some 53) (v := ?_) (a' := ?_) (V 21 16383) rfl rfl (any_of HT_.out (by kernel_rfl)) (fun _ _ _ h => h) (Or.inl ⟨by rfl, ?_⟩) ?_ ?_; rotate_left
        · intro w'; go_simp; with_reducible rfl
        rotate_left
        · simp only [Act.put, List.setIfInBounds_toArray, List.set_cons_zero, List.set_cons_succ, i64_w, i32_w]; rfl
        refine pure_ (i := 14) (N := some 54) (v := ?_) (a' := ?_) (V 21 32767) rfl rfl (any_of HT_.out (by kernel_rfl)) (fun _ _ _ h => h) (Or.inl ⟨by rfl, ?_⟩) ?_ ?_; rotate_left
        · intro w'; go_simp; with_reducible rfl
        rotate_left
        · simp only [Act.put, List.setIfInBounds_toArray, List.set_cons_zero, List.set_cons_succ, i64_w, i32_w]; rfl
        refine pure_ (i := 15) (N := some 55) (v := ?_) (a' := ?_) (V 21 65535) rfl rfl (any_of HT_.out (by kernel_rfl)) (fun _ _ _ h => h) (Or.inl ⟨by rfl, ?_⟩) ?_ ?_; rotate_left
        · intro w'; go_simp; with_reducible rfl
        rotate_left
        · simp only [Act.put, List.setIfInBounds_toArray, List.set_cons_zero, List.set_cons_succ, i64_w, i32_w]; rfl
        refine pure_ (i := 16) (N := some 56) (v := undef) (a' := ?_) (V 21 131071) rfl rfl (any_of HT_.out (by kernel_rfl)) (fun _ _ _ h => h) (Or.inr ⟨by rfl, rfl⟩) ?_ ?_; rotate_left
        · simp only [Act.put, List.setIfInBounds_toArray, List.set_cons_zero, List.set_cons_succ, i64_w, i32_w]; rfl
        refine pure_ (i := 17) (N := some 57) (v := undef) (a' := ?_) (V 21 262143) rfl rfl (any_of HT_.out (by kernel_rfl)) (fun _ _ _ h => h) (Or.inr ⟨by rfl, rfl⟩) ?_ ?_; rotate_left
        · simp only [Act.put, List.setIfInBounds_toArray, List.set_cons_zero, List.set_cons_succ, i64_w, i32_w]; rfl
        refine pure_ (i := 18) (N := some 58) (v := ?_) (a' := ?_) (V 21 524287) rfl rfl (any_of HT_.out (by kernel_rfl)) (fun _ _ _ h => h) (Or.inl ⟨by rfl, ?_⟩) ?_ ?_; rotate_left
        · intro w'; go_simp; with_reducible rfl
        rotate_left
        · simp only [Act.put, List.setIfInBounds_toArray, List.set_cons_zero, List.set_cons_succ, i64_w, i32_w]; rfl
        refine pure_ (i := 19) (N := some 59) (v := ?_) (a' := ?_) (V 21 1048575) rfl rfl (any_of HT_.out (by kernel_rfl)) (fun _ _ _ h => h) (Or.inl ⟨by rfl, ?_⟩) ?_ ?_; rotate_left
        · intro w'; go_simp; with_reducible rfl
        rotate_left
        · simp only [Act.put, List.setIfInBounds_toArray, List.set_cons_zero, List.set_cons_succ, i64_w, i32_w]; rfl
        refine pure_ (i := 20) (N := some 4) (v := ?_) (a' := ?_) (V 21 2097151) rfl rfl (any_of HT_.out (by kernel_rfl)) (fun _ _ _ h => h) (Or.inl ⟨by rfl, ?_⟩) ?_ ?_; rotate_left
        · intro w'; go_simp; with_reducible rfl
        rotate_left
        · simp only [Act.put, List.setIfInBounds_toArray, List.set_cons_zero, List.set_cons_succ, i64_w, i32_w]; rfl
        refine done_ (done_of HT_.out (by kernel_rfl)) ?_
        go_wp2_with fail
        go_ret
        exact ⟨rfl, (MB.out _ BX.out).2.2.2.2⟩
      · skip
        refine pure_ (i := 9) (N := some 49) (v := ?_) (a' := ?_) (V 21 1023) rfl rfl (any_of HT_.out (by kernel_rfl)) (fun _ _ _ h => h) (Or.inl ⟨by rfl, ?_⟩) ?_ ?_; rotate_left
        · intro w'; go_simp; with_reducible rfl
        rotate_left
        · simp only [Act.put, List.setIfInBounds_toArray, List.set_cons_zero, List.set_cons_succ, i64_w, i32_w]; rfl
        refine pure_ (i := 10) (N := some 50) (v := ?_) (a' := ?_) (V 21 2047) rfl rfl (any_of HT_.out (by kernel_rfl)) (fun _ _ _ h => h) (Or.inl ⟨by rfl, ?_⟩) ?_ ?_; rotate_left
        · intro w'; go_simp; with_reducible rfl
        rotate_left
        · simp only [Act.put, List.setIfInBounds_toArray, List.set_cons_zero, List.set_cons_succ, i64_w, i32_w]; rfl
        refine pure_ (i := 11) (N := some 51) (v := ?_) (a' := ?_) (V 21 4095) rfl rfl (any_of HT_.out (by kernel_rfl)) (fun _ _ _ h => h) (Or.inl ⟨by rfl, ?_⟩) ?_ ?_; rotate_left
        · intro w'; go_simp; with_reducible rfl
        rotate_left
        · simp only [Act.put, List.setIfInBounds_toArray, List.set_cons_zero, List.set_cons_succ, i64_w, i32_w]; rfl
        refine pure_ (i := 12) (N := some 52) (v := ?_) (a' := ?_) (V 21 8191) rfl rfl (any_of HT_.out (by kernel_rfl)) (fun _ _ _ h => h) (Or.inl ⟨by rfl, ?_⟩) ?_ ?_; rotate_left
        · intro w'; go_simp; with_reducible rfl
        rotate_left
        · simp only [Act.put, List.setIfInBounds_toArray, List.set_cons_zero, List.set_cons_succ, i64_w, i32_w]; rfl
        refine pure_ (i := 13) (N := some 53) (v := ?_) (a' := ?_) (V 21 16383) rfl rfl (any_of HT_.out (by kernel_rfl)) (fun _ _ _ h => h) (Or.inl ⟨by rfl, ?_⟩) ?_ ?_; rotate_left
        · intro w'; go_simp; with_reducible rfl
        rotate_left
        · simp only [Act.put, List.setIfInBounds_toArray, List.set_cons_zero, List.set_cons_succ, i64_w, i32_w]; rfl
        refine pure_ (i := 14) (N := some 54) (v := ?_) (a' := ?_) (V 21 32767) rfl rfl (any_of HT_.out (by kernel_rfl)) (fun _ _ _ h => h) (Or.inl ⟨by rfl, ?_⟩) ?_ ?_; rotate_left
        · intro w'; go_simp; with_reducible rfl
        rotate_left
        · simp only [Act.put, List.setIfInBounds_toArray, List.set_cons_zero, List.set_cons_succ, i64_w, i32_w]; rfl
        refine pure_ (i := 15) (N := some 55) (v := ?_) (a' := ?_) (V 21 65535) rfl rfl (any_of HT_.out (by kernel_rfl)) (fun _ _ _ h => h) (Or.inl ⟨by rfl, ?_⟩) ?_ ?_; rotate_left
        · intro w'; go_simp; with_reducible rfl
        rotate_left
        · simp only [Act.put, List.setIfInBounds_toArray, List.set_cons_zero, List.set_cons_succ, i64_w, i32_w]; rfl
        refine pure_ (i := 16) (N := some 56) (v := ?_) (a' := ?_) (V 21 131071) rfl rfl (any_of HT_.out (by kernel_rfl)) (fun _ _ _ h => h) (Or.inl ⟨by rfl, ?_⟩) ?_ ?_; rotate_left
        · intro w'; go_simp; with_reducible rfl
        rotate_left
        · simp only [Act.put, List.setIfInBounds_toArray, List.set_cons_zero, List.set_cons_succ, i64_w, i32_w]; rfl
        refine pure_ (i := 17) (N := some 57) (v := ?_) (a' := ?_) (V 21 262143) rfl rfl (any_of HT_.out (by kernel_rfl)) (fun _ _ _ h => h) (Or.inl ⟨by rfl, ?_⟩) ?_ ?_; rotate_left
        · intro w'; go_simp; with_reducible rfl
        rotate_left
        · simp only [Act.put, List.setIfInBounds_toArray, List.set_cons_zero, List.set_cons_succ, i64_w, i32_w]; rfl
        refine pure_ (i := 18) (N := some 58) (v := ?_) (a' := ?_) (V 21 524287) rfl rfl (any_of HT_.out (by kernel_rfl)) (fun _ _ _ h => h) (Or.inl ⟨by rfl, ?_⟩) ?_ ?_; rotate_left
        · intro w'; go_simp; with_reducible rfl
        rotate_left
        · simp only [Act.put, List.setIfInBounds_toArray, List.set_cons_zero, List.set_cons_succ, i64_w, i32_w]; rfl
        refine pure_ (i := 19) (N := some 59) (v := ?_) (a' := ?_) (V 21 1048575) rfl rfl (any_of HT_.out (by kernel_rfl)) (fun _ _ _ h => h) (Or.inl ⟨by rfl, ?_⟩) ?_ ?_; rotate_left
        · intro w'; go_simp; with_reducible rfl
        rotate_left
        · simp only [Act.put, List.setIfInBounds_toArray, List.set_cons_zero, List.set_cons_succ, i64_w, i32_w]; rfl
        refine pure_ (i := 20) (N := some 4) (v := ?_) (a' := ?_) (V 21 2097151) rfl rfl (any_of HT_.out (by kernel_rfl)) (fun _ _ _ h => h) (Or.inl ⟨by rfl, ?_⟩) ?_ ?_; rotate_left
        · intro w'; go_simp; with_reducible rfl
        rotate_left
        · simp only [Act.put, List.setIfInBounds_toArray, List.set_cons_zero, List.set_cons_succ, i64_w, i32_w]; rfl
        refine done_ (done_of HT_.out (by kernel_rfl)) ?_
        go_wp2_with fail
        go_ret
        exact ⟨rfl, (MB.out _ BX.out).2.2.2.2⟩
    · have ev1 : (ev != 0) = true := bne_iff_ne.mpr ev0
      have ev2 : (ev == 0) = false := beq_eq_false_iff_ne.mpr ev0
      replace ev0 := Aside0.mk ev0
      refine pure_ (i := 9) (N := some 49) (v := ?_) (a' := ?_) (V 21 1023) rfl rfl (any_of HT_.out (by kernel_rfl)) (fun _ _ _ h => h) (Or.inl ⟨by rfl, ?_⟩) ?_ ?_; rotate_left
      · intro w'; go_simp; with_reducible rfl
      rotate_left
      · simp only [Act.put, List.setIfInBounds_toArray, List.set_cons_zero, List.set_cons_succ, i64_w, i32_w]; rfl
      refine pure_ (i := 10) (N := some 50) (v := ?_) (a' := ?_) (V 21 2047) rfl rfl (any_of HT_.out (by kernel_rfl)) (fun _ _ _ h => h) (Or.inl ⟨by rfl, ?_⟩) ?_ ?_; rotate_left
      · intro w'; go_simp; with_reducible rfl
      rotate_left
      · simp only [Act.put, List.setIfInBounds_toArray, List.set_cons_zero, List.set_cons_succ, i64_w, i32_w]; rfl
      refine pure_ (i := 11) (N := some 51) (v := ?_) (a' := ?_) (V 21 4095) rfl rfl (any_of HT_.out (by kernel_rfl)) (fun _ _ _ h => h) (Or.inl ⟨by rfl, ?_⟩) ?_ ?_; rotate_left
      · intro w'; go_simp; with_reducible rfl
      rotate_left
      · simp only [Act.put, List.setIfInBounds_toArray, List.set_cons_zero, List.set_cons_succ, i64_w, i32_w]; rfl
      refine pure_ (i := 12) (N := some 52) (v := undef) (a' := ?_) (V 21 8191) rfl rfl (any_of HT_.out (by kernel_rfl)) (fun _ _ _ h => h) (Or.inr ⟨by rfl, rfl⟩) ?_ ?_; rotate_left
      · simp only [Act.put, List.setIfInBounds_toArray, List.set_cons_zero, List.set_cons_succ, i64_w, i32_w]; rfl
      refine pure_ (i := 13) (N := some 53) (v := undef) (a' := ?_) (V 21 16383) rfl rfl (any_of HT_.out (by kernel_rfl)) (fun _ _ _ h => h) (Or.inr ⟨by rfl, rfl⟩) ?_ ?_; rotate_left
      · simp only [Act.put, List.setIfInBounds_toArray, List.set_cons_zero, List.set_cons_succ, i64_w, i32_w]; rfl
      refine pure_ (i := 14) (N := some 54) (v := ?_) (a' := ?_) (V 21 32767) rfl rfl (any_of HT_.out (by kernel_rfl)) (fun _ _ _ h => h) (Or.inl ⟨by rfl, ?_⟩) ?_ ?_; rotate_left
      · intro w'; go_simp; with_reducible rfl
      rotate_left
      · simp only [Act.put, List.setIfInBounds_toArray, List.set_cons_zero, List.set_cons_succ, i64_w, i32_w]; rfl
      refine pure_ (i := 15) (N := some 55) (v := ?_) (a' := ?_) (V 21 65535) rfl rfl (any_of HT_.out (by kernel_rfl)) (fun _ _ _ h => h) (Or.inl ⟨by rfl, ?_⟩) ?_ ?_; rotate_left
      · intro w'; go_simp; with_reducible rfl
      rotate_left
      · simp only [Act.put, List.setIfInBounds_toArray, List.set_cons_zero, List.set_cons_succ, i64_w, i32_w]; rfl
      refine pure_ (i := 16) (N := some 56) (v := undef) (a' := ?_) (V 21 131071) rfl rfl (any_of HT_.out (by kernel_rfl)) (fun _ _ _ h => h) (Or.inr ⟨by rfl, rfl⟩) ?_ ?_; rotate_left
      · simp only [Act.put, List.setIfInBounds_toArray, List.set_cons_zero, List.set_cons_succ, i64_w, i32_w]; rfl
      refine pure_ (i := 17) (N := some 57) (v := undef) (a' := ?_) (V 21 262143) rfl rfl (any_of HT_.out (by kernel_rfl)) (fun _ _ _ h => h) (Or.inr ⟨by rfl, rfl⟩) ?_ ?_; rotate_left
      · simp only [Act.put, List.setIfInBounds_toArray, List.set_cons_zero, List.set_cons_succ, i64_w, i32_w]; rfl
      refine pure_ (i := 18) (N := some 58) (v := ?_) (a' := ?_) (V 21 524287) rfl rfl (any_of HT_.out (by kernel_rfl)) (fun _ _ _ h => h) (Or.inl ⟨by rfl, ?_⟩) ?_ ?_; rotate_left
      · intro w'; go_simp; with_reducible rfl
      rotate_left
      · simp only [Act.put, List.setIfInBounds_toArray, List.set_cons_zero, List.set_cons_succ, i64_w, i32_w]; rfl
      refine pure_ (i := 19) (N := some 59) (v := ?_) (a' := ?_) (V 21 1048575) rfl rfl (any_of HT_.out (by kernel_rfl)) (fun _ _ _ h => h) (Or.inl ⟨by rfl, ?_⟩) ?_ ?_; rotate_left
      · intro w'; go_simp; with_reducible rfl
      rotate_left
      · simp only [Act.put, List.setIfInBounds_toArray, List.set_cons_zero, List.set_cons_succ, i64_w, i32_w]; rfl
      refine pure_ (i := 20) (N := some 4) (v := ?_) (a' := ?_) (V 21 2097151) rfl rfl (any_of HT_.out (by kernel_rfl)) (fun _ _ _ h => h) (Or.inl ⟨by rfl, ?_⟩) ?_ ?_; rotate_left
      · intro w'; go_simp; with_reducible rfl
      rotate_left
      · simp only [Act.put, List.setIfInBounds_toArray, List.set_cons_zero, List.set_cons_succ, i64_w, i32_w]; rfl
      refine done_ (done_of HT_.out (by kernel_rfl)) ?_
      go_wp2_with fail
      go_ret
      exact ⟨rfl, (MB.out _ BX.out).2.2.2.2⟩
  · skip
    go_wp2_with ((with_reducible refine gate_dst (N := 17) rfl ?_); refine wpList_load_row rfl 29 (.tmp 2) rfl p rfl 29 mc (0, 0) _ P2.out hu29.out rfl HI.out ?_)
    refine (made_x x 1 mc _ (k29.K_below B2.out HX.out.1) HX.out.2.2).mono ?_
    rintro e w3 ⟨z, zc, rfl, hz, hc, hB⟩
    have P3 := Aside0.mk (blk_below P2.out hB)
    have B3 := Aside0.mk (below_step B2.out hB)
    have HM := Aside0.mk hz
    have HC := Aside0.mk hc
    have KZ3 := Aside0.mk (hc w3 (fun _ _ _ => rfl))
    have HLT := Aside0.mk (blk_lt P2.out)
    clear hB hz hc P2 B2
    go_upto_region 5 with ((with_reducible refine gate_store (t := 29) (p := 2) rfl ?_); refine Fill.store_event rfl 29 _ _ rfl p zc rfl rfl 29 mc P3.out (info29k KZ3.out) (by rw [HZ.out, size29 KZ3.out]) (one29 KZ3.out) ?_; intro w4 ea eb ec; have HS := Aside0.mk (And.intro ea (And.intro eb ec)); clear ea eb ec)
    have KZ := Aside0.mk (HC.out w4 (fun k h1 h2 => HS.out.2.1.2 k h2 (by have := HLT.out; omega) (by simp)))
    have P4 := Aside0.mk HS.out.1
    have B4 := Aside0.mk (HS.out.2.2 _ _ B3.out (by rw [HP.out]; exact Nat.le_refl _))
    have HIZ := Aside0.mk (info29k KZ.out)
    clear HS P3 B3 KZ3 HC HLT
    go_wp2_with ((with_reducible refine gate_dst (N := 21) rfl ?_); refine wpList_load_row rfl 29 (.tmp 2) rfl p rfl 29 zc (0, 0) _ P4.out hu29.out rfl HIZ.out ?_)
    refine (split0_x z zc _ KZ.out (reach_of HM.out)).mono ?_
    rintro e w5 ⟨nc, rc, rfl, hA, hR, hB⟩
    have KA : Aside0 (k29.K w5 ({ z with f19 := [] } : S29) nc.toList) := ⟨hA⟩
    have KR : Aside0 (k35.K w5 (⟨⟨#[]⟩, ⟨#[]⟩, ⟨#[]⟩, [], z.f19⟩ : S35) rc.toList) := ⟨hR⟩
    have KZ5 := Aside0.mk (k29.K_below hB KZ.out)
    have P5 := Aside0.mk (blk_below P4.out hB)
    have B5 := Aside0.mk (below_step B4.out hB)
    have HIA := Aside0.mk (info29k hA)
    have HIR := Aside0.mk (info35k hR)
    clear hA hR hB KZ P4 B4
    go_upto_region 6 with (first | ((with_reducible refine gate_store (t := 29) (p := 5) rfl ?_); refine Fill.store_event rfl 29 _ _ rfl w5.heap.size nc rfl rfl 29 zeroM (blk_alloc (blk_new w5 _) _) HIA.out (by rw [size29 KA.out]; rfl) (one29 KA.out) ?_; intro w6 ea eb ec; have HE := Aside0.mk (And.intro ea (And.intro eb ec)); clear ea eb ec) | ((with_reducible refine gate_store (t := 35) (p := 6) rfl ?_); refine Fill.store_event rfl 35 _ _ rfl (w5.heap.size + 1) rc rfl rfl 35 zeroR (KeepBut.blk HE.out.2.1 (blk_new2 w5 _ _) (by omega) (by simp)) HIR.out (by rw [size35 KR.out]; rfl) (one35 KR.out) ?_; intro w7 ea eb ec; have HF := Aside0.mk (And.intro ea (And.intro eb ec)); clear ea eb ec))
    have hbel := HF.out.2.2 _ _ (HE.out.2.2 _ _ (below_alloc (below_alloc (Below.refl w5.heap.size w5) _) _) (Nat.le_refl _)) (by omega)
    obtain ⟨q, hq⟩ : ∃ q, q = w5.heap.size := ⟨_, rfl⟩
    have PA : Aside0 (w7.heap[q]? = some (.cells nc 29 (0, 0))) := ⟨by rw [hq]; exact KeepBut.blk HF.out.2.1 HE.out.1 (by omega) (by simp)⟩
    have PR : Aside0 (w7.heap[q + 1]? = some (.cells rc 35 (0, 0))) := ⟨by rw [hq]; exact HF.out.1⟩
    have PZ := Aside0.mk (blk_below P5.out hbel)
    have KA7 := Aside0.mk (k29.K_below hbel KA.out)
    have KR7 := Aside0.mk (k35.K_below hbel KR.out)
    have KZ7 := Aside0.mk (k29.K_below hbel KZ5.out)
    have BX := Aside0.mk (below_step B5.out hbel)
    rw [← hq]
    clear hq hbel HE HF KA KR KZ5 P5 B5
    have MB : Aside0 (∀ W, Below w7.heap.size w7 W → (W.heap[p]? = some (.cells zc 29 (0, 0)) ∧ W.heap[q]? = some (.cells nc 29 (0, 0)) ∧ W.heap[q + 1]? = some (.cells rc 35 (0, 0))) ∧ k29.K W z zc.toList ∧ k29.K W ({ z with f19 := [] } : S29) nc.toList ∧ k35.K W (⟨⟨#[]⟩, ⟨#[]⟩, ⟨#[]⟩, [], z.f19⟩ : S35) rc.toList ∧ Below w.heap.size w W) := ⟨fun W hW => ⟨⟨blk_below PZ.out hW, blk_below PA.out hW, blk_below PR.out hW⟩, k29.K_below hW KZ7.out, k29.K_below hW KA7.out, k35.K_below hW KR7.out, below_step BX.out hW⟩⟩
    have B0 := Aside0.mk (Below.refl w7.heap.size w7)
    clear PA PR PZ KA7 KR7 KZ7 BX
    go_wp2_with ((with_reducible refine gate_dst (N := 29) rfl ?_); refine wpList_load_row rfl 29 (.tmp 2) rfl p rfl 29 zc (0, 0) _ (MB.out _ B0.out).1.1 hu29.out rfl HIZ.out ?_)
    refine (side1_k z zc _ (MB.out _ B0.out).2.1 (bok_of HM.out)).mono ?_
    rintro e w8 ⟨AE, nE, cE, ev, rfl, -, hB⟩
    have B1 := Aside0.mk (below_step B0.out hB)
    clear hB B0
    go_wp2_with ((with_reducible refine gate_dst (N := 36) rfl ?_); refine wpList_load_row rfl 29 (.tmp 5) rfl q rfl 29 nc (0, 0) _ (MB.out _ B1.out).1.2.1 hu29.out rfl HIA.out ?_)
    refine (side0_k ({ z with f19 := [] } : S29) nc _ (MB.out _ B1.out).2.2.1 (xok_split HM.out).1).mono ?_
    rintro e w9 ⟨AF, nF, cF, fv, rfl, hf, hB⟩
    have HFV : Aside0 (fv = 0 ∨ fv = 4) := ⟨hf (xok_split HM.out).2⟩
    have B2 := Aside0.mk (below_step B1.out hB)
    clear hB hf B1
    go_upto_region 8 with fail
    have BX := Aside0.mk (below_drew1 B2.out)
    refine start_ (n := 21) (ds := []) (S := fun w' => w'.heap[p]? = some (.cells zc 29 (0, 0)) ∧ w'.heap[q]? = some (.cells nc 29 (0, 0)) ∧ w'.heap[q + 1]? = some (.cells rc 35 (0, 0))) (V 21 0) (by rfl) (by rfl) (by kernel_rfl) ((MB.out _ BX.out).1) (fun hHeld => ?_); refine with_tabW tab3_8 bits3_8 (fun HT_ HW_ => ?_)
    generalize World.drew _ = wd at BX hHeld ⊢
    refine one_ (i := 0) (N := some 40) (V 21 1) rfl rfl (one_of HT_.out (by kernel_rfl)) (by decide) (fun K hK => ?_)
    refine goes_ Tryz.func5 (by kernel_rfl) rfl #[] (by rfl) rfl rfl (by (try simp only [List.map_toArray, List.map_cons, List.map_nil]); first | done | rfl) ?_
    with_reducible refine (awake_x _).mono ?_
    rintro e w100 ⟨rfl, hb⟩
    refine ⟨_, rfl, ?_⟩
    replace BX := Aside0.mk (below_step BX.out hb); clear hb
    refine hK.out _ _ ((MB.out _ BX.out).1) (fun hHeld => ?_)
    clear hK K
    refine norm_ (a' := ?_) ?_ ?_; rotate_left
    · show Act.put _ (some 40) _ = _; simp only [Act.put, List.setIfInBounds_toArray, List.set_cons_zero, List.set_cons_succ, i64_w, i32_w]; rfl
    refine pure_ (i := 1) (N := some 41) (v := ?_) (a' := ?_) (V 21 3) rfl rfl (any_of HT_.out (by kernel_rfl)) (fun _ _ _ h => h) (Or.inl ⟨by rfl, ?_⟩) ?_ ?_; rotate_left
    · intro w'; go_simp; with_reducible rfl
    rotate_left
    · simp only [Act.put, List.setIfInBounds_toArray, List.set_cons_zero, List.set_cons_succ, i64_w, i32_w]; rfl
    refine take_ (i := 2) (N := some 42) (v := .agg nc) (a' := ?_) (V 21 7) rfl rfl (take_ofW HT_.out HW_.out (by kernel_rfl)) (fun _ _ _ h => h) (Or.inl ⟨by rfl, fun w' hs => Fill.row_yields 29 _ rfl q rfl 29 _ (0, 0) _ hs.2.1 hu29.out rfl HIA.out⟩) hHeld ?_ ?_; rotate_left
    · simp only [Act.put, List.setIfInBounds_toArray, List.set_cons_zero, List.set_cons_succ, i64_w, i32_w]; rfl
    refine take_ (i := 3) (N := some 43) (v := .agg rc) (a' := ?_) (V 21 15) rfl rfl (take_ofW HT_.out HW_.out (by kernel_rfl)) (fun _ _ _ h => h) (Or.inl ⟨by rfl, fun w' hs => Fill.row_yields 35 _ rfl (q + 1) rfl 35 _ (0, 0) _ hs.2.2 hu35.out rfl HIR.out⟩) hHeld ?_ ?_; rotate_left
    · simp only [Act.put, List.setIfInBounds_toArray, List.set_cons_zero, List.set_cons_succ, i64_w, i32_w]; rfl
    refine take_ (i := 5) (N := some 45) (v := .agg zc) (a' := ?_) (V 21 47) rfl rfl (take_ofW HT_.out HW_.out (by kernel_rfl)) (fun _ _ _ h => h) (Or.inl ⟨by rfl, fun w' hs => Fill.row_yields 29 _ rfl p rfl 29 _ (0, 0) _ hs.1 hu29.out rfl HIZ.out⟩) hHeld ?_ ?_; rotate_left
    · simp only [Act.put, List.setIfInBounds_toArray, List.set_cons_zero, List.set_cons_succ, i64_w, i32_w]; rfl
    refine one_ (i := 4) (N := some 44) (V 21 63) rfl rfl (one_of HT_.out (by kernel_rfl)) (by decide) (fun K hK => ?_)
    refine goes_ Tryz.func11 (by kernel_rfl) rfl #[.agg nc, .agg rc] (by rfl) rfl rfl (by (try simp only [List.map_toArray, List.map_cons, List.map_nil]); first | done | rfl) ?_
    with_reducible refine (join_x ({ z with f19 := [] } : S29) (⟨⟨#[]⟩, ⟨#[]⟩, ⟨#[]⟩, [], z.f19⟩ : S35) nc rc _ (MB.out _ BX.out).2.2.1 (MB.out _ BX.out).2.2.2.1 (reach_cut HM.out) ⟨Nat.zero_le _, (reach_of HM.out).h19, (reach_of HM.out).d19⟩).mono ?_
    rintro e w104 ⟨jc, rfl, hj, hb⟩
    refine ⟨_, rfl, ?_⟩
    have KJ : Aside0 (k29.K w104 z jc.toList) := ⟨by have h := hj; rw [back1] at h; exact h⟩; clear hj
    replace BX := Aside0.mk (below_step BX.out hb); clear hb
    refine hK.out _ _ ((MB.out _ BX.out).1) (fun hHeld => ?_)
    clear hK K
    refine norm_ (a' := ?_) ?_ ?_; rotate_left
    · show Act.put _ (some 44) _ = _; simp only [Act.put, List.setIfInBounds_toArray, List.set_cons_zero, List.set_cons_succ, i64_w, i32_w]; rfl
    refine one_ (i := 6) (N := some 46) (V 21 127) rfl rfl (one_of HT_.out (by kernel_rfl)) (by decide) (fun K hK => ?_)
    refine goes_ Tryz.func10 (by kernel_rfl) rfl #[.agg jc, .agg zc] (by rfl) rfl rfl (by (try simp only [List.map_toArray, List.map_cons, List.map_nil]); first | done | rfl) ?_
    with_reducible refine (same_x z jc zc _ KJ.out (MB.out _ BX.out).2.1).mono ?_
    rintro e w106 ⟨rfl, hb⟩
    refine ⟨_, rfl, ?_⟩
    replace BX := Aside0.mk (below_step BX.out hb); clear hb
    refine hK.out _ _ ((MB.out _ BX.out).1) (fun hHeld => ?_)
    clear hK K
    refine norm_ (a' := ?_) ?_ ?_; rotate_left
    · show Act.put _ (some 46) _ = _; simp only [Act.put, List.setIfInBounds_toArray, List.set_cons_zero, List.set_cons_succ, i64_w, i32_w]; rfl
    refine pure_ (i := 7) (N := some 47) (v := ?_) (a' := ?_) (V 21 255) rfl rfl (any_of HT_.out (by kernel_rfl)) (fun _ _ _ h => h) (Or.inl ⟨by rfl, ?_⟩) ?_ ?_; rotate_left
    · intro w'; go_simp; with_reducible rfl
    rotate_left
    · simp only [Act.put, List.setIfInBounds_toArray, List.set_cons_zero, List.set_cons_succ, i64_w, i32_w]; rfl
    refine pure_ (i := 8) (N := some 48) (v := ?_) (a' := ?_) (V 21 511) rfl rfl (any_of HT_.out (by kernel_rfl)) (fun _ _ _ h => h) (Or.inl ⟨by rfl, ?_⟩) ?_ ?_; rotate_left
    · intro w'; go_simp; with_reducible rfl
    rotate_left
    · simp only [Act.put, List.setIfInBounds_toArray, List.set_cons_zero, List.set_cons_succ, i64_w, i32_w]; rfl
    by_cases ev0 : ev = 0
    · subst ev0
      rcases HFV.out with rfl | rfl
      · skip
        refine pure_ (i := 9) (N := some 49) (v := ?_) (a' := ?_) (V 21 1023) rfl rfl (any_of HT_.out (by kernel_rfl)) (fun _ _ _ h => h) (Or.inl ⟨by rfl, ?_⟩) ?_ ?_; rotate_left
        · intro w'; go_simp; with_reducible rfl
        rotate_left
        · simp only [Act.put, List.setIfInBounds_toArray, List.set_cons_zero, List.set_cons_succ, i64_w, i32_w]; rfl
        refine pure_ (i := 10) (N := some 50) (v := ?_) (a' := ?_) (V 21 2047) rfl rfl (any_of HT_.out (by kernel_rfl)) (fun _ _ _ h => h) (Or.inl ⟨by rfl, ?_⟩) ?_ ?_; rotate_left
        · intro w'; go_simp; with_reducible rfl
        rotate_left
        · simp only [Act.put, List.setIfInBounds_toArray, List.set_cons_zero, List.set_cons_succ, i64_w, i32_w]; rfl
        refine pure_ (i := 11) (N := some 51) (v := ?_) (a' := ?_) (V 21 4095) rfl rfl (any_of HT_.out (by kernel_rfl)) (fun _ _ _ h => h) (Or.inl ⟨by rfl, ?_⟩) ?_ ?_; rotate_left
        · intro w'; go_simp; with_reducible rfl
        rotate_left
        · simp only [Act.put, List.setIfInBounds_toArray, List.set_cons_zero, List.set_cons_succ, i64_w, i32_w]; rfl
        refine pure_ (i := 12) (N := some 52) (v := ?_) (a' := ?_) (V 21 8191) rfl rfl (any_of HT_.out (by kernel_rfl)) (fun _ _ _ h => h) (Or.inl ⟨by rfl, ?_⟩) ?_ ?_; rotate_left
        · intro w'; go_simp; with_reducible rfl
        rotate_left
        · simp only [Act.put, List.setIfInBounds_toArray, List.set_cons_zero, List.set_cons_succ, i64_w, i32_w]; rfl
        refine pure_ (i := 13) (N := some 53) (v := ?_) (a' := ?_) (V 21 16383) rfl rfl (any_of HT_.out (by kernel_rfl)) (fun _ _ _ h => h) (Or.inl ⟨by rfl, ?_⟩) ?_ ?_; rotate_left
        · intro w'; go_simp; with_reducible rfl
        rotate_left
        · simp only [Act.put, List.setIfInBounds_toArray, List.set_cons_zero, List.set_cons_succ, i64_w, i32_w]; rfl
        refine pure_ (i := 14) (N := some 54) (v := ?_) (a' := ?_) (V 21 32767) rfl rfl (any_of HT_.out (by kernel_rfl)) (fun _ _ _ h => h) (Or.inl ⟨by rfl, ?_⟩) ?_ ?_; rotate_left
        · intro w'; go_simp; with_reducible rfl
        rotate_left
        · simp only [Act.put, List.setIfInBounds_toArray, List.set_cons_zero, List.set_cons_succ, i64_w, i32_w]; rfl
        refine pure_ (i := 15) (N := some 55) (v := ?_) (a' := ?_) (V 21 65535) rfl rfl (any_of HT_.out (by kernel_rfl)) (fun _ _ _ h => h) (Or.inl ⟨by rfl, ?_⟩) ?_ ?_; rotate_left
        · intro w'; go_simp; with_reducible rfl
        rotate_left
        · simp only [Act.put, List.setIfInBounds_toArray, List.set_cons_zero, List.set_cons_succ, i64_w, i32_w]; rfl
        refine pure_ (i := 16) (N := some 56) (v := undef) (a' := ?_) (V 21 131071) rfl rfl (any_of HT_.out (by kernel_rfl)) (fun _ _ _ h => h) (Or.inr ⟨by rfl, rfl⟩) ?_ ?_; rotate_left
        · simp only [Act.put, List.setIfInBounds_toArray, List.set_cons_zero, List.set_cons_succ, i64_w, i32_w]; rfl
        refine pure_ (i := 17) (N := some 57) (v := undef) (a' := ?_) (V 21 262143) rfl rfl (any_of HT_.out (by kernel_rfl)) (fun _ _ _ h => h) (Or.inr ⟨by rfl, rfl⟩) ?_ ?_; rotate_left
        · simp only [Act.put, List.setIfInBounds_toArray, List.set_cons_zero, List.set_cons_succ, i64_w, i32_w]; rfl
        refine pure_ (i := 18) (N := some 58) (v := ?_) (a' := ?_) (V 21 524287) rfl rfl (any_of HT_.out (by kernel_rfl)) (fun _ _ _ h => h) (Or.inl ⟨by rfl, ?_⟩) ?_ ?_; rotate_left
        · intro w'; go_simp; with_reducible rfl
        rotate_left
        · simp only [Act.put, List.setIfInBounds_toArray, List.set_cons_zero, List.set_cons_succ, i64_w, i32_w]; rfl
        refine pure_ (i := 19) (N := some 59) (v := ?_) (a' := ?_) (V 21 1048575) rfl rfl (any_of HT_.out (by kernel_rfl)) (fun _ _ _ h => h) (Or.inl ⟨by rfl, ?_⟩) ?_ ?_; rotate_left
        · intro w'; go_simp; with_reducible rfl
        rotate_left
        · simp only [Act.put, List.setIfInBounds_toArray, List.set_cons_zero, List.set_cons_succ, i64_w, i32_w]; rfl
        refine pure_ (i := 20) (N := some 4) (v := ?_) (a' := ?_) (V 21 2097151) rfl rfl (any_of HT_.out (by kernel_rfl)) (fun _ _ _ h => h) (Or.inl ⟨by rfl, ?_⟩) ?_ ?_; rotate_left
        · intro w'; go_simp; with_reducible rfl
        rotate_left
        · simp only [Act.put, List.setIfInBounds_toArray, List.set_cons_zero, List.set_cons_succ, i64_w, i32_w]; rfl
        refine done_ (done_of HT_.out (by kernel_rfl)) ?_
        go_wp2_with fail
        go_ret
        exact ⟨rfl, (MB.out _ BX.out).2.2.2.2⟩
      · skip
        refine pure_ (i := 9) (N := some 49) (v := ?_) (a' := ?_) (V 21 1023) rfl rfl (any_of HT_.out (by kernel_rfl)) (fun _ _ _ h => h) (Or.inl ⟨by rfl, ?_⟩) ?_ ?_; rotate_left
        · intro w'; go_simp; with_reducible rfl
        rotate_left
        · simp only [Act.put, List.setIfInBounds_toArray, List.set_cons_zero, List.set_cons_succ, i64_w, i32_w]; rfl
        refine pure_ (i := 10) (N := some 50) (v := ?_) (a' := ?_) (V 21 2047) rfl rfl (any_of HT_.out (by kernel_rfl)) (fun _ _ _ h => h) (Or.inl ⟨by rfl, ?_⟩) ?_ ?_; rotate_left
        · intro w'; go_simp; with_reducible rfl
        rotate_left
        · simp only [Act.put, List.setIfInBounds_toArray, List.set_cons_zero, List.set_cons_succ, i64_w, i32_w]; rfl
        refine pure_ (i := 11) (N := some 51) (v := ?_) (a' := ?_) (V 21 4095) rfl rfl (any_of HT_.out (by kernel_rfl)) (fun _ _ _ h => h) (Or.inl ⟨by rfl, ?_⟩) ?_ ?_; rotate_left
        · intro w'; go_simp; with_reducible rfl
        rotate_left
        · simp only [Act.put, List.setIfInBounds_toArray, List.set_cons_zero, List.set_cons_succ, i64_w, i32_w]; rfl
        refine pure_ (i := 12) (N := some 52) (v := ?_) (a' := ?_) (V 21 8191) rfl rfl (any_of HT_.out (by kernel_rfl)) (fun _ _ _ h => h) (Or.inl ⟨by rfl, ?_⟩) ?_ ?_; rotate_left
        · intro w'; go_simp; with_reducible rfl
        rotate_left
        · simp only [Act.put, List.setIfInBounds_toArray, List.set_cons_zero, List.set_cons_succ, i64_w, i32_w]; rfl
        refine pure_ (i := 13) (N := some 53) (v := ?_) (a' := ?_) (V 21 16383) rfl rfl (any_of HT_.out (by kernel_rfl)) (fun _ _ _ h => h) (Or.inl ⟨by rfl, ?_⟩) ?_ ?_; rotate_left
        · intro w'; go_simp; with_reducible rfl
        rotate_left
        · simp only [Act.put, List.setIfInBounds_toArray, List.set_cons_zero, List.set_cons_succ, i64_w, i32_w]; rfl
        refine pure_ (i := 14) (N := some 54) (v := ?_) (a' := ?_) (V 21 32767) rfl rfl (any_of HT_.out (by kernel_rfl)) (fun _ _ _ h => h) (Or.inl ⟨by rfl, ?_⟩) ?_ ?_; rotate_left
        · intro w'; go_simp; with_reducible rfl
        rotate_left
        · simp only [Act.put, List.setIfInBounds_toArray, List.set_cons_zero, List.set_cons_succ, i64_w, i32_w]; rfl
        refine pure_ (i := 15) (N := some 55) (v := ?_) (a' := ?_) (V 21 65535) rfl rfl (any_of HT_.out (by kernel_rfl)) (fun _ _ _ h => h) (Or.inl ⟨by rfl, ?_⟩) ?_ ?_; rotate_left
        · intro w'; go_simp; with_reducible rfl
        rotate_left
        · simp only [Act.put, List.setIfInBounds_toArray, List.set_cons_zero, List.set_cons_succ, i64_w, i32_w]; rfl
        refine pure_ (i := 16) (N := some 56) (v := ?_) (a' := ?_) (V 21 131071) rfl rfl (any_of HT_.out (by kernel_rfl)) (fun _ _ _ h => h) (Or.inl ⟨by rfl, ?_⟩) ?_ ?_; rotate_left
        · intro w'; go_simp; with_reducible rfl
        rotate_left
        · simp only [Act.put, List.setIfInBounds_toArray, List.set_cons_zero, List.set_cons_succ, i64_w, i32_w]; rfl
        refine pure_ (i := 17) (N := some 57) (v := ?_) (a' := ?_) (V 21 262143) rfl rfl (any_of HT_.out (by kernel_rfl)) (fun _ _ _ h => h) (Or.inl ⟨by rfl, ?_⟩) ?_ ?_; rotate_left
        · intro w'; go_simp; with_reducible rfl
        rotate_left
        · simp only [Act.put, List.setIfInBounds_toArray, List.set_cons_zero, List.set_cons_succ, i64_w, i32_w]; rfl
        refine pure_ (i := 18) (N := some 58) (v := ?_) (a' := ?_) (V 21 524287) rfl rfl (any_of HT_.out (by kernel_rfl)) (fun _ _ _ h => h) (Or.inl ⟨by rfl, ?_⟩) ?_ ?_; rotate_left
        · intro w'; go_simp; with_reducible rfl
        rotate_left
        · simp only [Act.put, List.setIfInBounds_toArray, List.set_cons_zero, List.set_cons_succ, i64_w, i32_w]; rfl
        refine pure_ (i := 19) (N := some 59) (v := ?_) (a' := ?_) (V 21 1048575) rfl rfl (any_of HT_.out (by kernel_rfl)) (fun _ _ _ h => h) (Or.inl ⟨by rfl, ?_⟩) ?_ ?_; rotate_left
        · intro w'; go_simp; with_reducible rfl
        rotate_left
        · simp only [Act.put, List.setIfInBounds_toArray, List.set_cons_zero, List.set_cons_succ, i64_w, i32_w]; rfl
        refine pure_ (i := 20) (N := some 4) (v := ?_) (a' := ?_) (V 21 2097151) rfl rfl (any_of HT_.out (by kernel_rfl)) (fun _ _ _ h => h) (Or.inl ⟨by rfl, ?_⟩) ?_ ?_; rotate_left
        · intro w'; go_simp; with_reducible rfl
        rotate_left
        · simp only [Act.put, List.setIfInBounds_toArray, List.set_cons_zero, List.set_cons_succ, i64_w, i32_w]; rfl
        refine done_ (done_of HT_.out (by kernel_rfl)) ?_
        go_wp2_with fail
        go_ret
        exact ⟨rfl, (MB.out _ BX.out).2.2.2.2⟩
    · have ev1 : (ev != 0) = true := bne_iff_ne.mpr ev0
      have ev2 : (ev == 0) = false := beq_eq_false_iff_ne.mpr ev0
      replace ev0 := Aside0.mk ev0
      refine pure_ (i := 9) (N := some 49) (v := ?_) (a' := ?_) (V 21 1023) rfl rfl (any_of HT_.out (by kernel_rfl)) (fun _ _ _ h => h) (Or.inl ⟨by rfl, ?_⟩) ?_ ?_; rotate_left
      · intro w'; go_simp; with_reducible rfl
      rotate_left
      · simp only [Act.put, List.setIfInBounds_toArray, List.set_cons_zero, List.set_cons_succ, i64_w, i32_w]; rfl
      refine pure_ (i := 10) (N := some 50) (v := ?_) (a' := ?_) (V 21 2047) rfl rfl (any_of HT_.out (by kernel_rfl)) (fun _ _ _ h => h) (Or.inl ⟨by rfl, ?_⟩) ?_ ?_; rotate_left
      · intro w'; go_simp; with_reducible rfl
      rotate_left
      · simp only [Act.put, List.setIfInBounds_toArray, List.set_cons_zero, List.set_cons_succ, i64_w, i32_w]; rfl
      refine pure_ (i := 11) (N := some 51) (v := ?_) (a' := ?_) (V 21 4095) rfl rfl (any_of HT_.out (by kernel_rfl)) (fun _ _ _ h => h) (Or.inl ⟨by rfl, ?_⟩) ?_ ?_; rotate_left
      · intro w'; go_simp; with_reducible rfl
      rotate_left
      · simp only [Act.put, List.setIfInBounds_toArray, List.set_cons_zero, List.set_cons_succ, i64_w, i32_w]; rfl
      refine pure_ (i := 12) (N := some 52) (v := undef) (a' := ?_) (V 21 8191) rfl rfl (any_of HT_.out (by kernel_rfl)) (fun _ _ _ h => h) (Or.inr ⟨by rfl, rfl⟩) ?_ ?_; rotate_left
      · simp only [Act.put, List.setIfInBounds_toArray, List.set_cons_zero, List.set_cons_succ, i64_w, i32_w]; rfl
      refine pure_ (i := 13) (N := some 53) (v := undef) (a' := ?_) (V 21 16383) rfl rfl (any_of HT_.out (by kernel_rfl)) (fun _ _ _ h => h) (Or.inr ⟨by rfl, rfl⟩) ?_ ?_; rotate_left
      · simp only [Act.put, List.setIfInBounds_toArray, List.set_cons_zero, List.set_cons_succ, i64_w, i32_w]; rfl
      refine pure_ (i := 14) (N := some 54) (v := ?_) (a' := ?_) (V 21 32767) rfl rfl (any_of HT_.out (by kernel_rfl)) (fun _ _ _ h => h) (Or.inl ⟨by rfl, ?_⟩) ?_ ?_; rotate_left
      · intro w'; go_simp; with_reducible rfl
      rotate_left
      · simp only [Act.put, List.setIfInBounds_toArray, List.set_cons_zero, List.set_cons_succ, i64_w, i32_w]; rfl
      refine pure_ (i := 15) (N := some 55) (v := ?_) (a' := ?_) (V 21 65535) rfl rfl (any_of HT_.out (by kernel_rfl)) (fun _ _ _ h => h) (Or.inl ⟨by rfl, ?_⟩) ?_ ?_; rotate_left
      · intro w'; go_simp; with_reducible rfl
      rotate_left
      · simp only [Act.put, List.setIfInBounds_toArray, List.set_cons_zero, List.set_cons_succ, i64_w, i32_w]; rfl
      refine pure_ (i := 16) (N := some 56) (v := undef) (a' := ?_) (V 21 131071) rfl rfl (any_of HT_.out (by kernel_rfl)) (fun _ _ _ h => h) (Or.inr ⟨by rfl, rfl⟩) ?_ ?_; rotate_left
      · simp only [Act.put, List.setIfInBounds_toArray, List.set_cons_zero, List.set_cons_succ, i64_w, i32_w]; rfl
      refine pure_ (i := 17) (N := some 57) (v := undef) (a' := ?_) (V 21 262143) rfl rfl (any_of HT_.out (by kernel_rfl)) (fun _ _ _ h => h) (Or.inr ⟨by rfl, rfl⟩) ?_ ?_; rotate_left
      · simp only [Act.put, List.setIfInBounds_toArray, List.set_cons_zero, List.set_cons_succ, i64_w, i32_w]; rfl
      refine pure_ (i := 18) (N := some 58) (v := ?_) (a' := ?_) (V 21 524287) rfl rfl (any_of HT_.out (by kernel_rfl)) (fun _ _ _ h => h) (Or.inl ⟨by rfl, ?_⟩) ?_ ?_; rotate_left
      · intro w'; go_simp; with_reducible rfl
      rotate_left
      · simp only [Act.put, List.setIfInBounds_toArray, List.set_cons_zero, List.set_cons_succ, i64_w, i32_w]; rfl
      refine pure_ (i := 19) (N := some 59) (v := ?_) (a' := ?_) (V 21 1048575) rfl rfl (any_of HT_.out (by kernel_rfl)) (fun _ _ _ h => h) (Or.inl ⟨by rfl, ?_⟩) ?_ ?_; rotate_left
      · intro w'; go_simp; with_reducible rfl
      rotate_left
      · simp only [Act.put, List.setIfInBounds_toArray, List.set_cons_zero, List.set_cons_succ, i64_w, i32_w]; rfl
      refine pure_ (i := 20) (N := some 4) (v := ?_) (a' := ?_) (V 21 2097151) rfl rfl (any_of HT_.out (by kernel_rfl)) (fun _ _ _ h => h) (Or.inl ⟨by rfl, ?_⟩) ?_ ?_; rotate_left
      · intro w'; go_simp; with_reducible rfl
      rotate_left
      · simp only [Act.put, List.setIfInBounds_toArray, List.set_cons_zero, List.set_cons_succ, i64_w, i32_w]; rfl
      refine done_ (done_of HT_.out (by kernel_rfl)) ?_
      go_wp2_with fail
      go_ret
      exact ⟨rfl, (MB.out _ BX.out).2.2.2.2⟩
end Go.Proofs.YthapknnppabdaaaGreat.MQ
