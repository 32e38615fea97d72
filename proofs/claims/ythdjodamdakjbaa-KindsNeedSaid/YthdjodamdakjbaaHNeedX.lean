/- KindsNeed walked. -/
import Derived.Test.YthdjodamdakjbaaHNeedS
namespace Go.Proofs.Ythdjodamdakjbaa.MK
open Go.RowKit Go.Proofs.YthdjodamdakjbaaW.PrintWords Go.Proofs.YthdjodamdakjbaaW.PrintLast Go.Proofs.YthdjodamdakjbaaW.PrintMore
set_option linter.unusedVariables false
set_option linter.unusedSimpArgs false
def T3_3 : Bool × List (List Nat × List Nat) := (true, [([], []), ([], []), ([1], [1]), ([0, 2, 2], [0, 2]), ([3, 3, 0, 1, 2, 3], [3])])
def B3_3 : List Nat := [0, 0, 2, 7, 15]
theorem tab3_3 : rtab .any (opsOf Try.f3 3) = T3_3 := by kernel_rfl
theorem bits3_3 : waitsOk T3_3.2 B3_3 = true := by kernel_rfl
def T3_6 : Bool × List (List Nat × List Nat) := (true, [([], []), ([], []), ([1], [1]), ([0, 2], [0, 2]), ([3], [3]), ([], []), ([5, 4, 0, 0, 1, 2, 3, 4, 5], [4, 5])])
def B3_6 : List Nat := [0, 0, 2, 7, 15, 0, 63]
theorem tab3_6 : rtab .any (opsOf Try.f3 6) = T3_6 := by kernel_rfl
theorem bits3_6 : waitsOk T3_6.2 B3_6 = true := by kernel_rfl

/-- The message in its block p. -/
structure NB (w : World) (p : Nat) (z : S29) (mc : Array Value) (W : World) : Prop where
  m : W.heap[p]? = some (.cells mc 29 (0, 0))
  k : KS (fun k => k ≠ p) W z mc
  bel : Below w.heap.size w W
  lo : w.heap.size ≤ p
theorem NB.below {w : World} {p : Nat} {z : S29} {mc : Array Value} {W W' : World} (h : NB w p z mc W) (hb : Below W.heap.size W W') : NB w p z mc W' :=
  ⟨blk_below h.m hb, h.k.below hb, below_step h.bel hb, h.lo⟩
theorem NB.lt {w : World} {p : Nat} {z : S29} {mc : Array Value} {W : World} (h : NB w p z mc W) : p < W.heap.size := (Array.getElem?_eq_some_iff.1 h.m).1
theorem NB.store {w : World} {p : Nat} {z z' : S29} {mc nc : Array Value} {W W1 W2 : World} (h : NB w p z mc W) (hb : Below W.heap.size W W1) (hk : KS (fun k => W.heap.size ≤ k ∨ k ≠ p) W1 z' nc) (h1 : W2.heap[p]? = some (.cells nc 29 (0, 0))) (h2 : KeepBut W1 W2 p none) (h3 : ∀ B w0, Below B w0 W1 → B ≤ p → Below B w0 W2) : NB w p z' nc W2 :=
  ⟨h1, hk.step h2.1 (fun k hk1 ho => by
    rcases ho with ho | ho
    · have := h.lt; omega
    · exact ho) (fun k hk1 ho => h2.2 k hk1 (by
    rcases ho with ho | ho
    · have := h.lt; omega
    · exact ho) (by simp)), h3 _ _ (below_step h.bel hb) h.lo, h.lo⟩
theorem byte_pre (s : ByteArray) (c : Int) (b : Bool) (kk : Nat) (hk : s.size ≤ kk) (h1 : b = true → hasB s c = true) (h2 : b = false → ∀ j : Nat, j < kk → bt s (j : Int) ≠ c) : b = hasB s c := by
  cases b with
  | true => exact (h1 rfl).symm
  | false => exact (hasB_no s c (fun j hj => h2 rfl j (by omega))).symm
set_option maxHeartbeats 16000000 in
set_option maxRecDepth 100000 in
theorem need_walk (x : S29) (side what : Int) (mc : Array Value) (w : World) (h : k29.K w x mc.toList) (hr : Small29 x) (hi : MsgIn x) :
    Calls Try.prog 3 #[.agg mc, .int .i64 side, .int .i64 what] w fun e w' => e = .returned (.bool true) ∧ Below w.heap.size w w' := by
  have hu29 := Aside0.mk Try.underlying29
  have hu37 := Try.underlying37
  have HI := Aside0.mk (info29 h)
  have HSZ := Aside0.mk (size29 h)
  have HR := Aside0.mk (And.intro hr hi)
  have HK := Aside0.mk h
  clear h hr hi
  go_enter Try.func3, Try.ntmps3
  go_upto_region 1 with fail
  obtain ⟨p, hp⟩ : ∃ p, p = w.heap.size := ⟨_, rfl⟩
  have J0 : w.heap.size ≤ w.heap.size ∧ (w.alloc (.cells mc 29)).heap[w.heap.size]? = some (.cells mc 29 (0, 0)) ∧ k29.K (w.alloc (.cells mc 29)) x mc.toList ∧ Below w.heap.size w (w.alloc (.cells mc 29)) := ⟨Nat.le_refl _, blk_new w _, k29.K_below (below_alloc (Below.refl _ w) _) HK.out, below_alloc (Below.refl _ w) _⟩
  have J0 : w.heap.size ≤ p ∧ (w.alloc (.cells mc 29)).heap[p]? = some (.cells mc 29 (0, 0)) ∧ k29.K (w.alloc (.cells mc 29)) x mc.toList ∧ Below w.heap.size w (w.alloc (.cells mc 29)) := by rw [hp]; exact J0
  rw [← hp]; clear hp; revert J0
  generalize (w.alloc (.cells mc 29)) = W1; intro J0
  replace J0 := Aside0.mk J0
  clear HK
  have HS := Aside0.mk (small_x x mc W1 J0.out.2.2.1 HR.out.1)
  go_wp2_with (first | ((with_reducible refine gate_dst (N := 15) rfl ?_); refine wpList_load_row rfl 29 (.tmp 3) rfl p rfl 29 mc (0, 0) _ J0.out.2.1 hu29.out rfl HI.out ?_))
  refine HS.out.mono ?_
  rintro e w2 ⟨b, rfl, hb⟩
  have J1 := Aside0.mk (And.intro J0.out.1 (And.intro (blk_below J0.out.2.1 hb) (And.intro (k29.K_below hb J0.out.2.2.1) (below_step J0.out.2.2.2 hb))))
  clear hb HS J0
  cases b with
  | false =>
    go_wp2_with fail
    refine (awake_x _).mono ?_
    rintro e w3 ⟨rfl, hb⟩
    go_wp2_with fail
    go_ret
    exact ⟨rfl, below_step J1.out.2.2.2 hb⟩
  | true =>
    go_upto_region 3 with fail
    have J2 := Aside0.mk (And.intro J1.out.1 (And.intro (blk_drew J1.out.2.1) (And.intro (k29.K_below (below_drew1 (Below.refl _ _)) J1.out.2.2.1) (below_step J1.out.2.2.2 (below_drew1 (Below.refl _ _))))))
    clear J1
    refine start_ (n := 5) (ds := []) (S := fun w' => True) (V 5 0) (by rfl) (by rfl) (by kernel_rfl) (trivial) (fun hHeld => ?_); refine with_tabW tab3_3 bits3_3 (fun HT_ HW_ => ?_)
    generalize w2.drew = wd at J2 hHeld ⊢
    refine pure_ (i := 1) (N := some 20) (v := ?_) (a' := ?_) (V 5 2) rfl rfl (any_of HT_.out (by kernel_rfl)) (fun _ _ _ h => h) (Or.inl ⟨by rfl, ?_⟩) ?_ ?_; rotate_left
    · intro w'; go_simp; with_reducible rfl
    rotate_left
    · simp only [Act.put, List.setIfInBounds_toArray, List.set_cons_zero, List.set_cons_succ, i64_w, i32_w]; rfl
    refine join_ (σ := Int) 2 (V 5 7) (fun s => [(19, .agg mc), (21, .int .i64 s)]) (fun s w' => (s = 0 ∨ s = 1) ∧ w.heap.size ≤ p ∧ w'.heap[p]? = some (.cells mc 29 (0, 0)) ∧ k29.K w' x mc.toList ∧ Below w.heap.size w w') ?_ ?_
    rotate_left
    · intro hcont
      have G0 := Aside0.mk hcont; clear hcont
      refine two_ (i := 0) (j := 2) (Ni := some 19) (Nj := some 21) (V 5 3) (V 5 6) rfl rfl rfl rfl (two_of HT_.out (by kernel_rfl)) (by decide) (by decide) (fun K hK => ?_) (fun K hK => ?_)
      · skip
        refine value_ (v := .agg mc) (by rfl) rfl (Go.Proofs.Ythdjodamdakjbaa.Fill.row_yields 29 _ rfl p rfl 29 mc (0, 0) _ J2.out.2.1 hu29.out rfl HI.out) ?_
        refine hK.out _ _ (trivial) (fun hHeld => ?_)
        clear hK K
        refine norm_ (a' := ?_) ?_ ?_; rotate_left
        · show Act.put _ (some 19) _ = _; simp only [Act.put, List.setIfInBounds_toArray, List.set_cons_zero, List.set_cons_succ, i64_w, i32_w]; rfl
        refine one_ (i := 2) (N := some 21) (V 5 7) rfl rfl (one_of HT_.out (by kernel_rfl)) (by decide) (fun K hK => ?_)
        refine goes_ Try.func11 (by kernel_rfl) rfl #[.int .i64 side] (by rfl) rfl rfl (by (try simp only [List.map_toArray, List.map_cons, List.map_nil]); first | done | rfl) ?_
        with_reducible refine (side_x side _).mono ?_
        rintro e w3 ⟨s, rfl, hs, hb⟩
        refine ⟨_, rfl, ?_⟩
        have HSD := Aside0.mk hs; clear hs
        have J3 := Aside0.mk (And.intro J2.out.1 (And.intro (blk_below J2.out.2.1 hb) (And.intro (k29.K_below hb J2.out.2.2.1) (below_step J2.out.2.2.2 hb)))); clear hb J2 hHeld; have J2 := J3; clear J3
        refine hK.out _ _ (trivial) (fun hHeld => ?_)
        clear hK K
        refine norm_ (a' := ?_) ?_ ?_; rotate_left
        · show Act.put _ (some 21) _ = _; simp only [Act.put, List.setIfInBounds_toArray, List.set_cons_zero, List.set_cons_succ, i64_w, i32_w]; rfl
        refine norm_ (a' := putAll _ _) ?_ (G0.out s _ ⟨HSD.out, J2.out⟩)
        simp only [putAll, Act.put, List.setIfInBounds_toArray, List.set_cons_zero, List.set_cons_succ]
      · skip
        refine goes_ Try.func11 (by kernel_rfl) rfl #[.int .i64 side] (by rfl) rfl rfl (by (try simp only [List.map_toArray, List.map_cons, List.map_nil]); first | done | rfl) ?_
        with_reducible refine (side_x side _).mono ?_
        rintro e w3 ⟨s, rfl, hs, hb⟩
        refine ⟨_, rfl, ?_⟩
        have HSD := Aside0.mk hs; clear hs
        have J3 := Aside0.mk (And.intro J2.out.1 (And.intro (blk_below J2.out.2.1 hb) (And.intro (k29.K_below hb J2.out.2.2.1) (below_step J2.out.2.2.2 hb)))); clear hb J2 hHeld; have J2 := J3; clear J3
        refine hK.out _ _ (trivial) (fun hHeld => ?_)
        clear hK K
        refine norm_ (a' := ?_) ?_ ?_; rotate_left
        · show Act.put _ (some 21) _ = _; simp only [Act.put, List.setIfInBounds_toArray, List.set_cons_zero, List.set_cons_succ, i64_w, i32_w]; rfl
        refine one_ (i := 0) (N := some 19) (V 5 7) rfl rfl (one_of HT_.out (by kernel_rfl)) (by decide) (fun K hK => ?_)
        refine value_ (v := .agg mc) (by rfl) rfl (Go.Proofs.Ythdjodamdakjbaa.Fill.row_yields 29 _ rfl p rfl 29 mc (0, 0) _ J2.out.2.1 hu29.out rfl HI.out) ?_
        refine hK.out _ _ (trivial) (fun hHeld => ?_)
        clear hK K
        refine norm_ (a' := ?_) ?_ ?_; rotate_left
        · show Act.put _ (some 19) _ = _; simp only [Act.put, List.setIfInBounds_toArray, List.set_cons_zero, List.set_cons_succ, i64_w, i32_w]; rfl
        refine norm_ (a' := putAll _ _) ?_ (G0.out s _ ⟨HSD.out, J2.out⟩)
        simp only [putAll, Act.put, List.setIfInBounds_toArray, List.set_cons_zero, List.set_cons_succ]
    rintro s u0 ⟨hs, j2⟩
    clear J2 hHeld; have J2 := Aside0.mk j2; have HSD := Aside0.mk hs; clear j2 hs
    have hHeld : True := trivial
    refine norm_ (a' := ?_) ?_ ?_; rotate_left
    · simp only [putAll, Act.put, List.setIfInBounds_toArray, List.set_cons_zero, List.set_cons_succ]; rfl
    refine one_ (i := 3) (N := some 22) (V 5 15) rfl rfl (one_of HT_.out (by kernel_rfl)) (by decide) (fun K hK => ?_)
    refine goes_ Try.func10 (by kernel_rfl) rfl #[.agg mc, .int .i64 s] (by rfl) rfl rfl (by (try simp only [List.map_toArray, List.map_cons, List.map_nil]); first | done | rfl) ?_
    with_reducible refine (msgk_x x s mc _ J2.out.2.2.1 HR.out.2).mono ?_
    rintro e w103 ⟨z, oc, rfl, hz, hk, hb⟩
    refine ⟨_, rfl, ?_⟩
    have HZ := Aside0.mk hz; clear hz
    have J3 := Aside0.mk (And.intro J2.out.1 (And.intro (blk_below J2.out.2.1 hb) (And.intro hk (And.intro (below_step J2.out.2.2.2 hb) (Array.getElem?_eq_some_iff.1 J2.out.2.1).1)))); clear hb hk J2 hHeld; have J2 := J3; clear J3
    refine hK.out _ _ (trivial) (fun hHeld => ?_)
    clear hK K
    refine norm_ (a' := ?_) ?_ ?_; rotate_left
    · show Act.put _ (some 22) _ = _; simp only [Act.put, List.setIfInBounds_toArray, List.set_cons_zero, List.set_cons_succ, i64_w, i32_w]; rfl
    refine one_ (i := 4) (N := none) (V 5 31) rfl rfl (one_of HT_.out (by kernel_rfl)) (by decide) (fun K hK => ?_)
    have HO := Aside0.mk (And.intro (info29 J2.out.2.2.1.now) (And.intro (size29 J2.out.2.2.1.now) (one29 J2.out.2.2.1.now)))
    refine Go.Proofs.Ythdjodamdakjbaa.Fill.skip_event (by rfl) rfl 29 _ _ rfl p oc rfl rfl 29 mc J2.out.2.1 HO.out.1 (by rw [HO.out.2.1, HSZ.out]) HO.out.2.2 ?_
    intro w6 hbk hkp hbl
    have JN : Aside0 (NB w p z oc w6) := ⟨hbk, J2.out.2.2.1.step hkp.1 (fun k h1 h2 => by show k ≠ p; have := J2.out.2.2.2.2; omega) (fun k h1 h2 => hkp.2 k h1 (by have := J2.out.2.2.2.2; omega) (by simp)), hbl _ _ J2.out.2.2.2.1 J2.out.1, J2.out.1⟩
    clear hbk hkp hbl hHeld J2
    refine hK.out _ _ trivial (fun hHeld => ?_)
    clear hK K
    refine done_ (done_of HT_.out (by kernel_rfl)) ?_
    clear hHeld HT_ HW_
    have HF0 := Aside0.mk (own_fits HZ.out)
    go_wp2_with fail
    refine (awake_x _).mono ?_
    rintro e w7 ⟨rfl, hb⟩
    have JN7 := Aside0.mk (JN.out.below hb); clear hb JN
    go_wp2_with (first | ((with_reducible refine gate_dst (N := 26) rfl ?_); (try (refine gate_guard (by rfl) ?_; dsimp only)); refine wpList_load_row rfl 29 (.tmp 3) rfl p rfl 29 oc (0, 0) _ JN7.out.m hu29.out rfl HO.out.1 ?_))
    refine (fits_x z oc 0 _ JN7.out.k.now HF0.out).mono ?_
    rintro e w8 ⟨rfl, hb⟩
    have JN8 := Aside0.mk (JN7.out.below hb); clear hb JN7 HF0
    go_upto_region 6 with fail
    have JN := Aside0.mk (JN8.out.below (below_drew1 (Below.refl _ _))); clear JN8
    obtain ⟨kd, hkd⟩ : ∃ k, k = z.f0 := ⟨_, rfl⟩
    have H0 : Aside0 (oc[0]? = some (.int .i64 kd)) := ⟨by rw [hkd]; obtain ⟨A16, c16, A19, c19, A20, c20, e, _⟩ := k29_open JN.out.k.now; have em : oc = _ := Array.toList_inj.1 e; rw [em]; rfl⟩
    have HK1 : Aside0 (1 ≤ kd ∧ kd ≤ 11) := ⟨by rw [hkd]; exact HZ.out.kd⟩
    have HKD := Aside0.mk hkd; clear hkd
    have JB := Aside0.mk (Below.refl w8.drew.heap.size w8.drew)
    refine start_ (n := 7) (ds := []) (S := fun w' => w'.cell? ⟨p, 0, none⟩ = some (.int .i64 kd)) (V 7 0) (by rfl) (by rfl) (by kernel_rfl) ((blk_cell (JN.out.below JB.out).m 0).trans H0.out) (fun hHeld => ?_); refine with_tabW tab3_6 bits3_6 (fun HT_ HW_ => ?_)
    generalize w8.drew = we at JN JB hHeld ⊢
    obtain ⟨u, hu⟩ : ∃ u, u = we := ⟨_, rfl⟩
    have JB' : Aside0 (Below we.heap.size we u) := ⟨by rw [hu]; exact JB.out⟩
    rw [← hu] at hHeld ⊢; clear JB hu; have JB := JB'; clear JB'
    refine pure_ (i := 1) (N := some 31) (v := ?_) (a' := ?_) (V 7 2) rfl rfl (any_of HT_.out (by kernel_rfl)) (fun _ _ _ h => h) (Or.inl ⟨by rfl, ?_⟩) ?_ ?_; rotate_left
    · intro w'; go_simp; with_reducible rfl
    rotate_left
    · simp only [Act.put, List.setIfInBounds_toArray, List.set_cons_zero, List.set_cons_succ, i64_w, i32_w]; rfl
    refine take_ (i := 2) (N := some 32) (v := ?_) (a' := ?_) (V 7 6) rfl rfl (take_ofW HT_.out HW_.out (by kernel_rfl)) (fun _ _ _ h => h) (Or.inl ⟨by rfl, ?_⟩) hHeld ?_ ?_; rotate_left
    · rintro w' s0; go_simp; with_reducible rfl
    rotate_left
    · simp only [Act.put, List.setIfInBounds_toArray, List.set_cons_zero, List.set_cons_succ, i64_w, i32_w]; rfl
    obtain ⟨rr, hrr⟩ : ∃ r, r = rd_T37 rowList kd := ⟨_, rfl⟩
    have HRR := Aside0.mk hrr; clear hrr
    have hk0 : 0 ≤ kd := by have := HK1.out; omega
    have hk12 : kd < ((12 : Nat) : Int) := by have := HK1.out; omega
    have hk12' : kd < 12 := by have := HK1.out; omega
    refine join_ (σ := Addr × Nat × Nat) 1 (V 7 63) (fun s => [(30, .slice (some s.1) 12 s.2.1), (33, .pointer (some (s.1.add (kd.toNat * 4)))), (34, .agg #[.string rr.f0, .string rr.f1, .string rr.f2, .string rr.f3]), (7, .pointer (some ⟨s.2.2, 0, none⟩))]) (fun s w' => Below we.heap.size we w' ∧ w'.heap[s.2.2]? = some (.cells #[.string ⟨#[]⟩, .string ⟨#[]⟩, .string ⟨#[]⟩, .string ⟨#[]⟩] 37 (0, 0)) ∧ we.heap.size ≤ s.2.2 ∧ k37.C w' (some s.1) 12 rowList) ?_ ?_
    rotate_left
    · intro hcont
      have G2 := Aside0.mk hcont; clear hcont
      refine join_ (σ := Addr × Nat × Nat) 2 (V 7 47) (fun s => [(30, .slice (some s.1) 12 s.2.1), (33, .pointer (some (s.1.add (kd.toNat * 4)))), (7, .pointer (some ⟨s.2.2, 0, none⟩))]) (fun s w' => Below we.heap.size we w' ∧ w'.heap[s.2.2]? = some (.cells #[.string ⟨#[]⟩, .string ⟨#[]⟩, .string ⟨#[]⟩, .string ⟨#[]⟩] 37 (0, 0)) ∧ we.heap.size ≤ s.2.2 ∧ k37.C w' (some s.1) 12 rowList) ?_ ?_
      rotate_left
      · intro hcont
        have G1 := Aside0.mk hcont; clear hcont
        refine join_ (σ := Addr × Nat × Nat) 4 (V 7 38) (fun s => [(7, .pointer (some ⟨s.2.2, 0, none⟩))]) (fun s w' => Below we.heap.size we w' ∧ w'.heap[s.2.2]? = some (.cells #[.string ⟨#[]⟩, .string ⟨#[]⟩, .string ⟨#[]⟩, .string ⟨#[]⟩] 37 (0, 0)) ∧ we.heap.size ≤ s.2.2) ?_ ?_
        rotate_left
        · intro hcont
          have G0 := Aside0.mk hcont; clear hcont
          refine two_ (i := 0) (j := 5) (Ni := some 30) (Nj := some 7) (V 7 7) (V 7 38) rfl rfl rfl rfl (two_of HT_.out (by kernel_rfl)) (by decide) (by decide) (fun K hK => ?_) (fun K hK => ?_)
          rotate_left
          · skip
            refine value_ (w1 := ?_) (v := ?_) (by rfl) rfl ?_ ?_; rotate_left 2
            · go_simp
              constructor
              · rfl
              · rfl
            refine hK.out _ _ ((blk_cell (JN.out.below (below_alloc JB.out (.cells #[.string ⟨#[]⟩, .string ⟨#[]⟩, .string ⟨#[]⟩, .string ⟨#[]⟩] 37))).m 0).trans H0.out) (fun hHeld => ?_)
            clear hK K
            refine norm_ (a' := ?_) ?_ ?_; rotate_left
            · show Act.put _ (some 7) _ = _; simp only [Act.put, List.setIfInBounds_toArray, List.set_cons_zero, List.set_cons_succ, i64_w, i32_w]; rfl
            refine norm_ (a' := putAll _ _) ?_ (G0.out (⟨0, 0, none⟩, 0, u.heap.size) _ ⟨below_alloc JB.out (.cells #[.string ⟨#[]⟩, .string ⟨#[]⟩, .string ⟨#[]⟩, .string ⟨#[]⟩] 37), blk_new u _, JB.out.size⟩)
            simp only [putAll, Act.put, List.setIfInBounds_toArray, List.set_cons_zero, List.set_cons_succ]
          refine goes_ Try.func13 (by kernel_rfl) rfl #[] (by rfl) rfl rfl (by (try simp only [List.map_toArray, List.map_cons, List.map_nil]); first | done | rfl) ?_
          with_reducible refine (comptoirref07_Rows.calls rowList _ rows_is).mono ?_
          rintro e wr ⟨v0, rfl, ho, hB⟩
          refine ⟨_, rfl, ?_⟩
          obtain ⟨AR, cR, er, hrc, hrC⟩ := Kd.R_reads ho
          subst er
          rw [rows_len] at hrc hrC ⊢
          obtain ⟨ad, ea, c0, c1, c2, c3⟩ := at_T37 hrC kd hk0 hk12
          subst ea
          rw [← HRR.out] at c0 c1 c2 c3
          have HRC := Aside0.mk hrC; clear hrC hrc ho
          have JB' := Aside0.mk (below_step JB.out hB); clear JB hB hHeld; have JB := JB'; clear JB'
          refine hK.out _ _ ((blk_cell (JN.out.below JB.out).m 0).trans H0.out) (fun hHeld => ?_)
          clear hK K
          refine norm_ (a' := ?_) ?_ ?_; rotate_left
          · show Act.put _ (some 30) _ = _; simp only [Act.put, List.setIfInBounds_toArray, List.set_cons_zero, List.set_cons_succ, i64_w, i32_w]; rfl
          refine pure_ (i := 3) (N := some 33) (v := ?_) (a' := ?_) (V 7 15) rfl rfl (any_of HT_.out (by kernel_rfl)) (fun _ _ _ h => h) (Or.inl ⟨by rfl, ?_⟩) ?_ ?_; rotate_left
          · intro w'; go_simp; with_reducible rfl
          rotate_left
          · simp only [Act.put, List.setIfInBounds_toArray, List.set_cons_zero, List.set_cons_succ, i64_w, i32_w]; rfl
          refine two_ (i := 4) (j := 5) (Ni := some 34) (Nj := some 7) (V 7 31) (V 7 47) rfl rfl rfl rfl (two_of HT_.out (by kernel_rfl)) (by decide) (by decide) (fun K hK => ?_) (fun K hK => ?_)
          rotate_left
          · skip
            refine value_ (w1 := ?_) (v := ?_) (by rfl) rfl ?_ ?_; rotate_left 2
            · go_simp
              constructor
              · rfl
              · rfl
            refine hK.out _ _ ((blk_cell (JN.out.below (below_alloc JB.out (.cells #[.string ⟨#[]⟩, .string ⟨#[]⟩, .string ⟨#[]⟩, .string ⟨#[]⟩] 37))).m 0).trans H0.out) (fun hHeld => ?_)
            clear hK K
            refine norm_ (a' := ?_) ?_ ?_; rotate_left
            · show Act.put _ (some 7) _ = _; simp only [Act.put, List.setIfInBounds_toArray, List.set_cons_zero, List.set_cons_succ, i64_w, i32_w]; rfl
            refine norm_ (a' := putAll _ _) ?_ (G1.out (ad, cR, wr.heap.size) _ ⟨below_alloc JB.out (.cells #[.string ⟨#[]⟩, .string ⟨#[]⟩, .string ⟨#[]⟩, .string ⟨#[]⟩] 37), blk_new wr _, JB.out.size, Kd.C_alloc HRC.out _⟩)
            simp only [putAll, Act.put, List.setIfInBounds_toArray, List.set_cons_zero, List.set_cons_succ]
          refine value_ (w1 := ?_) (v := ?_) (by rfl) rfl ?_ ?_; rotate_left 2
          · go_simp
            constructor
            · rfl
            · rfl
          refine hK.out _ _ ((blk_cell (JN.out.below JB.out).m 0).trans H0.out) (fun hHeld => ?_)
          clear hK K
          refine norm_ (a' := ?_) ?_ ?_; rotate_left
          · show Act.put _ (some 34) _ = _; simp only [Act.put, List.setIfInBounds_toArray, List.set_cons_zero, List.set_cons_succ, i64_w, i32_w]; rfl
          refine one_ (i := 5) (N := some 7) (V 7 63) rfl rfl (one_of HT_.out (by kernel_rfl)) (by decide) (fun K hK => ?_)
          refine value_ (w1 := ?_) (v := ?_) (by rfl) rfl ?_ ?_; rotate_left 2
          · go_simp
            constructor
            · rfl
            · rfl
          refine hK.out _ _ ((blk_cell (JN.out.below (below_alloc JB.out (.cells #[.string ⟨#[]⟩, .string ⟨#[]⟩, .string ⟨#[]⟩, .string ⟨#[]⟩] 37))).m 0).trans H0.out) (fun hHeld => ?_)
          clear hK K
          refine norm_ (a' := ?_) ?_ ?_; rotate_left
          · show Act.put _ (some 7) _ = _; simp only [Act.put, List.setIfInBounds_toArray, List.set_cons_zero, List.set_cons_succ, i64_w, i32_w]; rfl
          refine norm_ (a' := putAll _ _) ?_ (G2.out (ad, cR, wr.heap.size) _ ⟨below_alloc JB.out (.cells #[.string ⟨#[]⟩, .string ⟨#[]⟩, .string ⟨#[]⟩, .string ⟨#[]⟩] 37), blk_new wr _, JB.out.size, Kd.C_alloc HRC.out _⟩)
          simp only [putAll, Act.put, List.setIfInBounds_toArray, List.set_cons_zero, List.set_cons_succ]
        rintro ⟨ad, cR, p6⟩ u0 ⟨jb, jk, jl⟩
        dsimp only at jk jl ⊢
        clear JB hHeld; have JB := Aside0.mk jb; have JK := Aside0.mk jk; have JL6 := Aside0.mk jl; clear jb jk jl
        have hHeld : u0.cell? ⟨p, 0, none⟩ = some (.int .i64 kd) := (blk_cell (JN.out.below JB.out).m 0).trans H0.out
        refine norm_ (a' := ?_) ?_ ?_; rotate_left
        · simp only [putAll, Act.put, List.setIfInBounds_toArray, List.set_cons_zero, List.set_cons_succ]; rfl
        refine one_ (i := 0) (N := some 30) (V 7 39) rfl rfl (one_of HT_.out (by kernel_rfl)) (by decide) (fun K hK => ?_)
        refine goes_ Try.func13 (by kernel_rfl) rfl #[] (by rfl) rfl rfl (by (try simp only [List.map_toArray, List.map_cons, List.map_nil]); first | done | rfl) ?_
        with_reducible refine (comptoirref07_Rows.calls rowList _ rows_is).mono ?_
        rintro e wr ⟨v0, rfl, ho, hB⟩
        refine ⟨_, rfl, ?_⟩
        obtain ⟨AR, cR, er, hrc, hrC⟩ := Kd.R_reads ho
        subst er
        rw [rows_len] at hrc hrC ⊢
        obtain ⟨ad, ea, c0, c1, c2, c3⟩ := at_T37 hrC kd hk0 hk12
        subst ea
        rw [← HRR.out] at c0 c1 c2 c3
        have HRC := Aside0.mk hrC; clear hrC hrc ho
        have JB' := Aside0.mk (below_step JB.out hB); have JK' := Aside0.mk (blk_below JK.out hB); clear JB JK hB hHeld; have JB := JB'; have JK := JK'; clear JB' JK'
        refine hK.out _ _ ((blk_cell (JN.out.below JB.out).m 0).trans H0.out) (fun hHeld => ?_)
        clear hK K
        refine norm_ (a' := ?_) ?_ ?_; rotate_left
        · show Act.put _ (some 30) _ = _; simp only [Act.put, List.setIfInBounds_toArray, List.set_cons_zero, List.set_cons_succ, i64_w, i32_w]; rfl
        refine pure_ (i := 3) (N := some 33) (v := ?_) (a' := ?_) (V 7 47) rfl rfl (any_of HT_.out (by kernel_rfl)) (fun _ _ _ h => h) (Or.inl ⟨by rfl, ?_⟩) ?_ ?_; rotate_left
        · intro w'; go_simp; with_reducible rfl
        rotate_left
        · simp only [Act.put, List.setIfInBounds_toArray, List.set_cons_zero, List.set_cons_succ, i64_w, i32_w]; rfl
        refine norm_ (a' := putAll _ _) ?_ (G1.out (ad, cR, p6) _ ⟨JB.out, JK.out, JL6.out, HRC.out⟩)
        simp only [putAll, Act.put, List.setIfInBounds_toArray, List.set_cons_zero, List.set_cons_succ]
      rintro ⟨ad, cR, p6⟩ u1 ⟨jb, jk, jl, hrC⟩
      dsimp only at jk jl hrC ⊢
      clear JB hHeld; have JB := Aside0.mk jb; have JK := Aside0.mk jk; have JL6 := Aside0.mk jl; clear jb jk jl
      obtain ⟨ad', ea, c0, c1, c2, c3⟩ := at_T37 hrC kd hk0 hk12
      obtain rfl := Option.some.inj ea; clear ea
      rw [← HRR.out] at c0 c1 c2 c3
      have HRC := Aside0.mk hrC; clear hrC
      have hHeld : u1.cell? ⟨p, 0, none⟩ = some (.int .i64 kd) := (blk_cell (JN.out.below JB.out).m 0).trans H0.out
      refine norm_ (a' := ?_) ?_ ?_; rotate_left
      · simp only [putAll, Act.put, List.setIfInBounds_toArray, List.set_cons_zero, List.set_cons_succ]; rfl
      refine one_ (i := 4) (N := some 34) (V 7 63) rfl rfl (one_of HT_.out (by kernel_rfl)) (by decide) (fun K hK => ?_)
      refine value_ (w1 := ?_) (v := ?_) (by rfl) rfl ?_ ?_; rotate_left 2
      · go_simp
        constructor
        · rfl
        · rfl
      refine hK.out _ _ ((blk_cell (JN.out.below JB.out).m 0).trans H0.out) (fun hHeld => ?_)
      clear hK K
      refine norm_ (a' := ?_) ?_ ?_; rotate_left
      · show Act.put _ (some 34) _ = _; simp only [Act.put, List.setIfInBounds_toArray, List.set_cons_zero, List.set_cons_succ, i64_w, i32_w]; rfl
      refine norm_ (a' := putAll _ _) ?_ (G2.out (ad, cR, p6) _ ⟨JB.out, JK.out, JL6.out, HRC.out⟩)
      simp only [putAll, Act.put, List.setIfInBounds_toArray, List.set_cons_zero, List.set_cons_succ]
    rintro ⟨ad, cR, p6⟩ u2 ⟨jb, jk, jl, hrC⟩
    dsimp only at jk jl hrC ⊢
    clear JB hHeld; have JB := Aside0.mk jb; have JK := Aside0.mk jk; have JL6 := Aside0.mk jl; clear jb jk jl
    obtain ⟨ad', ea, c0, c1, c2, c3⟩ := at_T37 hrC kd hk0 hk12
    obtain rfl := Option.some.inj ea; clear ea
    rw [← HRR.out] at c0 c1 c2 c3
    have HRC := Aside0.mk hrC; clear hrC
    have hHeld : u2.cell? ⟨p, 0, none⟩ = some (.int .i64 kd) := (blk_cell (JN.out.below JB.out).m 0).trans H0.out
    refine norm_ (a' := ?_) ?_ ?_; rotate_left
    · simp only [putAll, Act.put, List.setIfInBounds_toArray, List.set_cons_zero, List.set_cons_succ]; rfl
    refine one_ (i := 6) (N := none) (V 7 127) rfl rfl (one_of HT_.out (by kernel_rfl)) (by decide) (fun K hK => ?_)
    refine Go.Proofs.Ythdjodamdakjbaa.Fill.skip_event (by rfl) rfl 37 _ _ rfl p6 #[.string rr.f0, .string rr.f1, .string rr.f2, .string rr.f3] rfl rfl 37 #[.string ⟨#[]⟩, .string ⟨#[]⟩, .string ⟨#[]⟩, .string ⟨#[]⟩] JK.out (by kernel_rfl) (by rfl) (by rw [← Array.all_toList]; rfl) ?_
    intro w7 hbk hkp hbl
    have J7 := Aside0.mk (hbl _ _ JB.out JL6.out)
    have JR := Aside0.mk hbk
    clear hbk hkp hbl
    refine hK.out _ _ ((blk_cell (JN.out.below J7.out).m 0).trans H0.out) (fun hHeld => ?_)
    clear hK K
    refine done_ (done_of HT_.out (by kernel_rfl)) ?_
    have JN' := Aside0.mk (JN.out.below J7.out)
    clear hHeld HT_ HW_ JB JK JN J7 JL6; have JN := JN'; clear JN'
    have d2 : w7.cell? ⟨p6, 2, none⟩ = some (.string rr.f2) := (blk_cell JR.out 2).trans rfl
    have d3 : w7.cell? ⟨p6, 3, none⟩ = some (.string rr.f3) := (blk_cell JR.out 3).trans rfl
    have n2 := (rows_small kd).1
    have n3 := (rows_small kd).2
    rw [← HRR.out] at n2 n3
    have hMU : mustOf z.f0 = rr.f2 := by rw [HRR.out, ← HKD.out]; rfl
    have hMA : mayOf z.f0 = rr.f3 := by rw [HRR.out, ← HKD.out]; rfl
    obtain ⟨mu, hmu⟩ : ∃ m, m = rr.f2 := ⟨_, rfl⟩
    obtain ⟨ma, hma⟩ : ∃ m, m = rr.f3 := ⟨_, rfl⟩
    rw [← hmu] at d2 n2 hMU; rw [← hma] at d3 n3 hMA
    have HM := Aside0.mk (And.intro hMU hMA); clear hMU hMA hmu hma
    go_upto_region 8 with fail
    have hj0 := mod_is what 11 (by decide) (by decide)
    obtain ⟨j, hj, hj11⟩ : ∃ j : Nat, wrap64 ((IntKind.u64.wrap what).tmod 11) = (j : Int) ∧ j < 11 := ⟨(wrap64 ((IntKind.u64.wrap what).tmod 11)).toNat, by omega, by omega⟩
    clear hj0
    generalize hal : (⟨#[80, 67, 82, 77, 84, 65, 69, 68, 78, 79, 71]⟩ : ByteArray) = al
    have hsz : al.size = 11 := by rw [← hal]; rfl
    have hjs : j < al.size := by omega
    have hjz : (j : Int) < (al.size : Int) := by omega
    have hx := byte_at al j
    obtain ⟨c, hc⟩ : ∃ c, c = bt al (j : Int) := ⟨_, rfl⟩
    rw [← hc] at hx
    have HC : Aside0 (c = letterN j) := ⟨by rw [hc, ← hal]; rfl⟩
    have HJ := Aside0.mk hj11
    clear hal hc hsz hj11
    go_upto_region 9 with fail
    clear hj hx hjs hjz
    go_wp2_with fail
    go_loopg [10, 12] mu.size (fun gg s10 s12 wr => ∃ (b : Bool) (kk : Nat), kk ≤ mu.size ∧ mu.size - kk ≤ gg ∧ s10 = .bool b ∧ s12 = .int .i64 kk ∧ Aside0 (w7 = wr) ∧ Aside0 (b = true → hasB mu c = true) ∧ Aside0 (b = false → ∀ i : Nat, i < kk → bt mu (i : Int) ≠ c))
    case atStart => exact ⟨false, 0, Nat.zero_le _, by omega, rfl, rfl, ⟨rfl⟩, ⟨fun h => absurd h (by decide)⟩, ⟨fun _ i hi => absurd hi (Nat.not_lt_zero _)⟩⟩
    case round =>
      obtain ⟨b, kk, hkk, hg, rfl, rfl, HWR, YES, NO⟩ := hrel
      obtain rfl := HWR.out; clear HWR
      by_cases hlt : kk < mu.size
      · have hltz : (kk : Int) < (mu.size : Int) := by omega
        cases b with
        | true =>
          have HQ := Aside0.mk (YES.out rfl); clear YES NO
          go_wp2_with fail
          go_roundg (mu.size - (kk + 1))
          case measure => omega
          case rel => exact ⟨true, kk + 1, by omega, by omega, rfl, by go_num, ⟨rfl⟩, ⟨fun _ => HQ.out⟩, ⟨fun h => absurd h (by decide)⟩⟩
        | false =>
          have hx := byte_at mu kk
          obtain ⟨dd, hd⟩ : ∃ d, d = bt mu (kk : Int) := ⟨_, rfl⟩
          rw [← hd] at hx
          replace hd := Aside0.mk hd
          by_cases q : dd = c
          · have q' : (dd == c) = true := beq_iff_eq.mpr q
            have HQ := Aside0.mk (hasB_yes mu c kk hlt (by rw [← hd.out]; exact q))
            replace q := Aside0.mk q
            go_wp2_with fail
            go_roundg (mu.size - (kk + 1))
            case measure => omega
            case rel => exact ⟨true, kk + 1, by omega, by omega, rfl, by go_num, ⟨rfl⟩, ⟨fun _ => HQ.out⟩, ⟨fun h => absurd h (by decide)⟩⟩
          · have q' : (dd == c) = false := beq_eq_false_iff_ne.mpr q
            have HN : Aside0 (∀ i : Nat, i < kk + 1 → bt mu (i : Int) ≠ c) := ⟨fun i hi => by
                by_cases e : i = kk
                · subst e; rw [← hd.out]; exact q
                · exact NO.out rfl i (by omega)⟩
            replace q := Aside0.mk q
            go_wp2_with fail
            go_roundg (mu.size - (kk + 1))
            case measure => omega
            case rel => exact ⟨false, kk + 1, by omega, by omega, rfl, by go_num, ⟨rfl⟩, ⟨fun h => absurd h (by decide)⟩, ⟨fun _ => HN.out⟩⟩
      · have hltz : ¬ (kk : Int) < (mu.size : Int) := by omega
        have Hb : Aside0 (b = hasB mu c) := ⟨byte_pre mu c b kk (by omega) YES.out NO.out⟩
        clear YES NO
        go_upto_region 14 with fail
        clear hltz hlt hg hkk
        go_wp2_with fail
        go_loopg [11, 13] ma.size (fun gg s10 s12 wr => ∃ (b : Bool) (kk : Nat), kk ≤ ma.size ∧ ma.size - kk ≤ gg ∧ s10 = .bool b ∧ s12 = .int .i64 kk ∧ Aside0 (w7 = wr) ∧ Aside0 (b = true → hasB ma c = true) ∧ Aside0 (b = false → ∀ i : Nat, i < kk → bt ma (i : Int) ≠ c))
        case atStart => exact ⟨false, 0, Nat.zero_le _, by omega, rfl, rfl, ⟨rfl⟩, ⟨fun h => absurd h (by decide)⟩, ⟨fun _ i hi => absurd hi (Nat.not_lt_zero _)⟩⟩
        case round =>
          obtain ⟨b2, kk, hkk, hg, rfl, rfl, HWR, YES, NO⟩ := hrel
          obtain rfl := HWR.out; clear HWR
          by_cases hlt : kk < ma.size
          · have hltz : (kk : Int) < (ma.size : Int) := by omega
            cases b2 with
            | true =>
              have HQ := Aside0.mk (YES.out rfl); clear YES NO
              go_wp2_with fail
              go_roundg (ma.size - (kk + 1))
              case measure => omega
              case rel => exact ⟨true, kk + 1, by omega, by omega, rfl, by go_num, ⟨rfl⟩, ⟨fun _ => HQ.out⟩, ⟨fun h => absurd h (by decide)⟩⟩
            | false =>
              have hx := byte_at ma kk
              obtain ⟨dd, hd⟩ : ∃ d, d = bt ma (kk : Int) := ⟨_, rfl⟩
              rw [← hd] at hx
              replace hd := Aside0.mk hd
              by_cases q : dd = c
              · have q' : (dd == c) = true := beq_iff_eq.mpr q
                have HQ := Aside0.mk (hasB_yes ma c kk hlt (by rw [← hd.out]; exact q))
                replace q := Aside0.mk q
                go_wp2_with fail
                go_roundg (ma.size - (kk + 1))
                case measure => omega
                case rel => exact ⟨true, kk + 1, by omega, by omega, rfl, by go_num, ⟨rfl⟩, ⟨fun _ => HQ.out⟩, ⟨fun h => absurd h (by decide)⟩⟩
              · have q' : (dd == c) = false := beq_eq_false_iff_ne.mpr q
                have HN : Aside0 (∀ i : Nat, i < kk + 1 → bt ma (i : Int) ≠ c) := ⟨fun i hi => by
                    by_cases e : i = kk
                    · subst e; rw [← hd.out]; exact q
                    · exact NO.out rfl i (by omega)⟩
                replace q := Aside0.mk q
                go_wp2_with fail
                go_roundg (ma.size - (kk + 1))
                case measure => omega
                case rel => exact ⟨false, kk + 1, by omega, by omega, rfl, by go_num, ⟨rfl⟩, ⟨fun h => absurd h (by decide)⟩, ⟨fun _ => HN.out⟩⟩
          · have hltz : ¬ (kk : Int) < (ma.size : Int) := by omega
            have Hb2 : Aside0 (b2 = hasB ma c) := ⟨byte_pre ma c b2 kk (by omega) YES.out NO.out⟩
            clear YES NO
            go_upto_region 18 with fail
            clear hltz hlt hg hkk
            have HSX := set_x (fun k => k ≠ p) z j HJ.out (!b) oc w7 JN.out.k (fun k hk => by have := JN.out.lt; omega)
            rw [← HC.out] at HSX
            replace HSX := Aside0.mk HSX
            have HFT := need_fits HZ.out j HJ.out
            rw [HM.out.1, HM.out.2, ← HC.out, ← Hb.out, ← Hb2.out] at HFT
            replace HFT := Aside0.mk HFT
            go_wp2_with (first | ((with_reducible refine gate_dst (N := 73) rfl ?_); refine wpList_load_row rfl 29 (.tmp 3) rfl p rfl 29 oc (0, 0) _ JN.out.m hu29.out rfl HO.out.1 ?_))
            refine HSX.out.mono ?_
            rintro e wa ⟨nc, rfl, hk, hb⟩
            have HN := Aside0.mk (And.intro (info29 hk.now) (And.intro (size29 hk.now) (one29 hk.now)))
            have JA := Aside0.mk (And.intro hk (And.intro hb (blk_below JN.out.m hb))); clear hk hb HSX
            go_upto_region 19 with ((with_reducible refine gate_store (t := 29) (p := 3) rfl ?_); refine Go.Proofs.Ythdjodamdakjbaa.Fill.store_event rfl 29 _ _ rfl p nc rfl rfl 29 oc JA.out.2.2 HN.out.1 (by rw [HN.out.2.1, HO.out.2.1]) HN.out.2.2 ?_; intro wb ea eb ec; have HE := Aside0.mk (And.intro ea (And.intro eb ec)); clear ea eb ec)
            have JZ := Aside0.mk (NB.store JN.out JA.out.2.1 (JA.out.1.step (Nat.le_refl _) (fun k _ h => Or.inr h) (fun _ _ _ => rfl)) HE.out.1 HE.out.2.1 HE.out.2.2)
            clear JA HE JN d2 d3 n2 n3 Hb Hb2 HRR HKD HK1 H0
            cases b <;> cases b2
            · have HV : Aside0 (fitsF (setM z j true) = some 19) := ⟨HFT.out⟩
              clear HFT
              go_wp2_with (first | ((with_reducible refine gate_dst (N := 83) rfl ?_); refine wpList_load_row rfl 29 (.tmp 3) rfl p rfl 29 nc (0, 0) _ JZ.out.m hu29.out rfl HN.out.1 ?_))
              refine (fits_x _ nc 19 _ JZ.out.k.now HV.out).mono ?_
              rintro e wc ⟨rfl, hb⟩
              have HB := Aside0.mk hb; clear hb
              go_wp2_with fail
              go_ret
              exact ⟨rfl, below_step JZ.out.bel HB.out⟩
            · have HV : Aside0 (fitsF (setM z j true) = some 0) := ⟨HFT.out⟩
              clear HFT
              go_wp2_with (first | ((with_reducible refine gate_dst (N := 83) rfl ?_); refine wpList_load_row rfl 29 (.tmp 3) rfl p rfl 29 nc (0, 0) _ JZ.out.m hu29.out rfl HN.out.1 ?_))
              refine (fits_x _ nc 0 _ JZ.out.k.now HV.out).mono ?_
              rintro e wc ⟨rfl, hb⟩
              have HB := Aside0.mk hb; clear hb
              go_wp2_with fail
              go_ret
              exact ⟨rfl, below_step JZ.out.bel HB.out⟩
            · have HV : Aside0 (fitsF (setM z j false) = some 19) := ⟨HFT.out⟩
              clear HFT
              go_wp2_with (first | ((with_reducible refine gate_dst (N := 83) rfl ?_); refine wpList_load_row rfl 29 (.tmp 3) rfl p rfl 29 nc (0, 0) _ JZ.out.m hu29.out rfl HN.out.1 ?_))
              refine (fits_x _ nc 19 _ JZ.out.k.now HV.out).mono ?_
              rintro e wc ⟨rfl, hb⟩
              have HB := Aside0.mk hb; clear hb
              go_wp2_with fail
              go_ret
              exact ⟨rfl, below_step JZ.out.bel HB.out⟩
            · have HV : Aside0 (fitsF (setM z j false) = some 19) := ⟨HFT.out⟩
              clear HFT
              go_wp2_with (first | ((with_reducible refine gate_dst (N := 83) rfl ?_); refine wpList_load_row rfl 29 (.tmp 3) rfl p rfl 29 nc (0, 0) _ JZ.out.m hu29.out rfl HN.out.1 ?_))
              refine (fits_x _ nc 19 _ JZ.out.k.now HV.out).mono ?_
              rintro e wc ⟨rfl, hb⟩
              have HB := Aside0.mk hb; clear hb
              go_wp2_with fail
              go_ret
              exact ⟨rfl, below_step JZ.out.bel HB.out⟩
end Go.Proofs.Ythdjodamdakjbaa.MK
