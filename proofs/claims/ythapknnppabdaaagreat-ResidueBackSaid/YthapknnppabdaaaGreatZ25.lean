/- ResidueBack: part 25 of its proof. -/
import Derived.Test.YthapknnppabdaaaGreatZ24
import Derived.Test.YthapknnppabdaaaGreatZ02
namespace Go.Proofs.YthapknnppabdaaaGreat.MQ
open Go.RowKit Go.Proofs.YthapknnppabdaaaGreatW.PrintWords Go.Proofs.YthapknnppabdaaaGreatW.PrintLast Go.Proofs.YthapknnppabdaaaGreatW.PrintMore
set_option linter.unusedVariables false
set_option linter.unusedSimpArgs false
def orF (a b : ByteArray) : ByteArray := if a.toList = [] then b else a
def lbF (a b : ByteArray) : ByteArray := if a.toList = [] then ⟨#[]⟩ else orF b a
theorem or_e (a b : ByteArray) (w : World) : Calls Tryz.prog 34 #[.string a, .string b] w fun e w' => e = .returned (.string (orF a b)) ∧ Drawn0 w w' :=
  residue_or.calls a b (orF a b) w (by unfold residue_or.f orF; split <;> rfl)
theorem kn_e (a b : ByteArray) (w : World) : Calls Tryz.prog 35 #[.string a, .string b] w fun e w' => e = .returned (.string (lbF a b)) ∧ Drawn0 w w' :=
  residue_known.calls a b (lbF a b) w (by
    unfold residue_known.f lbF
    split
    · rfl
    · unfold residue_or.f orF; split <;> rfl)
/-- The message that is joined, the residue, the result. -/
structure JJ (w : World) (p b : Nat) (z : S29) (B16 : Option Addr) (d16 : Nat) (B19 : Option Addr) (d19 : Nat) (B20 : Option Addr) (d20 : Nat) (rc : Array Value) (W : World) : Prop where
  m : W.heap[p]? = some (.cells (rowM z (.slice B16 z.f15.length d16) (.slice B19 z.f18.length d19) (.slice B20 z.f19.length d20)) 29 (0, 0))
  r : W.heap[p + 1]? = some (.cells rc 35 (0, 0))
  o : W.heap[p + 2]? = some (.cells zeroM 29 (0, 0))
  g16 : GL k46 b W (.slice B16 z.f15.length d16) z.f15
  g19 : GL k48 b W (.slice B19 z.f18.length d19) z.f18
  g20 : GL k50 b W (.slice B20 z.f19.length d20) z.f19
  bel : Below w.heap.size w W
  lo : w.heap.size ≤ p
  lt : p + 2 < b
  lb : b ≤ W.heap.size
variable {w : World} {p b : Nat} {z z' : S29} {B16 : Option Addr} {d16 : Nat} {B19 : Option Addr} {d19 : Nat} {B20 : Option Addr} {d20 : Nat} {rc : Array Value} {W W' : World}
theorem JJ.below (h : JJ w p b z B16 d16 B19 d19 B20 d20 rc W) (hb : Below W.heap.size W W') : JJ w p b z B16 d16 B19 d19 B20 d20 rc W' := by
  have kb := (KB.refl b W).below hb
  exact ⟨blk_below h.m hb, blk_below h.r hb, blk_below h.o hb, h.g16.step kb, h.g19.step kb, h.g20.step kb, below_step h.bel hb, h.lo, h.lt, Nat.le_trans h.lb kb.1⟩
theorem JJ.set {C19 : Option Addr} {c19 : Nat} {C20 : Option Addr} {c20 : Nat} (h : JJ w p b z B16 d16 B19 d19 B20 d20 rc W) (i : Nat) (v : Value)
    (hr : (rowM z (.slice B16 z.f15.length d16) (.slice B19 z.f18.length d19) (.slice B20 z.f19.length d20)).setIfInBounds i v = rowM z' (.slice B16 z'.f15.length d16) (.slice C19 z'.f18.length c19) (.slice C20 z'.f19.length c20))
    (e15 : z'.f15 = z.f15) (k19 : GL k48 b W (.slice C19 z'.f18.length c19) z'.f18) (k20 : GL k50 b W (.slice C20 z'.f19.length c20) z'.f19) : JJ w p b z' B16 d16 C19 c19 C20 c20 rc (W.setCell ⟨p, i, none⟩ v) := by
  have h1 := h.lt
  have f : ∀ n, n ≠ p → (W.setCell ⟨p, i, none⟩ v).heap[n]? = W.heap[n]? := fun n hn => Below.heap_setCell _ _ _ _ hn
  have kb : KB b W (W.setCell ⟨p, i, none⟩ v) := (KB.refl b W).set (by omega) i v
  exact ⟨by rw [← hr]; exact blk_set h.m _ _, (f _ (by omega)).trans h.r, (f _ (by omega)).trans h.o, by rw [e15]; exact h.g16.step kb, k19.step kb, k20.step kb, below_set h.bel h.lo, h.lo, h1, Nat.le_trans h.lb kb.1⟩
/-- What is joined. -/
def joinZ (x : S29) (r : S35) : S29 := { x with f17 := orF r.f0 x.f17, f8 := lbF x.f8 r.f1, f9 := lbF x.f9 r.f2, f18 := (if 0 < r.f3.length then r.f3 else x.f18), f19 := (if 0 < r.f4.length then r.f4 else x.f19) }
/-- A message comes back. -/
def JoinEnd (a : S29) (w : World) (e : Ending) (w' : World) : Prop := ∃ nc : Array Value, e = .returned (.agg nc) ∧ k29.K w' a nc.toList ∧ Below w.heap.size w w'
def T11_2 : Bool × List (List Nat × List Nat) := (true, [([], []), ([0], [0]), ([], []), ([2], [2]), ([1, 3], [1, 3]), ([], []), ([5], [5]), ([], []), ([7], [7]), ([6, 8, 4], [6, 8]), ([], []), ([10], [10]), ([], []), ([12], [12]), ([11, 13, 9], [11, 13]), ([0, 1, 2, 3, 4, 5, 6, 10, 11], []), ([15, 4, 14, 0, 1, 2, 3, 4, 5, 6, 10, 11], [4, 15]), ([0, 1, 2, 3, 4, 5, 6, 7, 8, 9, 10, 11, 15, 16], []), ([17, 9, 16, 0, 1, 2, 3, 4, 5, 6, 7, 8, 9, 10, 11, 15, 16], [9, 17]), ([0, 1, 2, 3, 4, 5, 6, 7, 8, 9, 10, 11, 12, 13, 14, 15, 16, 17, 18], []), ([19, 14, 18, 0, 1, 2, 3, 4, 5, 6, 7, 8, 9, 10, 11, 12, 13, 14, 15, 16, 17, 18], [14, 19])])
def B11_2 : List Nat := [0, 1, 0, 4, 15, 0, 32, 0, 128, 511, 0, 1024, 0, 4096, 16383, 3199, 65535, 131071, 262143, 524287, 1048575]
theorem tab11_2 : rtab .any (opsOf Tryz.f11 2) = T11_2 := by kernel_rfl
theorem bits11_2 : waitsOk T11_2.2 B11_2 = true := by kernel_rfl
set_option maxHeartbeats 16000000 in
set_option maxRecDepth 100000 in
theorem join_x (x : S29) (y : S35) (mc rc : Array Value) (w : World) (h : k29.K w x mc.toList) (g : k35.K w y rc.toList) (hr : ReachL x) (hy : y.f3.length ≤ 4398046511104 ∧ y.f4.length ≤ 4398046511104 ∧ ∀ t ∈ y.f4, t.f1.length ≤ 140737488355328) :
    Calls Tryz.prog 11 #[.agg mc, .agg rc] w (JoinEnd (joinZ x y) w) := by
  have hu29 := Aside0.mk Tryz.underlying29
  have hu35 := Aside0.mk Tryz.underlying35
  have HX := Aside0.mk (And.intro h hr)
  have HY := Aside0.mk hy
  have HSZ : Aside0 (mc.size = 21) := ⟨by obtain ⟨A16, c16, A19, c19, A20, c20, e, _⟩ := k29_open h; rw [← Array.length_toList, e]; rfl⟩
  have HI : Aside0 ((Tryz.prog.info? 29).map (·.size) = some mc.size) := ⟨by rw [HSZ.out]; kernel_rfl⟩
  obtain ⟨A3, c3, A4, c4, er, l3, g3, l4, g4⟩ := k35_open g
  have er' : rc = #[.string y.f0, .string y.f1, .string y.f2, .slice A3 y.f3.length c3, .slice A4 y.f4.length c4] := Array.toList_inj.1 er
  have HER := Aside0.mk er'
  have HG := Aside0.mk (And.intro l3 (And.intro g3 (And.intro l4 g4)))
  have HIR : Aside0 ((Tryz.prog.info? 35).map (·.size) = some rc.size) := ⟨by rw [er']; kernel_rfl⟩
  have HPX : Aside0 (∀ W, Below w.heap.size w W → Calls Tryz.prog 36 #[.agg rc] W fun e w' => e = .returned (.int .i64 (y.f3.length : Int)) ∧ Below W.heap.size W w') := ⟨fun W hB => by
    rw [er']
    exact residue_part_extra.calls y.f0 y.f1 y.f2 A3 c3 y.f3 A4 c4 y.f4 _ W (Kd.C_below g3 hB) l3 (Kd.C_below g4 hB) l4 rfl⟩
  have HPO : Aside0 (∀ W, Below w.heap.size w W → Calls Tryz.prog 38 #[.agg rc] W fun e w' => e = .returned (.int .i64 (y.f4.length : Int)) ∧ Below W.heap.size W w') := ⟨fun W hB => by
    rw [er']
    exact residue_part_other.calls y.f0 y.f1 y.f2 A3 c3 y.f3 A4 c4 y.f4 _ W (Kd.C_below g3 hB) l3 (Kd.C_below g4 hB) l4 rfl⟩
  clear h hr hy g er er' l3 g3 l4 g4
  go_enter Tryz.func11, Tryz.ntmps11
  go_upto_region 1 with fail
  obtain ⟨p, hp⟩ : ∃ p, p = w.heap.size := ⟨_, rfl⟩
  have J0 : (((w.alloc (.cells mc 29)).alloc (.cells rc 35)).alloc (.cells zeroM 29)).heap[w.heap.size]? = some (.cells mc 29 (0, 0)) ∧ (((w.alloc (.cells mc 29)).alloc (.cells rc 35)).alloc (.cells zeroM 29)).heap[w.heap.size + 1]? = some (.cells rc 35 (0, 0)) ∧ (((w.alloc (.cells mc 29)).alloc (.cells rc 35)).alloc (.cells zeroM 29)).heap[w.heap.size + 2]? = some (.cells zeroM 29 (0, 0)) ∧ (∀ n, n = w.heap.size → Below n w (((w.alloc (.cells mc 29)).alloc (.cells rc 35)).alloc (.cells zeroM 29))) := by
    refine ⟨blk_alloc (blk_alloc (blk_new w _) _) _, blk_alloc (blk_new2 w _ _) _, ?_, fun n hn => hn ▸ below_alloc (below_alloc (below_alloc (Below.refl _ w) _) _) _⟩
    have := blk_new ((w.alloc (.cells mc 29)).alloc (.cells rc 35)) (.cells zeroM 29)
    rw [show ((w.alloc (.cells mc 29)).alloc (.cells rc 35)).heap.size = w.heap.size + 2 by simp] at this
    exact this
  have HP : Aside0 (p = w.heap.size) := ⟨hp⟩
  rw [← hp] at J0 ⊢
  clear hp
  revert J0
  change _ → Code.wp _ _ _ _ (((w.alloc (.cells mc 29)).alloc (.cells rc 35)).alloc (.cells zeroM 29))
  generalize (((w.alloc (.cells mc 29)).alloc (.cells rc 35)).alloc (.cells zeroM 29)) = W0
  intro J0
  have HJ := Aside0.mk J0
  clear J0
  go_wp2_with ((with_reducible refine gate_dst (N := 5) rfl ?_); refine wpList_load_row rfl 29 (.tmp 2) rfl p rfl 29 mc (0, 0) _ HJ.out.1 hu29.out rfl HI.out ?_)
  refine (own_x x mc _ (k29.K_below (HJ.out.2.2.2 _ HP.out.symm) HX.out.1) HX.out.2).mono ?_
  rintro e w1 ⟨v16, v19, v20, rfl, G16, G19, G20, hB⟩
  obtain ⟨B16, d16, e16, -, -⟩ := id G16
  obtain ⟨B19, d19, e19, -, -⟩ := id G19
  obtain ⟨B20, d20, e20, -, -⟩ := id G20
  subst e16; subst e19; subst e20
  have HGL := Aside0.mk (And.intro G16 (And.intro G19 G20))
  have HB := Aside0.mk hB
  clear G16 G19 G20 hB
  go_upto_region 2 with ((with_reducible refine gate_store (t := 29) (p := 2) rfl ?_); refine Fill.store_event rfl 29 _ _ rfl p (rowM x (.slice B16 x.f15.length d16) (.slice B19 x.f18.length d19) (.slice B20 x.f19.length d20)) rfl rfl 29 mc (blk_below HJ.out.1 HB.out) (by kernel_rfl) (by rw [HSZ.out]; rfl) (rowM_one3 x rfl rfl rfl) ?_; intro w2 ea eb ec; have HS := Aside0.mk (And.intro ea (And.intro eb ec)); clear ea eb ec)
  have J2 : JJ w p W0.heap.size x B16 d16 B19 d19 B20 d20 rc w2 := by
    have hs := HS.out
    have hj := HJ.out
    have hl := blk_lt hj.2.2.1
    have hw := HB.out.size
    have kb : KB W0.heap.size w1 w2 := (KB.refl _ _).but (g := p) (by omega) hs.2.1
    exact ⟨hs.1, KeepBut.blk hs.2.1 (blk_below hj.2.1 HB.out) (by omega) (by simp), KeepBut.blk hs.2.1 (blk_below hj.2.2.1 HB.out) (by omega) (by simp), HGL.out.1.step kb, HGL.out.2.1.step kb, HGL.out.2.2.step kb, hs.2.2 _ _ (below_step (hj.2.2.2 _ HP.out.symm) HB.out) (by rw [HP.out]; exact Nat.le_refl _), by rw [HP.out]; exact Nat.le_refl _, hl, Nat.le_trans hw kb.1⟩
  have JX := Aside0.mk (J2.below (below_drew1 (Below.refl _ _)))
  clear J2 HS HGL HB
  refine start_ (n := 21) (ds := [16, 18, 20]) (S := fun w' => w'.cell? ⟨p + 1, 0, none⟩ = some (.string y.f0) ∧ w'.cell? ⟨p + 1, 1, none⟩ = some (.string y.f1) ∧ w'.cell? ⟨p + 1, 2, none⟩ = some (.string y.f2) ∧ w'.cell? ⟨p, 18, none⟩ = some (.string x.f17) ∧ w'.cell? ⟨p, 8, none⟩ = some (.string x.f8) ∧ w'.cell? ⟨p, 9, none⟩ = some (.string x.f9)) (V 21 0) (by rfl) (by rfl) (by kernel_rfl) (⟨(blk_cell JX.out.r 0).trans (by rw [HER.out]; rfl), (blk_cell JX.out.r 1).trans (by rw [HER.out]; rfl), (blk_cell JX.out.r 2).trans (by rw [HER.out]; rfl), (blk_cell JX.out.m 18).trans rfl, (blk_cell JX.out.m 8).trans rfl, (blk_cell JX.out.m 9).trans rfl⟩) (fun hHeld => ?_); refine with_tabW tab11_2 bits11_2 (fun HT_ HW_ => ?_)
  generalize w2.drew = wd at JX hHeld ⊢
  refine pure_ (i := 0) (N := some 7) (v := ?_) (a' := ?_) (V 21 1) rfl rfl (any_of HT_.out (by kernel_rfl)) (fun _ _ _ h => h) (Or.inl ⟨by rfl, ?_⟩) ?_ ?_; rotate_left
  · intro w'; go_simp; with_reducible rfl
  rotate_left
  · simp only [Act.put, List.setIfInBounds_toArray, List.set_cons_zero, List.set_cons_succ, i64_w, i32_w]; rfl
  refine take_ (i := 1) (N := some 8) (v := ?_) (a' := ?_) (V 21 3) rfl rfl (take_ofW HT_.out HW_.out (by kernel_rfl)) (fun _ _ _ h => h) (Or.inl ⟨by rfl, ?_⟩) hHeld ?_ ?_; rotate_left
  · rintro w' ⟨s0, s1, s2, s3, s4, s5⟩; go_simp; with_reducible rfl
  rotate_left
  · simp only [Act.put, List.setIfInBounds_toArray, List.set_cons_zero, List.set_cons_succ, i64_w, i32_w]; rfl
  refine pure_ (i := 2) (N := some 9) (v := ?_) (a' := ?_) (V 21 7) rfl rfl (any_of HT_.out (by kernel_rfl)) (fun _ _ _ h => h) (Or.inl ⟨by rfl, ?_⟩) ?_ ?_; rotate_left
  · intro w'; go_simp; with_reducible rfl
  rotate_left
  · simp only [Act.put, List.setIfInBounds_toArray, List.set_cons_zero, List.set_cons_succ, i64_w, i32_w]; rfl
  refine take_ (i := 3) (N := some 10) (v := ?_) (a' := ?_) (V 21 15) rfl rfl (take_ofW HT_.out HW_.out (by kernel_rfl)) (fun _ _ _ h => h) (Or.inl ⟨by rfl, ?_⟩) hHeld ?_ ?_; rotate_left
  · rintro w' ⟨s0, s1, s2, s3, s4, s5⟩; go_simp; with_reducible rfl
  rotate_left
  · simp only [Act.put, List.setIfInBounds_toArray, List.set_cons_zero, List.set_cons_succ, i64_w, i32_w]; rfl
  refine pure_ (i := 5) (N := some 12) (v := ?_) (a' := ?_) (V 21 47) rfl rfl (any_of HT_.out (by kernel_rfl)) (fun _ _ _ h => h) (Or.inl ⟨by rfl, ?_⟩) ?_ ?_; rotate_left
  · intro w'; go_simp; with_reducible rfl
  rotate_left
  · simp only [Act.put, List.setIfInBounds_toArray, List.set_cons_zero, List.set_cons_succ, i64_w, i32_w]; rfl
  refine take_ (i := 6) (N := some 13) (v := ?_) (a' := ?_) (V 21 111) rfl rfl (take_ofW HT_.out HW_.out (by kernel_rfl)) (fun _ _ _ h => h) (Or.inl ⟨by rfl, ?_⟩) hHeld ?_ ?_; rotate_left
  · rintro w' ⟨s0, s1, s2, s3, s4, s5⟩; go_simp; with_reducible rfl
  rotate_left
  · simp only [Act.put, List.setIfInBounds_toArray, List.set_cons_zero, List.set_cons_succ, i64_w, i32_w]; rfl
  refine pure_ (i := 7) (N := some 14) (v := ?_) (a' := ?_) (V 21 239) rfl rfl (any_of HT_.out (by kernel_rfl)) (fun _ _ _ h => h) (Or.inl ⟨by rfl, ?_⟩) ?_ ?_; rotate_left
  · intro w'; go_simp; with_reducible rfl
  rotate_left
  · simp only [Act.put, List.setIfInBounds_toArray, List.set_cons_zero, List.set_cons_succ, i64_w, i32_w]; rfl
  refine take_ (i := 8) (N := some 15) (v := ?_) (a' := ?_) (V 21 495) rfl rfl (take_ofW HT_.out HW_.out (by kernel_rfl)) (fun _ _ _ h => h) (Or.inl ⟨by rfl, ?_⟩) hHeld ?_ ?_; rotate_left
  · rintro w' ⟨s0, s1, s2, s3, s4, s5⟩; go_simp; with_reducible rfl
  rotate_left
  · simp only [Act.put, List.setIfInBounds_toArray, List.set_cons_zero, List.set_cons_succ, i64_w, i32_w]; rfl
  refine pure_ (i := 10) (N := some 17) (v := ?_) (a' := ?_) (V 21 1519) rfl rfl (any_of HT_.out (by kernel_rfl)) (fun _ _ _ h => h) (Or.inl ⟨by rfl, ?_⟩) ?_ ?_; rotate_left
  · intro w'; go_simp; with_reducible rfl
  rotate_left
  · simp only [Act.put, List.setIfInBounds_toArray, List.set_cons_zero, List.set_cons_succ, i64_w, i32_w]; rfl
  refine take_ (i := 11) (N := some 18) (v := ?_) (a' := ?_) (V 21 3567) rfl rfl (take_ofW HT_.out HW_.out (by kernel_rfl)) (fun _ _ _ h => h) (Or.inl ⟨by rfl, ?_⟩) hHeld ?_ ?_; rotate_left
  · rintro w' ⟨s0, s1, s2, s3, s4, s5⟩; go_simp; with_reducible rfl
  rotate_left
  · simp only [Act.put, List.setIfInBounds_toArray, List.set_cons_zero, List.set_cons_succ, i64_w, i32_w]; rfl
  refine pure_ (i := 12) (N := some 19) (v := ?_) (a' := ?_) (V 21 7663) rfl rfl (any_of HT_.out (by kernel_rfl)) (fun _ _ _ h => h) (Or.inl ⟨by rfl, ?_⟩) ?_ ?_; rotate_left
  · intro w'; go_simp; with_reducible rfl
  rotate_left
  · simp only [Act.put, List.setIfInBounds_toArray, List.set_cons_zero, List.set_cons_succ, i64_w, i32_w]; rfl
  refine take_ (i := 13) (N := some 20) (v := ?_) (a' := ?_) (V 21 15855) rfl rfl (take_ofW HT_.out HW_.out (by kernel_rfl)) (fun _ _ _ h => h) (Or.inl ⟨by rfl, ?_⟩) hHeld ?_ ?_; rotate_left
  · rintro w' ⟨s0, s1, s2, s3, s4, s5⟩; go_simp; with_reducible rfl
  rotate_left
  · simp only [Act.put, List.setIfInBounds_toArray, List.set_cons_zero, List.set_cons_succ, i64_w, i32_w]; rfl
  refine one_ (i := 4) (N := some 11) (V 21 15871) rfl rfl (one_of HT_.out (by kernel_rfl)) (by decide) (fun K hK => ?_)
  refine goes_ Tryz.func34 (by kernel_rfl) rfl #[.string y.f0, .string x.f17] (by rfl) rfl rfl (by (try simp only [List.map_toArray, List.map_cons, List.map_nil]); first | done | rfl) ?_
  with_reducible refine (or_e y.f0 x.f17 _).mono ?_
  rintro e w104 ⟨rfl, hd⟩
  refine ⟨_, rfl, ?_⟩
  have JY := Aside0.mk (JX.out.below hd.below); clear JX hHeld hd; have JX := JY; clear JY
  refine hK.out _ _ (⟨(blk_cell JX.out.r 0).trans (by rw [HER.out]; rfl), (blk_cell JX.out.r 1).trans (by rw [HER.out]; rfl), (blk_cell JX.out.r 2).trans (by rw [HER.out]; rfl), (blk_cell JX.out.m 18).trans rfl, (blk_cell JX.out.m 8).trans rfl, (blk_cell JX.out.m 9).trans rfl⟩) (fun hHeld => ?_)
  clear hK K
  refine norm_ (a' := ?_) ?_ ?_; rotate_left
  · show Act.put _ (some 11) _ = _; simp only [Act.put, List.setIfInBounds_toArray, List.set_cons_zero, List.set_cons_succ, i64_w, i32_w]; rfl
  refine pure_ (i := 15) (N := some 22) (v := ?_) (a' := ?_) (V 21 48639) rfl rfl (any_of HT_.out (by kernel_rfl)) (fun _ _ _ h => h) (Or.inl ⟨by rfl, ?_⟩) ?_ ?_; rotate_left
  · intro w'; go_simp; with_reducible rfl
  rotate_left
  · simp only [Act.put, List.setIfInBounds_toArray, List.set_cons_zero, List.set_cons_succ, i64_w, i32_w]; rfl
  refine one_ (i := 9) (N := some 16) (V 21 49151) rfl rfl (one_of HT_.out (by kernel_rfl)) (by decide) (fun K hK => ?_)
  refine goes_ Tryz.func35 (by kernel_rfl) rfl #[.string x.f8, .string y.f1] (by rfl) rfl rfl (by (try simp only [List.map_toArray, List.map_cons, List.map_nil]); first | done | rfl) ?_
  with_reducible refine (kn_e x.f8 y.f1 _).mono ?_
  rintro e w109 ⟨rfl, hd⟩
  refine ⟨_, rfl, ?_⟩
  have JY := Aside0.mk (JX.out.below hd.below); clear JX hHeld hd; have JX := JY; clear JY
  refine hK.out _ _ (⟨(blk_cell JX.out.r 0).trans (by rw [HER.out]; rfl), (blk_cell JX.out.r 1).trans (by rw [HER.out]; rfl), (blk_cell JX.out.r 2).trans (by rw [HER.out]; rfl), (blk_cell JX.out.m 18).trans rfl, (blk_cell JX.out.m 8).trans rfl, (blk_cell JX.out.m 9).trans rfl⟩) (fun hHeld => ?_)
  clear hK K
  refine norm_ (a' := ?_) ?_ ?_; rotate_left
  · show Act.put _ (some 16) _ = _; simp only [Act.put, List.setIfInBounds_toArray, List.set_cons_zero, List.set_cons_succ, i64_w, i32_w]; rfl
  refine one_ (i := 14) (N := some 21) (V 21 65535) rfl rfl (one_of HT_.out (by kernel_rfl)) (by decide) (fun K hK => ?_)
  refine goes_ Tryz.func35 (by kernel_rfl) rfl #[.string x.f9, .string y.f2] (by rfl) rfl rfl (by (try simp only [List.map_toArray, List.map_cons, List.map_nil]); first | done | rfl) ?_
  with_reducible refine (kn_e x.f9 y.f2 _).mono ?_
  rintro e w114 ⟨rfl, hd⟩
  refine ⟨_, rfl, ?_⟩
  have JY := Aside0.mk (JX.out.below hd.below); clear JX hHeld hd; have JX := JY; clear JY
  refine hK.out _ _ (⟨(blk_cell JX.out.r 0).trans (by rw [HER.out]; rfl), (blk_cell JX.out.r 1).trans (by rw [HER.out]; rfl), (blk_cell JX.out.r 2).trans (by rw [HER.out]; rfl), (blk_cell JX.out.m 18).trans rfl, (blk_cell JX.out.m 8).trans rfl, (blk_cell JX.out.m 9).trans rfl⟩) (fun hHeld => ?_)
  clear hK K
  refine norm_ (a' := ?_) ?_ ?_; rotate_left
  · show Act.put _ (some 21) _ = _; simp only [Act.put, List.setIfInBounds_toArray, List.set_cons_zero, List.set_cons_succ, i64_w, i32_w]; rfl
  obtain ⟨n0, hn0⟩ : ∃ n, n = orF y.f0 x.f17 := ⟨_, rfl⟩; obtain ⟨n1, hn1⟩ : ∃ n, n = lbF x.f8 y.f1 := ⟨_, rfl⟩; obtain ⟨n2, hn2⟩ : ∃ n, n = lbF x.f9 y.f2 := ⟨_, rfl⟩
  rw [← hn0, ← hn1, ← hn2]; have HN := Aside0.mk (And.intro hn0 (And.intro hn1 hn2)); clear hn0 hn1 hn2 hHeld
  have dq := (blk_cell JX.out.m 18).trans (show _ = some (Value.string x.f17) from rfl); have zq := blk_frozen JX.out.m 18
  refine last_ (i := 16) (N := none) (V 21 131071) rfl rfl (one_of HT_.out (by kernel_rfl)) (by decide) (fun K hK => ?_)
  refine skip_ (w1 := ?_) (by rfl) rfl ?_ ?_; rotate_left
  · go_simp
    rfl
  refine hK.out _ _ ?_
  clear hK K
  have JY := Aside0.mk (JX.out.set (z' := { x with f17 := n0 }) 18 (.string n0) rfl rfl JX.out.g19 JX.out.g20); clear JX dq zq; have JX := JY; clear JY
  refine pure_ (i := 17) (N := some 23) (v := ?_) (a' := ?_) (V 21 262143) rfl rfl (any_of HT_.out (by kernel_rfl)) (fun _ _ _ h => h) (Or.inl ⟨by rfl, ?_⟩) ?_ ?_; rotate_left
  · intro w'; go_simp; with_reducible rfl
  rotate_left
  · simp only [Act.put, List.setIfInBounds_toArray, List.set_cons_zero, List.set_cons_succ, i64_w, i32_w]; rfl
  have dq := (blk_cell JX.out.m 8).trans (show _ = some (Value.string x.f8) from rfl); have zq := blk_frozen JX.out.m 8
  refine last_ (i := 18) (N := none) (V 21 524287) rfl rfl (one_of HT_.out (by kernel_rfl)) (by decide) (fun K hK => ?_)
  refine skip_ (w1 := ?_) (by rfl) rfl ?_ ?_; rotate_left
  · go_simp
    rfl
  refine hK.out _ _ ?_
  clear hK K
  have JY := Aside0.mk (JX.out.set (z' := { x with f17 := n0, f8 := n1 }) 8 (.string n1) rfl rfl JX.out.g19 JX.out.g20); clear JX dq zq; have JX := JY; clear JY
  refine pure_ (i := 19) (N := some 24) (v := ?_) (a' := ?_) (V 21 1048575) rfl rfl (any_of HT_.out (by kernel_rfl)) (fun _ _ _ h => h) (Or.inl ⟨by rfl, ?_⟩) ?_ ?_; rotate_left
  · intro w'; go_simp; with_reducible rfl
  rotate_left
  · simp only [Act.put, List.setIfInBounds_toArray, List.set_cons_zero, List.set_cons_succ, i64_w, i32_w]; rfl
  have dq := (blk_cell JX.out.m 9).trans (show _ = some (Value.string x.f9) from rfl); have zq := blk_frozen JX.out.m 9
  refine last_ (i := 20) (N := none) (V 21 2097151) rfl rfl (one_of HT_.out (by kernel_rfl)) (by decide) (fun K hK => ?_)
  refine skip_ (w1 := ?_) (by rfl) rfl ?_ ?_; rotate_left
  · go_simp
    rfl
  refine hK.out _ _ ?_
  clear hK K
  have JY := Aside0.mk (JX.out.set (z' := { x with f17 := n0, f8 := n1, f9 := n2 }) 9 (.string n2) rfl rfl JX.out.g19 JX.out.g20); clear JX dq zq; have JX := JY; clear JY
  refine done_ (done_of HT_.out (by kernel_rfl)) ?_
  revert JX
  generalize World.setCell _ _ _ = W1
  intro JX
  obtain ⟨x1, hx1⟩ : ∃ z : S29, z = { x with f17 := n0, f8 := n1, f9 := n2 } := ⟨_, rfl⟩
  have JA : Aside0 (JJ w p W0.heap.size x1 B16 d16 B19 d19 B20 d20 rc W1) := ⟨by rw [hx1]; exact JX.out⟩
  have HX1 := Aside0.mk hx1
  clear JX hx1 HT_ HW_
  go_upto_region 3 with fail
  have BA := Aside0.mk JA.out.bel
  go_wp2_with ((with_reducible refine gate_dst (N := 25) rfl ?_); refine wpList_load_row rfl 35 (.tmp 3) rfl (p + 1) rfl 35 rc (0, 0) _ JA.out.r hu35.out rfl HIR.out ?_)
  refine (HPX.out _ BA.out).mono ?_
  rintro e w4 ⟨rfl, hB⟩
  have JB := Aside0.mk (JA.out.below hB)
  clear hB JA BA
  go_upto_if 27 with fail
  go_cut [] from 25 to 31 (fun wc => ∃ (C19 : Option Addr) (c19 : Nat), Aside0 (JJ w p W0.heap.size { x1 with f18 := (if 0 < y.f3.length then y.f3 else x1.f18) } B16 d16 C19 c19 B20 d20 rc wc))
  case first =>
    by_cases h3 : 0 < y.f3.length
    · have h3z : (0 : Int) < (y.f3.length : Int) := by omega
      have HC3 := Aside0.mk (Kd.C_below HG.out.2.1 JB.out.bel)
      have q3 := (blk_cell JB.out.r 3).trans (show _ = some (Value.slice A3 y.f3.length c3) by rw [HER.out]; rfl)
      have HIF : Aside0 ((if 0 < y.f3.length then y.f3 else x1.f18) = y.f3) := ⟨if_pos h3⟩
      go_wp2_with fail
      refine (api_Pair_37.calls A3 c3 y.f3 y.f3 _ HC3.out HG.out.1 (by unfold api_Pair_37.f; rw [if_pos HY.out.1])).mono ?_
      rintro e w5 ⟨v, rfl, hR, hB⟩
      have hg := gl_R hR
      obtain ⟨C19, e19, ev, -, -⟩ := id hg
      subst ev
      have JC := Aside0.mk (JB.out.below hB)
      have HGC := Aside0.mk (hg.low JB.out.lb)
      clear hR hB hg q3
      have dq := (blk_cell JC.out.m 19).trans (show _ = some (Value.slice B19 x1.f18.length d19) from rfl); have zq := blk_frozen JC.out.m 19
      go_wp2_with fail
      go_meet
      exact ⟨C19, e19, ⟨by rw [HIF.out]; exact JC.out.set (z' := { x1 with f18 := y.f3 }) 19 (.slice C19 y.f3.length e19) rfl rfl HGC.out JC.out.g20⟩⟩
    · have h3z : ¬ (0 : Int) < (y.f3.length : Int) := by omega
      have HIF : Aside0 ((if 0 < y.f3.length then y.f3 else x1.f18) = x1.f18) := ⟨if_neg h3⟩
      go_wp2_with fail
      go_meet
      exact ⟨B19, d19, ⟨by rw [HIF.out]; exact JB.out⟩⟩
  case rest =>
  obtain ⟨C19, c19, JC⟩ := hcut
  clear JB
  obtain ⟨x2, hx2⟩ : ∃ z : S29, z = { x1 with f18 := (if 0 < y.f3.length then y.f3 else x1.f18) } := ⟨_, rfl⟩
  rw [← hx2] at JC
  have HX2 := Aside0.mk hx2
  clear hx2
  have BA := Aside0.mk JC.out.bel
  go_wp2_with ((with_reducible refine gate_dst (N := 32) rfl ?_); refine wpList_load_row rfl 35 (.tmp 3) rfl (p + 1) rfl 35 rc (0, 0) _ JC.out.r hu35.out rfl HIR.out ?_)
  refine (HPO.out _ BA.out).mono ?_
  rintro e w5 ⟨rfl, hB⟩
  have JB := Aside0.mk (JC.out.below hB)
  clear hB JC BA
  go_upto_if 34 with fail
  go_cut [] from 32 to 38 (fun wc => ∃ (C20 : Option Addr) (c20 : Nat), Aside0 (JJ w p W0.heap.size { x2 with f19 := (if 0 < y.f4.length then y.f4 else x2.f19) } B16 d16 C19 c19 C20 c20 rc wc))
  case first =>
    by_cases h3 : 0 < y.f4.length
    · have h3z : (0 : Int) < (y.f4.length : Int) := by omega
      have HC3 := Aside0.mk (Kd.C_below HG.out.2.2.2 JB.out.bel)
      have q3 := (blk_cell JB.out.r 4).trans (show _ = some (Value.slice A4 y.f4.length c4) by rw [HER.out]; rfl)
      have HIF : Aside0 ((if 0 < y.f4.length then y.f4 else x2.f19) = y.f4) := ⟨if_pos h3⟩
      go_wp2_with fail
      refine (elements_x A4 c4 y.f4 _ HC3.out HY.out.2.1 HY.out.2.2).mono ?_
      rintro e w6 ⟨v, rfl, hR, hB⟩
      have hg := gl_S hR
      obtain ⟨C20, e20, ev, -, -⟩ := id hg
      subst ev
      have JC := Aside0.mk (JB.out.below hB)
      have HGC := Aside0.mk (hg.low JB.out.lb)
      clear hR hB hg q3
      have dq := (blk_cell JC.out.m 20).trans (show _ = some (Value.slice B20 x2.f19.length d20) from rfl); have zq := blk_frozen JC.out.m 20
      go_wp2_with fail
      go_meet
      exact ⟨C20, e20, ⟨by rw [HIF.out]; exact JC.out.set (z' := { x2 with f19 := y.f4 }) 20 (.slice C20 y.f4.length e20) rfl rfl JC.out.g19 HGC.out⟩⟩
    · have h3z : ¬ (0 : Int) < (y.f4.length : Int) := by omega
      have HIF : Aside0 ((if 0 < y.f4.length then y.f4 else x2.f19) = x2.f19) := ⟨if_neg h3⟩
      go_wp2_with fail
      go_meet
      exact ⟨B20, d20, ⟨by rw [HIF.out]; exact JB.out⟩⟩
  case rest =>
  obtain ⟨C20, c20, JC⟩ := hcut
  clear JB
  obtain ⟨x3, hx3⟩ : ∃ z : S29, z = { x2 with f19 := (if 0 < y.f4.length then y.f4 else x2.f19) } := ⟨_, rfl⟩
  rw [← hx3] at JC
  have HX3 : Aside0 (x3 = joinZ x y) := ⟨by rw [hx3, HX2.out, HX1.out, HN.out.1, HN.out.2.1, HN.out.2.2]; rfl⟩
  clear hx3
  obtain ⟨mz, hmz⟩ : ∃ m, m = rowM x3 (.slice B16 x3.f15.length d16) (.slice C19 x3.f18.length c19) (.slice C20 x3.f19.length c20) := ⟨_, rfl⟩
  have HMZ := Aside0.mk hmz
  have HIZ : Aside0 ((Tryz.prog.info? 29).map (·.size) = some mz.size ∧ mz.size = 21) := ⟨by rw [hmz]; exact ⟨info29m x3 _ _ _, rfl⟩⟩
  have JM : Aside0 (wc.heap[p]? = some (.cells mz 29 (0, 0))) := ⟨by rw [hmz]; exact JC.out.m⟩
  clear hmz
  go_wp2_with (first | ((with_reducible refine gate_dst (N := 39) rfl ?_); refine wpList_load_row rfl 29 (.tmp 2) rfl p rfl 29 mz (0, 0) _ JM.out hu29.out rfl HIZ.out.1 ?_) | ((with_reducible refine gate_store (t := 29) (p := 4) rfl ?_); refine Fill.store_event rfl 29 _ _ rfl (p + 1 + 1) mz rfl rfl 29 zeroM JC.out.o HIZ.out.1 (by rw [HIZ.out.2]; rfl) (by rw [HMZ.out]; exact rowM_one3 x3 rfl rfl rfl) ?_; intro w9 ea eb ec; have HE := Aside0.mk (And.intro ea (And.intro eb (ec _ _ JC.out.bel (by have := JC.out.lo; omega)))); clear ea eb ec))
  refine bodyPost_ret (results_cell_row (fn := Tryz.f11) (p := 4) (ty := 29) (by rfl) _ _ (p + 1 + 1) 29 mz (0, 0) _ (by rfl) HE.out.1 hu29.out rfl HIZ.out.1) rfl ?_
  have kb : KB W0.heap.size wc w9 := (KB.refl _ _).but (g := p + 1 + 1) (by have := JC.out.lt; omega) HE.out.2.1
  obtain ⟨m16, n16⟩ := gl_now JC.out.g16 kb
  obtain ⟨m19, n19⟩ := gl_now JC.out.g19 kb
  obtain ⟨m20, n20⟩ := gl_now JC.out.g20 kb
  refine ⟨mz, rfl, ?_, HE.out.2.2⟩
  rw [← HX3.out, HMZ.out]
  exact k29_mk w9 x3 m16 n16 m19 n19 m20 n20
end Go.Proofs.YthapknnppabdaaaGreat.MQ
namespace Go.Proofs.YthapknnppabdaaaGreat.MQ
open Go.RowKit Go.Proofs.YthapknnppabdaaaGreatW.PrintWords Go.Proofs.YthapknnppabdaaaGreatW.PrintLast Go.Proofs.YthapknnppabdaaaGreatW.PrintMore
attribute [local go_sem] max2_int min2_int max_two min_two max_three min_three max_four min_four   -- for this text's walks alone
set_option linter.unusedVariables false
set_option linter.unusedSimpArgs false

def comptoirhelp_Bytes.f (l0 : List Int) (l1 : List Int) : Option (Bool) := some ((strOfNums l0).toList == (strOfNums l1).toList)
set_option maxHeartbeats 8000000 in
set_option maxRecDepth 100000 in
theorem comptoirhelp_Bytes.calls (A0 : Option Addr) (c0 : Nat) (l0 : List Int) (A1 : Option Addr) (c1 : Nat) (l1 : List Int) (r : Bool) (w : World) (hr0 : Kd.C (Kd.int .u8) w A0 l0.length l0) (hc0 : l0.length ≤ c0) (hr1 : Kd.C (Kd.int .u8) w A1 l1.length l1) (hc1 : l1.length ≤ c1) (h : comptoirhelp_Bytes.f l0 l1 = some r) :
    Calls Tryz.prog 62 #[.slice A0 l0.length c0, .slice A1 l1.length c1] w fun e w' => e = .returned (.bool r) ∧ Drawn0 w w' := by
  have HR0 := Aside0.mk hr0
  have HC0 := Aside0.mk hc0
  clear hr0 hc0
  have HR1 := Aside0.mk hr1
  have HC1 := Aside0.mk hc1
  clear hr1 hc1
  have H : (some ((strOfNums l0).toList == (strOfNums l1).toList)) = some r := h
  clear h
  obtain rfl := Option.some.inj H
  simp only [Option.some.injEq, Prod.mk.injEq] at H
  obtain ⟨rfl⟩ := H
  have hcv3 := Kd.C_string (P := Tryz.prog) (A := A0) (c := c0) Tryz.underlying38 Tryz.underlying5 Tryz.underlying9 HR0.out
  have hcv4 := Kd.C_string (P := Tryz.prog) (A := A1) (c := c1) Tryz.underlying38 Tryz.underlying5 Tryz.underlying9 HR1.out
  go_enter Tryz.func62, Tryz.ntmps62
  go_wp2
  go_ret
  exact ⟨by first | rfl | (simp; done) | (simp [*]; done), by repeat (first | exact Drawn0.refl _ | apply Drawn0.step)⟩

def comptoirhelp_Tag.f (a0_0 : Int) (l0_1 : List Int) (a1_0 : Int) (l1_1 : List Int) : Option (Bool) := if a0_0 = a1_0 then ((comptoirhelp_Bytes.f l0_1 l1_1).bind fun t967 => (some t967)) else (some false)
set_option maxHeartbeats 8000000 in
set_option maxRecDepth 100000 in
theorem comptoirhelp_Tag.calls (a0_0 : Int) (A0_1 : Option Addr) (c0_1 : Nat) (l0_1 : List Int) (a1_0 : Int) (A1_1 : Option Addr) (c1_1 : Nat) (l1_1 : List Int) (r : Bool) (w : World) (hr0_1 : Kd.C (Kd.int .u8) w A0_1 l0_1.length l0_1) (hc0_1 : l0_1.length ≤ c0_1) (hr1_1 : Kd.C (Kd.int .u8) w A1_1 l1_1.length l1_1) (hc1_1 : l1_1.length ≤ c1_1) (h : comptoirhelp_Tag.f a0_0 l0_1 a1_0 l1_1 = some r) :
    Calls Tryz.prog 30 #[.agg #[.int .i64 a0_0, .slice A0_1 l0_1.length c0_1], .agg #[.int .i64 a1_0, .slice A1_1 l1_1.length c1_1]] w fun e w' => e = .returned (.bool r) ∧ Below w.heap.size w w' := by
  have hu46 := Tryz.underlying46
  have HR0_1 := Aside0.mk hr0_1
  have HC0_1 := Aside0.mk hc0_1
  clear hr0_1 hc0_1
  have HR1_1 := Aside0.mk hr1_1
  have HC1_1 := Aside0.mk hc1_1
  clear hr1_1 hc1_1
  have HB := Aside0.mk (Below.refl w.heap.size w)
  have H : (if a0_0 = a1_0 then ((comptoirhelp_Bytes.f l0_1 l1_1).bind fun t967 => (some t967)) else (some false)) = some r := h
  clear h
  by_cases c3 : a0_0 = a1_0
  · rw [if_pos c3] at H
    have c3b0 : (a0_0 == a1_0) = true := beq_iff_eq.mpr c3
    have c3b1 : (a0_0 != a1_0) = false := bne_eq_false_iff_eq.mpr c3
    clear c3
    replace H := Option.bind_eq_some_iff.mp H
    obtain ⟨t967, A40, H⟩ := H
    replace H : (some t967) = some r := H
    have A4 := Aside0.mk A40
    clear A40
    obtain rfl := Option.some.inj H
    simp only [Option.some.injEq, Prod.mk.injEq] at H
    obtain ⟨rfl⟩ := H
    go_enter Tryz.func30, Tryz.ntmps30
    go_wp2_with (first | ((with_reducible refine gate_dst (N := 2) rfl ?_); refine box_event ?hg (N := 2) ?hd (cs := #[.int .i64 a0_0, .slice A0_1 l0_1.length c0_1]) (t := 46) ?hr ?_; (case hd => rfl); (case hg => rfl); (case hr => first | (go_simp; done) | (go_simp; rfl) | (go_simp; simp only [show ∀ l_ : List UInt8, (l_ != []) = !l_.isEmpty from fun l_ => by cases l_ <;> rfl]; done)); intro gb965 hg w5 hbox hb; have n0_ := Aside0.mk (below_step (by repeat (first | (with_reducible first | exact HB.out | apply below_alloc | apply pw_below_drewN | apply below_drew1) | exact HB.out)) hb); have n1_ := Aside0.mk (hbox); have n2_ := Aside0.mk ((by rw [hg]; exact (below_size (by repeat (first | (with_reducible first | exact HB.out | apply below_alloc | apply pw_below_drewN | apply below_drew1) | exact HB.out))) : w.heap.size ≤ gb965)); have n3_ := Aside0.mk ((by rw [hg]; exact (below_size (by repeat (first | (with_reducible first | exact HB.out | apply below_alloc | apply pw_below_drewN | apply below_drew1) | exact HB.out))) : w.heap.size ≤ gb965)); clear HB; have HB := n0_; have BK965 := n1_; have GW965 := n2_; have GE965 := n3_; clear n0_ n1_ n2_ n3_; clear hb hbox hg) | ((with_reducible refine gate_dst (N := 3) rfl ?_); refine box_event ?hg (N := 3) ?hd (cs := #[.int .i64 a1_0, .slice A1_1 l1_1.length c1_1]) (t := 46) ?hr ?_; (case hd => rfl); (case hg => rfl); (case hr => first | (go_simp; done) | (go_simp; rfl) | (go_simp; simp only [show ∀ l_ : List UInt8, (l_ != []) = !l_.isEmpty from fun l_ => by cases l_ <;> rfl]; done)); intro gb966 hg w6 hbox hb; have n0_ := Aside0.mk (blk_below (g := gb965) (o := .cells #[.int .i64 a0_0, .slice A0_1 l0_1.length c0_1] 46 (0, 0)) (by (with_reducible repeat (first | refine blk_drewN ?_ _ | refine blk_drew ?_ | refine blk_alloc ?_ _)); exact BK965.out) hb); have n1_ := Aside0.mk (below_step (by repeat (first | (with_reducible first | exact HB.out | apply below_alloc | apply pw_below_drewN | apply below_drew1 | refine below_set ?_ GE965.out) | exact HB.out)) hb); have n2_ := Aside0.mk (hbox); have n3_ := Aside0.mk ((by rw [hg]; exact (below_size (by repeat (first | (with_reducible first | exact HB.out | apply below_alloc | apply pw_below_drewN | apply below_drew1 | refine below_set ?_ GE965.out) | exact HB.out))) : w.heap.size ≤ gb966)); have n4_ := Aside0.mk ((by rw [hg]; exact (below_size (by repeat (first | (with_reducible first | exact HB.out | apply below_alloc | apply pw_below_drewN | apply below_drew1 | refine below_set ?_ GE965.out) | exact HB.out))) : w.heap.size ≤ gb966)); have n5_ := Aside0.mk ((by rw [hg]; exact Nat.ne_of_lt (blk_lt (g := gb965) (o := .cells #[.int .i64 a0_0, .slice A0_1 l0_1.length c0_1] 46 (0, 0)) (by (with_reducible repeat (first | refine blk_drewN ?_ _ | refine blk_drew ?_ | refine blk_alloc ?_ _)); exact BK965.out)) : gb965 ≠ gb966)); have n6_ := Aside0.mk ((by rw [hg]; exact Nat.ne_of_gt (blk_lt (g := gb965) (o := .cells #[.int .i64 a0_0, .slice A0_1 l0_1.length c0_1] 46 (0, 0)) (by (with_reducible repeat (first | refine blk_drewN ?_ _ | refine blk_drew ?_ | refine blk_alloc ?_ _)); exact BK965.out)) : gb966 ≠ gb965)); clear BK965; clear HB; have BK965 := n0_; have HB := n1_; have BK966 := n2_; have GW966 := n3_; have GE966 := n4_; have NB965_966 := n5_; have NB966_965 := n6_; clear n0_ n1_ n2_ n3_ n4_ n5_ n6_; clear hb hbox hg; have hnb7 := NB965_966.out; have hnc7 := NB966_965.out; have hcz8_0 : w6.cell? ⟨gb965, 0, none⟩ = some (.int .i64 a0_0) := (blk_cell BK965.out 0).trans rfl; have hcz8_1 : w6.cell? ⟨gb965, 1, none⟩ = some (.slice A0_1 l0_1.length c0_1) := (blk_cell BK965.out 1).trans rfl; have hfz8_0 := blk_frozen BK965.out 0; have hfz8_1 := blk_frozen BK965.out 1; have hcz9_0 : w6.cell? ⟨gb966, 0, none⟩ = some (.int .i64 a1_0) := (blk_cell BK966.out 0).trans rfl; have hcz9_1 : w6.cell? ⟨gb966, 1, none⟩ = some (.slice A1_1 l1_1.length c1_1) := (blk_cell BK966.out 1).trans rfl; have hfz9_0 := blk_frozen BK966.out 0; have hfz9_1 := blk_frozen BK966.out 1) | (go_at_call 62; (with_reducible refine (comptoirhelp_Bytes.calls _ _ l0_1 _ _ l1_1 t967 _ ?side1 ?side2 ?side3 ?side4 A4.out).mono ?_); (case side1 => repeat (first | exact (Kd.C_below HR0_1.out HB.out) | (with_reducible refine Kd.C_alloc ?_ _) | (with_reducible refine Kd.C_drewN ?_ _) | (with_reducible refine Kd.C_drew ?_))); (case side2 => exact HC0_1.out); (case side3 => repeat (first | exact (Kd.C_below HR1_1.out HB.out) | (with_reducible refine Kd.C_alloc ?_ _) | (with_reducible refine Kd.C_drewN ?_ _) | (with_reducible refine Kd.C_drew ?_))); (case side4 => exact HC1_1.out); rintro e w' ⟨rfl, ⟨nd, rfl⟩⟩))
    go_ret
    exact ⟨by first | rfl | (simp [errW_none, errW_some] <;> rfl) | (simp [*, errW_none, errW_some] <;> rfl), by repeat (first | (with_reducible first | exact HB.out | apply below_alloc | apply pw_below_drewN | apply below_drew1 | refine below_set ?_ GE965.out | refine below_set ?_ GE966.out) | exact HB.out)⟩
  · rw [if_neg c3] at H
    have c3b0 : (a0_0 == a1_0) = false := beq_eq_false_iff_ne.mpr c3
    have c3b1 : (a0_0 != a1_0) = true := bne_iff_ne.mpr c3
    obtain rfl := Option.some.inj H
    simp only [Option.some.injEq, Prod.mk.injEq] at H
    obtain ⟨rfl⟩ := H
    go_enter Tryz.func30, Tryz.ntmps30
    go_wp2_with (first | ((with_reducible refine gate_dst (N := 2) rfl ?_); refine box_event ?hg (N := 2) ?hd (cs := #[.int .i64 a0_0, .slice A0_1 l0_1.length c0_1]) (t := 46) ?hr ?_; (case hd => rfl); (case hg => rfl); (case hr => first | (go_simp; done) | (go_simp; rfl) | (go_simp; simp only [show ∀ l_ : List UInt8, (l_ != []) = !l_.isEmpty from fun l_ => by cases l_ <;> rfl]; done)); intro gb965 hg w10 hbox hb; have n0_ := Aside0.mk (below_step (by repeat (first | (with_reducible first | exact HB.out | apply below_alloc | apply pw_below_drewN | apply below_drew1) | exact HB.out)) hb); have n1_ := Aside0.mk (hbox); have n2_ := Aside0.mk ((by rw [hg]; exact (below_size (by repeat (first | (with_reducible first | exact HB.out | apply below_alloc | apply pw_below_drewN | apply below_drew1) | exact HB.out))) : w.heap.size ≤ gb965)); have n3_ := Aside0.mk ((by rw [hg]; exact (below_size (by repeat (first | (with_reducible first | exact HB.out | apply below_alloc | apply pw_below_drewN | apply below_drew1) | exact HB.out))) : w.heap.size ≤ gb965)); clear HB; have HB := n0_; have BK965 := n1_; have GW965 := n2_; have GE965 := n3_; clear n0_ n1_ n2_ n3_; clear hb hbox hg) | ((with_reducible refine gate_dst (N := 3) rfl ?_); refine box_event ?hg (N := 3) ?hd (cs := #[.int .i64 a1_0, .slice A1_1 l1_1.length c1_1]) (t := 46) ?hr ?_; (case hd => rfl); (case hg => rfl); (case hr => first | (go_simp; done) | (go_simp; rfl) | (go_simp; simp only [show ∀ l_ : List UInt8, (l_ != []) = !l_.isEmpty from fun l_ => by cases l_ <;> rfl]; done)); intro gb966 hg w11 hbox hb; have n0_ := Aside0.mk (blk_below (g := gb965) (o := .cells #[.int .i64 a0_0, .slice A0_1 l0_1.length c0_1] 46 (0, 0)) (by (with_reducible repeat (first | refine blk_drewN ?_ _ | refine blk_drew ?_ | refine blk_alloc ?_ _)); exact BK965.out) hb); have n1_ := Aside0.mk (below_step (by repeat (first | (with_reducible first | exact HB.out | apply below_alloc | apply pw_below_drewN | apply below_drew1 | refine below_set ?_ GE965.out) | exact HB.out)) hb); have n2_ := Aside0.mk (hbox); have n3_ := Aside0.mk ((by rw [hg]; exact (below_size (by repeat (first | (with_reducible first | exact HB.out | apply below_alloc | apply pw_below_drewN | apply below_drew1 | refine below_set ?_ GE965.out) | exact HB.out))) : w.heap.size ≤ gb966)); have n4_ := Aside0.mk ((by rw [hg]; exact (below_size (by repeat (first | (with_reducible first | exact HB.out | apply below_alloc | apply pw_below_drewN | apply below_drew1 | refine below_set ?_ GE965.out) | exact HB.out))) : w.heap.size ≤ gb966)); have n5_ := Aside0.mk ((by rw [hg]; exact Nat.ne_of_lt (blk_lt (g := gb965) (o := .cells #[.int .i64 a0_0, .slice A0_1 l0_1.length c0_1] 46 (0, 0)) (by (with_reducible repeat (first | refine blk_drewN ?_ _ | refine blk_drew ?_ | refine blk_alloc ?_ _)); exact BK965.out)) : gb965 ≠ gb966)); have n6_ := Aside0.mk ((by rw [hg]; exact Nat.ne_of_gt (blk_lt (g := gb965) (o := .cells #[.int .i64 a0_0, .slice A0_1 l0_1.length c0_1] 46 (0, 0)) (by (with_reducible repeat (first | refine blk_drewN ?_ _ | refine blk_drew ?_ | refine blk_alloc ?_ _)); exact BK965.out)) : gb966 ≠ gb965)); clear BK965; clear HB; have BK965 := n0_; have HB := n1_; have BK966 := n2_; have GW966 := n3_; have GE966 := n4_; have NB965_966 := n5_; have NB966_965 := n6_; clear n0_ n1_ n2_ n3_ n4_ n5_ n6_; clear hb hbox hg; have hnb12 := NB965_966.out; have hnc12 := NB966_965.out; have hcz13_0 : w11.cell? ⟨gb965, 0, none⟩ = some (.int .i64 a0_0) := (blk_cell BK965.out 0).trans rfl; have hcz13_1 : w11.cell? ⟨gb965, 1, none⟩ = some (.slice A0_1 l0_1.length c0_1) := (blk_cell BK965.out 1).trans rfl; have hfz13_0 := blk_frozen BK965.out 0; have hfz13_1 := blk_frozen BK965.out 1; have hcz14_0 : w11.cell? ⟨gb966, 0, none⟩ = some (.int .i64 a1_0) := (blk_cell BK966.out 0).trans rfl; have hcz14_1 : w11.cell? ⟨gb966, 1, none⟩ = some (.slice A1_1 l1_1.length c1_1) := (blk_cell BK966.out 1).trans rfl; have hfz14_0 := blk_frozen BK966.out 0; have hfz14_1 := blk_frozen BK966.out 1))
    go_ret
    exact ⟨by first | rfl | (simp [errW_none, errW_some] <;> rfl) | (simp [*, errW_none, errW_some] <;> rfl), by repeat (first | (with_reducible first | exact HB.out | apply below_alloc | apply pw_below_drewN | apply below_drew1 | refine below_set ?_ GE965.out | refine below_set ?_ GE966.out) | exact HB.out)⟩

def comptoirhelp_Element.f (a0_0 : Int) (l0_1 : List Int) (a1_0 : Int) (l1_1 : List Int) : Option (Bool) := if a0_0 = a1_0 then ((comptoirhelp_Bytes.f l0_1 l1_1).bind fun t970 => (some t970)) else (some false)
set_option maxHeartbeats 8000000 in
set_option maxRecDepth 100000 in
theorem comptoirhelp_Element.calls (a0_0 : Int) (A0_1 : Option Addr) (c0_1 : Nat) (l0_1 : List Int) (a1_0 : Int) (A1_1 : Option Addr) (c1_1 : Nat) (l1_1 : List Int) (r : Bool) (w : World) (hr0_1 : Kd.C (Kd.int .u8) w A0_1 l0_1.length l0_1) (hc0_1 : l0_1.length ≤ c0_1) (hr1_1 : Kd.C (Kd.int .u8) w A1_1 l1_1.length l1_1) (hc1_1 : l1_1.length ≤ c1_1) (h : comptoirhelp_Element.f a0_0 l0_1 a1_0 l1_1 = some r) :
    Calls Tryz.prog 33 #[.agg #[.int .i64 a0_0, .slice A0_1 l0_1.length c0_1], .agg #[.int .i64 a1_0, .slice A1_1 l1_1.length c1_1]] w fun e w' => e = .returned (.bool r) ∧ Below w.heap.size w w' := by
  have hu50 := Tryz.underlying50
  have HR0_1 := Aside0.mk hr0_1
  have HC0_1 := Aside0.mk hc0_1
  clear hr0_1 hc0_1
  have HR1_1 := Aside0.mk hr1_1
  have HC1_1 := Aside0.mk hc1_1
  clear hr1_1 hc1_1
  have HB := Aside0.mk (Below.refl w.heap.size w)
  have H : (if a0_0 = a1_0 then ((comptoirhelp_Bytes.f l0_1 l1_1).bind fun t970 => (some t970)) else (some false)) = some r := h
  clear h
  by_cases c3 : a0_0 = a1_0
  · rw [if_pos c3] at H
    have c3b0 : (a0_0 == a1_0) = true := beq_iff_eq.mpr c3
    have c3b1 : (a0_0 != a1_0) = false := bne_eq_false_iff_eq.mpr c3
    clear c3
    replace H := Option.bind_eq_some_iff.mp H
    obtain ⟨t970, A40, H⟩ := H
    replace H : (some t970) = some r := H
    have A4 := Aside0.mk A40
    clear A40
    obtain rfl := Option.some.inj H
    simp only [Option.some.injEq, Prod.mk.injEq] at H
    obtain ⟨rfl⟩ := H
    go_enter Tryz.func33, Tryz.ntmps33
    go_wp2_with (first | ((with_reducible refine gate_dst (N := 2) rfl ?_); refine box_event ?hg (N := 2) ?hd (cs := #[.int .i64 a0_0, .slice A0_1 l0_1.length c0_1]) (t := 50) ?hr ?_; (case hd => rfl); (case hg => rfl); (case hr => first | (go_simp; done) | (go_simp; rfl) | (go_simp; simp only [show ∀ l_ : List UInt8, (l_ != []) = !l_.isEmpty from fun l_ => by cases l_ <;> rfl]; done)); intro gb968 hg w5 hbox hb; have n0_ := Aside0.mk (below_step (by repeat (first | (with_reducible first | exact HB.out | apply below_alloc | apply pw_below_drewN | apply below_drew1) | exact HB.out)) hb); have n1_ := Aside0.mk (hbox); have n2_ := Aside0.mk ((by rw [hg]; exact (below_size (by repeat (first | (with_reducible first | exact HB.out | apply below_alloc | apply pw_below_drewN | apply below_drew1) | exact HB.out))) : w.heap.size ≤ gb968)); have n3_ := Aside0.mk ((by rw [hg]; exact (below_size (by repeat (first | (with_reducible first | exact HB.out | apply below_alloc | apply pw_below_drewN | apply below_drew1) | exact HB.out))) : w.heap.size ≤ gb968)); clear HB; have HB := n0_; have BK968 := n1_; have GW968 := n2_; have GE968 := n3_; clear n0_ n1_ n2_ n3_; clear hb hbox hg) | ((with_reducible refine gate_dst (N := 3) rfl ?_); refine box_event ?hg (N := 3) ?hd (cs := #[.int .i64 a1_0, .slice A1_1 l1_1.length c1_1]) (t := 50) ?hr ?_; (case hd => rfl); (case hg => rfl); (case hr => first | (go_simp; done) | (go_simp; rfl) | (go_simp; simp only [show ∀ l_ : List UInt8, (l_ != []) = !l_.isEmpty from fun l_ => by cases l_ <;> rfl]; done)); intro gb969 hg w6 hbox hb; have n0_ := Aside0.mk (blk_below (g := gb968) (o := .cells #[.int .i64 a0_0, .slice A0_1 l0_1.length c0_1] 50 (0, 0)) (by (with_reducible repeat (first | refine blk_drewN ?_ _ | refine blk_drew ?_ | refine blk_alloc ?_ _)); exact BK968.out) hb); have n1_ := Aside0.mk (below_step (by repeat (first | (with_reducible first | exact HB.out | apply below_alloc | apply pw_below_drewN | apply below_drew1 | refine below_set ?_ GE968.out) | exact HB.out)) hb); have n2_ := Aside0.mk (hbox); have n3_ := Aside0.mk ((by rw [hg]; exact (below_size (by repeat (first | (with_reducible first | exact HB.out | apply below_alloc | apply pw_below_drewN | apply below_drew1 | refine below_set ?_ GE968.out) | exact HB.out))) : w.heap.size ≤ gb969)); have n4_ := Aside0.mk ((by rw [hg]; exact (below_size (by repeat (first | (with_reducible first | exact HB.out | apply below_alloc | apply pw_below_drewN | apply below_drew1 | refine below_set ?_ GE968.out) | exact HB.out))) : w.heap.size ≤ gb969)); have n5_ := Aside0.mk ((by rw [hg]; exact Nat.ne_of_lt (blk_lt (g := gb968) (o := .cells #[.int .i64 a0_0, .slice A0_1 l0_1.length c0_1] 50 (0, 0)) (by (with_reducible repeat (first | refine blk_drewN ?_ _ | refine blk_drew ?_ | refine blk_alloc ?_ _)); exact BK968.out)) : gb968 ≠ gb969)); have n6_ := Aside0.mk ((by rw [hg]; exact Nat.ne_of_gt (blk_lt (g := gb968) (o := .cells #[.int .i64 a0_0, .slice A0_1 l0_1.length c0_1] 50 (0, 0)) (by (with_reducible repeat (first | refine blk_drewN ?_ _ | refine blk_drew ?_ | refine blk_alloc ?_ _)); exact BK968.out)) : gb969 ≠ gb968)); clear BK968; clear HB; have BK968 := n0_; have HB := n1_; have BK969 := n2_; have GW969 := n3_; have GE969 := n4_; have NB968_969 := n5_; have NB969_968 := n6_; clear n0_ n1_ n2_ n3_ n4_ n5_ n6_; clear hb hbox hg; have hnb7 := NB968_969.out; have hnc7 := NB969_968.out; have hcz8_0 : w6.cell? ⟨gb968, 0, none⟩ = some (.int .i64 a0_0) := (blk_cell BK968.out 0).trans rfl; have hcz8_1 : w6.cell? ⟨gb968, 1, none⟩ = some (.slice A0_1 l0_1.length c0_1) := (blk_cell BK968.out 1).trans rfl; have hfz8_0 := blk_frozen BK968.out 0; have hfz8_1 := blk_frozen BK968.out 1; have hcz9_0 : w6.cell? ⟨gb969, 0, none⟩ = some (.int .i64 a1_0) := (blk_cell BK969.out 0).trans rfl; have hcz9_1 : w6.cell? ⟨gb969, 1, none⟩ = some (.slice A1_1 l1_1.length c1_1) := (blk_cell BK969.out 1).trans rfl; have hfz9_0 := blk_frozen BK969.out 0; have hfz9_1 := blk_frozen BK969.out 1) | (go_at_call 62; (with_reducible refine (comptoirhelp_Bytes.calls _ _ l0_1 _ _ l1_1 t970 _ ?side1 ?side2 ?side3 ?side4 A4.out).mono ?_); (case side1 => repeat (first | exact (Kd.C_below HR0_1.out HB.out) | (with_reducible refine Kd.C_alloc ?_ _) | (with_reducible refine Kd.C_drewN ?_ _) | (with_reducible refine Kd.C_drew ?_))); (case side2 => exact HC0_1.out); (case side3 => repeat (first | exact (Kd.C_below HR1_1.out HB.out) | (with_reducible refine Kd.C_alloc ?_ _) | (with_reducible refine Kd.C_drewN ?_ _) | (with_reducible refine Kd.C_drew ?_))); (case side4 => exact HC1_1.out); rintro e w' ⟨rfl, ⟨nd, rfl⟩⟩))
    go_ret
    exact ⟨by first | rfl | (simp [errW_none, errW_some] <;> rfl) | (simp [*, errW_none, errW_some] <;> rfl), by repeat (first | (with_reducible first | exact HB.out | apply below_alloc | apply pw_below_drewN | apply below_drew1 | refine below_set ?_ GE968.out | refine below_set ?_ GE969.out) | exact HB.out)⟩
  · rw [if_neg c3] at H
    have c3b0 : (a0_0 == a1_0) = false := beq_eq_false_iff_ne.mpr c3
    have c3b1 : (a0_0 != a1_0) = true := bne_iff_ne.mpr c3
    obtain rfl := Option.some.inj H
    simp only [Option.some.injEq, Prod.mk.injEq] at H
    obtain ⟨rfl⟩ := H
    go_enter Tryz.func33, Tryz.ntmps33
    go_wp2_with (first | ((with_reducible refine gate_dst (N := 2) rfl ?_); refine box_event ?hg (N := 2) ?hd (cs := #[.int .i64 a0_0, .slice A0_1 l0_1.length c0_1]) (t := 50) ?hr ?_; (case hd => rfl); (case hg => rfl); (case hr => first | (go_simp; done) | (go_simp; rfl) | (go_simp; simp only [show ∀ l_ : List UInt8, (l_ != []) = !l_.isEmpty from fun l_ => by cases l_ <;> rfl]; done)); intro gb968 hg w10 hbox hb; have n0_ := Aside0.mk (below_step (by repeat (first | (with_reducible first | exact HB.out | apply below_alloc | apply pw_below_drewN | apply below_drew1) | exact HB.out)) hb); have n1_ := Aside0.mk (hbox); have n2_ := Aside0.mk ((by rw [hg]; exact (below_size (by repeat (first | (with_reducible first | exact HB.out | apply below_alloc | apply pw_below_drewN | apply below_drew1) | exact HB.out))) : w.heap.size ≤ gb968)); have n3_ := Aside0.mk ((by rw [hg]; exact (below_size (by repeat (first | (with_reducible first | exact HB.out | apply below_alloc | apply pw_below_drewN | apply below_drew1) | exact HB.out))) : w.heap.size ≤ gb968)); clear HB; have HB := n0_; have BK968 := n1_; have GW968 := n2_; have GE968 := n3_; clear n0_ n1_ n2_ n3_; clear hb hbox hg) | ((with_reducible refine gate_dst (N := 3) rfl ?_); refine box_event ?hg (N := 3) ?hd (cs := #[.int .i64 a1_0, .slice A1_1 l1_1.length c1_1]) (t := 50) ?hr ?_; (case hd => rfl); (case hg => rfl); (case hr => first | (go_simp; done) | (go_simp; rfl) | (go_simp; simp only [show ∀ l_ : List UInt8, (l_ != []) = !l_.isEmpty from fun l_ => by cases l_ <;> rfl]; done)); intro gb969 hg w11 hbox hb; have n0_ := Aside0.mk (blk_below (g := gb968) (o := .cells #[.int .i64 a0_0, .slice A0_1 l0_1.length c0_1] 50 (0, 0)) (by (with_reducible repeat (first | refine blk_drewN ?_ _ | refine blk_drew ?_ | refine blk_alloc ?_ _)); exact BK968.out) hb); have n1_ := Aside0.mk (below_step (by repeat (first | (with_reducible first | exact HB.out | apply below_alloc | apply pw_below_drewN | apply below_drew1 | refine below_set ?_ GE968.out) | exact HB.out)) hb); have n2_ := Aside0.mk (hbox); have n3_ := Aside0.mk ((by rw [hg]; exact (below_size (by repeat (first | (with_reducible first | exact HB.out | apply below_alloc | apply pw_below_drewN | apply below_drew1 | refine below_set ?_ GE968.out) | exact HB.out))) : w.heap.size ≤ gb969)); have n4_ := Aside0.mk ((by rw [hg]; exact (below_size (by repeat (first | (with_reducible first | exact HB.out | apply below_alloc | apply pw_below_drewN | apply below_drew1 | refine below_set ?_ GE968.out) | exact HB.out))) : w.heap.size ≤ gb969)); have n5_ := Aside0.mk ((by rw [hg]; exact Nat.ne_of_lt (blk_lt (g := gb968) (o := .cells #[.int .i64 a0_0, .slice A0_1 l0_1.length c0_1] 50 (0, 0)) (by (with_reducible repeat (first | refine blk_drewN ?_ _ | refine blk_drew ?_ | refine blk_alloc ?_ _)); exact BK968.out)) : gb968 ≠ gb969)); have n6_ := Aside0.mk ((by rw [hg]; exact Nat.ne_of_gt (blk_lt (g := gb968) (o := .cells #[.int .i64 a0_0, .slice A0_1 l0_1.length c0_1] 50 (0, 0)) (by (with_reducible repeat (first | refine blk_drewN ?_ _ | refine blk_drew ?_ | refine blk_alloc ?_ _)); exact BK968.out)) : gb969 ≠ gb968)); clear BK968; clear HB; have BK968 := n0_; have HB := n1_; have BK969 := n2_; have GW969 := n3_; have GE969 := n4_; have NB968_969 := n5_; have NB969_968 := n6_; clear n0_ n1_ n2_ n3_ n4_ n5_ n6_; clear hb hbox hg; have hnb12 := NB968_969.out; have hnc12 := NB969_968.out; have hcz13_0 : w11.cell? ⟨gb968, 0, none⟩ = some (.int .i64 a0_0) := (blk_cell BK968.out 0).trans rfl; have hcz13_1 : w11.cell? ⟨gb968, 1, none⟩ = some (.slice A0_1 l0_1.length c0_1) := (blk_cell BK968.out 1).trans rfl; have hfz13_0 := blk_frozen BK968.out 0; have hfz13_1 := blk_frozen BK968.out 1; have hcz14_0 : w11.cell? ⟨gb969, 0, none⟩ = some (.int .i64 a1_0) := (blk_cell BK969.out 0).trans rfl; have hcz14_1 : w11.cell? ⟨gb969, 1, none⟩ = some (.slice A1_1 l1_1.length c1_1) := (blk_cell BK969.out 1).trans rfl; have hfz14_0 := blk_frozen BK969.out 0; have hfz14_1 := blk_frozen BK969.out 1))
    go_ret
    exact ⟨by first | rfl | (simp [errW_none, errW_some] <;> rfl) | (simp [*, errW_none, errW_some] <;> rfl), by repeat (first | (with_reducible first | exact HB.out | apply below_alloc | apply pw_below_drewN | apply below_drew1 | refine below_set ?_ GE968.out | refine below_set ?_ GE969.out) | exact HB.out)⟩

end Go.Proofs.YthapknnppabdaaaGreat.MQ
