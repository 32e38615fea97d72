/- ResidueBack: part 21 of its proof. -/
import Derived.Test.YthapknnppabdaaaGreatZ18
import Derived.Test.YthapknnppabdaaaGreatZ19
import Derived.Test.YthapknnppabdaaaGreatZ20
namespace Go.Proofs.YthapknnppabdaaaGreat.MQ
open Go.RowKit Go.Proofs.YthapknnppabdaaaGreatW.PrintWords Go.Proofs.YthapknnppabdaaaGreatW.PrintLast Go.Proofs.YthapknnppabdaaaGreatW.PrintMore
set_option linter.unusedVariables false
set_option linter.unusedSimpArgs false
/-- What a message that comes in is: within the reach. -/
structure MsgIn (x : S29) : Prop where
  s2 : x.f2.size ≤ 140737488355328
  s3 : x.f3.size ≤ 140737488355328
  s4 : x.f4.size ≤ 140737488355328
  s5 : x.f5.size ≤ 140737488355328
  s7 : x.f7.size ≤ 140737488355328
  s8 : x.f8.size ≤ 140737488355328
  s9 : x.f9.size ≤ 140737488355328
  s10 : x.f10.size ≤ 140737488355328
  s12 : x.f12.size ≤ 140737488355328
  s13 : x.f13.size ≤ 140737488355328
  s14 : x.f14.f1.size ≤ 140737488355328
  s16 : x.f16.size ≤ 140737488355328
  s17 : x.f17.size ≤ 140737488355328
  l15 : x.f15.length ≤ 140737488355328
  d15 : ∀ t ∈ x.f15, t.f1.length ≤ 140737488355328 ∧ ByIn t.f1
  a6 : 0 ≤ x.f6 ∧ x.f6 < 18446744073709551616
  l18 : x.f18.length ≤ 140737488355328
  d18 : ∀ t ∈ x.f18, t.f0.size ≤ 140737488355328 ∧ t.f1.size ≤ 140737488355328
  l19 : x.f19.length ≤ 140737488355328
  d19 : ∀ t ∈ x.f19, t.f1.length ≤ 140737488355328
/-- The message that is made in block p, the one that came in behind it, then the answer's place. -/
structure MV (w : World) (p : Nat) (x : S29) (v16 v19 v20 : Value) (mc : Array Value) (W : World) : Prop where
  b : W.heap[p]? = some (.cells (rowM x v16 v19 v20) 29 (0, 0))
  m : W.heap[p + 1]? = some (.cells mc 29 (0, 0))
  r : ∃ old, W.heap[p + 2]? = some (.cells old 29 (0, 0)) ∧ old.size = 21
  bel : Below w.heap.size w W
  lo : w.heap.size ≤ p
theorem MV.below {w : World} {p : Nat} {x : S29} {v16 v19 v20 : Value} {mc : Array Value} {W W' : World} (h : MV w p x v16 v19 v20 mc W) (hb : Below W.heap.size W W') : MV w p x v16 v19 v20 mc W' := by
  obtain ⟨old, ho, hs⟩ := h.r
  exact ⟨blk_below h.b hb, blk_below h.m hb, ⟨old, blk_below ho hb, hs⟩, below_step h.bel hb, h.lo⟩
theorem MV.set {w : World} {p : Nat} {x x' : S29} {v16 v19 v20 v16' v19' v20' : Value} {mc : Array Value} {W : World} (h : MV w p x v16 v19 v20 mc W) (i : Nat) (v : Value)
    (hr : (rowM x v16 v19 v20).setIfInBounds i v = rowM x' v16' v19' v20') : MV w p x' v16' v19' v20' mc (W.setCell ⟨p, i, none⟩ v) := by
  obtain ⟨old, ho, hs⟩ := h.r
  have f : ∀ n, (W.setCell ⟨p, i, none⟩ v).heap[p + (n + 1)]? = W.heap[p + (n + 1)]? := fun n => Below.heap_setCell _ _ _ _ (by show p + (n + 1) ≠ p; omega)
  exact ⟨by rw [← hr]; exact blk_set h.b _ _, (f 0).trans h.m, ⟨old, (f 1).trans ho, hs⟩, below_set h.bel h.lo, h.lo⟩
theorem MV.grown {w : World} {p : Nat} {x : S29} {v16 v19 v20 : Value} {mc : Array Value} {W W' : World} {row : Option Nat} (h : MV w p x v16 v19 v20 mc W) (hg : W.grownBy W' row) (hb : Below w.heap.size w W')
    (hn : ∀ (g : Nat) (cs : Array Value), W.heap[g]? = some (.cells cs 29 (0, 0)) → some g ≠ row) : MV w p x v16 v19 v20 mc W' := by
  obtain ⟨old, ho, hs⟩ := h.r
  exact ⟨(hg.block p (blk_lt h.b) (hn _ _ h.b)).trans h.b, (hg.block _ (blk_lt h.m) (hn _ _ h.m)).trans h.m, ⟨old, (hg.block _ (blk_lt ho) (hn _ _ ho)).trans ho, hs⟩, hb, h.lo⟩
theorem rowM_one (x : S29) {v16 : Value} {B19 : Option Addr} {n19 d19 : Nat} {B20 : Option Addr} {n20 d20 : Nat} (h : v16.oneCell' = true) : (rowM x v16 (.slice B19 n19 d19) (.slice B20 n20 d20)).all (·.oneCell') = true := by
  rw [← Array.all_toList]
  simp only [rowM, List.all_cons, List.all_nil, h]
  rfl
theorem mv_start (w : World) (x : S29) (v16 v19 v20 : Value) (mc z : Array Value) (hz : z.size = 21) : MV w w.heap.size x v16 v19 v20 mc (((w.alloc (.cells (rowM x v16 v19 v20) 29)).alloc (.cells mc 29)).alloc (.cells z 29)) := by
  refine ⟨blk_alloc (blk_alloc (blk_new w _) _) _, blk_alloc (blk_new2 w _ _) _, ⟨z, ?_, hz⟩, below_alloc (below_alloc (below_alloc (Below.refl _ w) _) _) _, Nat.le_refl _⟩
  have := blk_new ((w.alloc (.cells (rowM x v16 v19 v20) 29)).alloc (.cells mc 29)) (.cells z 29)
  rw [show ((w.alloc (.cells (rowM x v16 v19 v20) 29)).alloc (.cells mc 29)).heap.size = w.heap.size + 2 by simp] at this
  exact this
/-- What More makes of a message without lists of its own. -/
structure MoreOf (o : S29) (side : Int) (z : S29) : Prop where
  same : ∃ a b c d, z = { o with f16 := a, f17 := b, f18 := c, f19 := d }
  k16 : z.f16 = o.f16 ∨ (hexE z.f16 = 0 ∧ z.f16.size = 8)
  s17 : z.f17 = o.f17 ∨ TextOf 140 side z.f17
  l18 : z.f18.length ≤ 4
  e18 : ∀ t ∈ z.f18, TextOf 20 side t.f0 ∧ TextOf 100 side t.f1
  o19 : OthOK z.f19
  xml : side = 0 → z.f19 = []
  bit : side ≠ 0 → z.f17 = o.f17 ∧ z.f18 = []
theorem info48 : (Tryz.prog.info? 48).map (fun i => (i.zero, i.size, i.bytes)) = some (some (.agg #[(.string ⟨#[]⟩), (.string ⟨#[]⟩)]), 2, 32) := by kernel_rfl
theorem oth_nil : OthOK [] := ⟨by decide, List.Pairwise.nil, fun y hy => (by cases hy), fun y hy => (by cases hy)⟩
theorem oth_snoc {L : List S50} {n : Int} {y : S50} (h : OthOK L) (hn : ∀ t ∈ L, t.f0 ≤ n) (hl : L.length < 8) (hy : n < y.f0) (hs : spareF y.f0 = true) (ho : ElemOK y) : OthOK (L ++ [y]) ∧ ∀ t ∈ L ++ [y], t.f0 ≤ y.f0 := by
  refine ⟨⟨by rw [List.length_append]; show L.length + 1 ≤ 8; omega, List.pairwise_append.2 ⟨h.asc, List.pairwise_singleton _ _, fun a ha b hb => ?_⟩, fun t ht => ?_, fun t ht => ?_⟩, fun t ht => ?_⟩
  · rw [List.mem_singleton] at hb; rw [hb]; have := hn a ha; omega
  · rcases List.mem_append.1 ht with q | q
    · exact h.spare t q
    · rw [List.mem_singleton] at q; rw [q]; exact hs
  · rcases List.mem_append.1 ht with q | q
    · exact h.ok t q
    · rw [List.mem_singleton] at q; rw [q]; exact ho
  · rcases List.mem_append.1 ht with q | q
    · have := hn t q; omega
    · rw [List.mem_singleton] at q; rw [q]; exact Int.le_refl _
def T46_7 : Bool × List (List Nat × List Nat) := (true, [([], []), ([0], [0]), ([], []), ([2], [2]), ([], []), ([3, 4], [3, 4]), ([5], [5]), ([6], [6]), ([], []), ([7, 8], [7, 8]), ([], []), ([10], [10]), ([], []), ([11, 12], [11, 12]), ([13], [13]), ([14], [14]), ([], []), ([15, 16, 9], [15, 16]), ([9, 17], [9, 17]), ([18], [18]), ([1, 19, 17], [1, 19]), ([0, 1, 2, 3, 4, 5, 6, 7, 8, 9, 10, 11, 12, 13, 14, 15, 16, 17, 18, 19, 20], []), ([21, 20, 20, 0, 1, 2, 3, 4, 5, 6, 7, 8, 9, 10, 11, 12, 13, 14, 15, 16, 17, 18, 19, 20], [20, 21])])
def B46_7 : List Nat := [0, 1, 0, 4, 0, 28, 60, 124, 0, 508, 0, 1024, 0, 7168, 15360, 31744, 0, 131068, 262140, 524284, 1048575, 2097151, 4194303]
theorem tab46_7 : rtab .any (opsOf Tryz.f24 7) = T46_7 := by kernel_rfl
theorem bits46_7 : waitsOk T46_7.2 B46_7 = true := by kernel_rfl
def T46_14 : Bool × List (List Nat × List Nat) := (true, [([], []), ([0], [0]), ([], []), ([2], [2]), ([], []), ([4], [4]), ([5], [5]), ([3, 6], [3, 6]), ([7], [7]), ([1, 8, 6], [1, 8]), ([], []), ([10], [10]), ([0, 1, 2, 3, 4, 5, 6, 7, 8, 9], []), ([12, 9, 9, 0, 1, 2, 3, 4, 5, 6, 7, 8, 9], [9, 12]), ([11, 13, 0, 1, 2, 3, 4, 5, 6, 7, 8, 9, 10, 11, 12, 13], [11])])
def B46_14 : List Nat := [0, 1, 0, 4, 0, 16, 48, 124, 252, 511, 0, 1024, 1023, 5119, 16383]
theorem tab46_14 : rtab .any (opsOf Tryz.f24 14) = T46_14 := by kernel_rfl
theorem bits46_14 : waitsOk T46_14.2 B46_14 = true := by kernel_rfl

set_option maxHeartbeats 16000000 in
set_option maxRecDepth 100000 in
theorem more_x (o x : S29) (side : Int) (v16 : Value) (A16 : Option Addr) (c16 : Nat) (A19 : Option Addr) (c19 : Nat) (A20 : Option Addr) (c20 : Nat) (w : World) (hx : MsgIn x) (l19 : x.f18.length ≤ c19) (g19 : k48.C w A19 x.f18.length x.f18) (l20 : x.f19.length ≤ c20) (g20 : k50.C w A20 x.f19.length x.f19)
    (o16 : o.f16.size ≤ 140737488355328) (o17 : o.f17.size ≤ 140737488355328) (o18 : o.f18 = []) (o19 : o.f19 = []) (ov : v16.oneCell' = true) :
    Calls Tryz.prog 24 #[.agg (rowM o v16 (.slice none 0 0) (.slice none 0 0)), .agg (rowM x (.slice A16 x.f15.length c16) (.slice A19 x.f18.length c19) (.slice A20 x.f19.length c20)), .int .i64 side] w fun e w' => ∃ (z : S29) (B19 : Option Addr) (d19 : Nat) (B20 : Option Addr) (d20 : Nat), e = .returned (.agg (rowM z v16 (.slice B19 z.f18.length d19) (.slice B20 z.f19.length d20))) ∧ MoreOf o side z ∧ z.f18.length ≤ d19 ∧ z.f19.length ≤ d20 ∧ (∀ W' : World, (∀ k, w.heap.size ≤ k → k < w'.heap.size → W'.heap[k]? = w'.heap[k]?) → k48.C W' B19 z.f18.length z.f18 ∧ k50.C W' B20 z.f19.length z.f19) ∧ Below w.heap.size w w' := by
  have hu29 := Aside0.mk Tryz.underlying29
  have hu48 := Tryz.underlying48
  have hu50 := Tryz.underlying50
  have HX := Aside0.mk hx
  have HG := Aside0.mk (And.intro l19 (And.intro g19 (And.intro l20 g20)))
  have HO := Aside0.mk (And.intro o16 (And.intro o17 (And.intro o18 (And.intro o19 (And.intro ov ov)))))
  clear hx l19 g19 l20 g20 o16 o17 o18 o19 ov
  go_enter Tryz.func24, Tryz.ntmps24
  go_upto_region 1 with fail
  obtain ⟨p, hp⟩ : ∃ p, p = w.heap.size := ⟨_, rfl⟩
  obtain ⟨mc, hmc⟩ : ∃ mc, mc = rowM x (.slice A16 x.f15.length c16) (.slice A19 x.f18.length c19) (.slice A20 x.f19.length c20) := ⟨_, rfl⟩
  rw [← hmc]
  have J0 := mv_start w o v16 (.slice none 0 0) (.slice none 0 0) mc #[.int .i64 0, .int .i64 0, .string ⟨#[]⟩, .string ⟨#[]⟩, .string ⟨#[]⟩, .string ⟨#[]⟩, .int .u64 0, .string ⟨#[]⟩, .string ⟨#[]⟩, .string ⟨#[]⟩, .string ⟨#[]⟩, .int .i64 0, .string ⟨#[]⟩, .string ⟨#[]⟩, .int .i64 0, .string ⟨#[]⟩, .slice none 0 0, .string ⟨#[]⟩, .string ⟨#[]⟩, .slice none 0 0, .slice none 0 0] rfl
  rw [← hp] at J0 ⊢
  clear hp
  revert J0
  generalize (((w.alloc _).alloc _).alloc _) = W0
  intro J0
  replace J0 := Aside0.mk J0
  have HM : Aside0 (∀ W, MV w p o v16 (.slice none 0 0) (.slice none 0 0) mc W → True) := ⟨fun _ _ => trivial⟩
  have M17 : mc[17]? = some (.string x.f16) := by rw [hmc]; rfl
  have M18 : mc[18]? = some (.string x.f17) := by rw [hmc]; rfl
  have M19 : mc[19]? = some (.slice A19 x.f18.length c19) := by rw [hmc]; rfl
  have M20 : mc[20]? = some (.slice A20 x.f19.length c20) := by rw [hmc]; rfl
  have HMC := Aside0.mk (And.intro M17 (And.intro M18 (And.intro M19 M20)))
  clear M17 M18 M19 M20 hmc HM
  obtain ⟨bs, hbs⟩ : ∃ b, (side == 0) = b := ⟨_, rfl⟩
  go_upto_if 14 with fail
  go_cut [] from 7 to 100 (fun wc => ∃ (z : S29) (B19 : Option Addr) (d19 : Nat) (B20 : Option Addr) (d20 : Nat), Aside0 (MoreOf o side z ∧ z.f16 = o.f16 ∧ Kd.R k48 48 wc w.heap.size (fun _ => True) (.slice B19 z.f18.length d19) z.f18 ∧ Kd.S k50 50 wc w.heap.size (fun _ => True) (.slice B20 z.f19.length d20) z.f19) ∧ Aside0 (MV w p z v16 (.slice B19 z.f18.length d19) (.slice B20 z.f19.length d20) mc wc))
  case first =>
    cases bs with
    | true =>
      have HS0 := Aside0.mk (beq_iff_eq.mp hbs)
      clear hbs
      have d18 : W0.cell? ⟨p + 1, 18, none⟩ = some (.string x.f17) := (blk_cell J0.out.m 18).trans HMC.out.2.1
      obtain ⟨b17, hb17⟩ : ∃ b, (x.f17.toList != ([] : List UInt8)) = b := ⟨_, rfl⟩
      have hb17' : x.f17.toList.isEmpty = !b17 := by rw [← hb17]; cases x.f17.toList <;> rfl
      go_upto_if 17 with fail
      go_cut [] from 13 to 22 (fun wc => ∃ t : ByteArray, Aside0 (t = o.f17 ∨ TextOf 140 side t) ∧ Aside0 (MV w p { o with f17 := t } v16 (.slice none 0 0) (.slice none 0 0) mc wc))
      case first =>
        clear hb17 hb17'
        cases b17 with
        | false =>
          go_wp2_with fail
          go_meet
          exact ⟨o.f17, ⟨.inl rfl⟩, J0⟩
        | true =>
          go_wp2_with fail
          refine (text_x x.f17 140 side _ HX.out.s17 (by omega) (by omega)).mono ?_
          rintro e w1 ⟨t, rfl, ht, hB⟩
          have J1 := Aside0.mk (J0.out.below hB)
          have q18 : w1.cell? ⟨p, 18, none⟩ = some (.string o.f17) := (blk_cell J1.out.b 18).trans rfl
          have z18 := blk_frozen J1.out.b 18
          have HTS : Aside0 (t = o.f17 ∨ TextOf 140 side t) := ⟨.inr ht⟩
          clear ht hB
          have J2 : Aside0 (MV w p { o with f17 := t } v16 (.slice none 0 0) (.slice none 0 0) mc (w1.setCell ⟨p, 18, none⟩ (.string t))) := ⟨J1.out.set 18 (.string t) rfl⟩
          go_wp2_with fail
          go_meet
          exact ⟨t, HTS, J2⟩
      case rest =>
        obtain ⟨t, HT, J1⟩ := hcut
        clear d18 J0 hb17 hb17'
        go_wp2_with fail
        go_loopg [7] 4 (fun gg s7 wr => ∃ (kk : Nat) (A : Option Addr) (c : Nat) (xs : List S48), s7 = .int .i64 kk ∧ kk ≤ 4 ∧ 4 - kk ≤ gg ∧ Aside0 (xs.length = kk ∧ ∀ t ∈ xs, TextOf 20 side t.f0 ∧ TextOf 100 side t.f1) ∧ Aside0 (MV w p { o with f17 := t, f18 := xs } v16 (.slice A xs.length c) (.slice none 0 0) mc wr) ∧ Aside0 (Kd.R k48 48 wr w.heap.size (fun _ => True) (.slice A xs.length c) xs))
        case atStart => exact ⟨0, none, 0, [], rfl, by omega, by omega, ⟨⟨rfl, fun t ht => (by cases ht)⟩⟩, ⟨by have h := J1.out; have e := HO.out.2.2.1; rw [show ({ o with f17 := t, f18 := [] } : S29) = { o with f17 := t } by rw [← e]]; exact h⟩, ⟨Kd.R_nil _ _ _ _ _⟩⟩
        case round =>
          obtain ⟨kk, A, c, xs, rfl, hk4, hg, HL, JR, HR⟩ := hrel
          have HT8 := Aside0.mk HL.out.2
          replace HL := Aside0.mk HL.out.1
          have e19 : wr.cell? ⟨p + 1, 19, none⟩ = some (.slice A19 x.f18.length c19) := (blk_cell JR.out.m 19).trans HMC.out.2.2.1
          have fin : Aside0 (∀ W, MV w p { o with f17 := t, f18 := xs } v16 (.slice A xs.length c) (.slice none 0 0) mc W → Kd.R k48 48 W w.heap.size (fun _ => True) (.slice A xs.length c) xs → ∃ (z : S29) (B19 : Option Addr) (d19 : Nat) (B20 : Option Addr) (d20 : Nat), Aside0 (MoreOf o side z ∧ z.f16 = o.f16 ∧ Kd.R k48 48 W w.heap.size (fun _ => True) (.slice B19 z.f18.length d19) z.f18 ∧ Kd.S k50 50 W w.heap.size (fun _ => True) (.slice B20 z.f19.length d20) z.f19) ∧ Aside0 (MV w p z v16 (.slice B19 z.f18.length d19) (.slice B20 z.f19.length d20) mc W)) := ⟨fun W hJ hR => by
            have e19 := HO.out.2.2.2.1
            have hz : ({ o with f17 := t, f18 := xs } : S29).f19 = [] := e19
            refine ⟨{ o with f17 := t, f18 := xs }, A, c, none, 0, ⟨⟨⟨o.f16, t, xs, o.f19, rfl⟩, .inl rfl, HT.out, by show xs.length ≤ 4; have := HL.out; omega, HT8.out, by rw [hz]; exact oth_nil, fun _ => hz, fun h => absurd HS0.out h⟩, rfl, hR, by show Kd.S _ _ _ _ _ (.slice none o.f19.length 0) o.f19; rw [e19]; exact Kd.S_nil _ _ _ _ _⟩, ⟨by show MV w p _ v16 (.slice A xs.length c) (.slice none o.f19.length 0) mc W; rw [show o.f19.length = 0 by rw [e19]; rfl]; exact hJ⟩⟩⟩
          by_cases hlt : kk < x.f18.length
          rotate_left
          · have hltz : ¬ (kk : Int) < (x.f18.length : Int) := by omega
            go_wp2_with fail
            go_meet
            exact fin.out _ JR.out HR.out
          have hltz : (kk : Int) < (x.f18.length : Int) := by omega
          by_cases h4 : kk < 4
          rotate_left
          · have h4z : ¬ (kk : Int) < 4 := by omega
            go_wp2_with fail
            go_meet
            exact fin.out _ JR.out HR.out
          have h4z : (kk : Int) < 4 := by omega
          clear fin
          obtain ⟨ad, e1, g0, g1⟩ := at_T48 HG.out.2.1 (kk : Int) (by omega) (by omega)
          have hd := HX.out.d18 x.f18[kk] (List.getElem_mem hlt)
          have hrd : rd_T48 x.f18 (kk : Int) = x.f18[kk] := by simp [rd_T48, List.getD_eq_getElem?_getD, hlt]
          rw [hrd] at g0 g1
          subst e1
          rw [Int.toNat_natCast] at g0 g1
          generalize x.f18[kk] = y at g0 g1 hd
          obtain ⟨y0, y1⟩ := y
          change w.cell? _ = some (.string y0) at g0
          change w.cell? _ = some (.string y1) at g1
          have HY : Aside0 (y0.size ≤ 140737488355328 ∧ y1.size ≤ 140737488355328) := ⟨hd⟩
          have H0 := Aside0.mk g0
          have H1 := Aside0.mk g1
          clear g0 g1 hd hrd
          go_upto_region 7 with fail

          have JD := Aside0.mk (JR.out.below (below_drew1 (Below.refl _ _)))
          have HD := Aside0.mk (Kd.R_drew HR.out)
          refine start_ (n := 23) (ds := [22]) (S := fun w' => w'.cell? ⟨p, 19, none⟩ = some (.slice A xs.length c) ∧ w'.cell? ⟨p + 1, 19, none⟩ = some (.slice (some ad) x.f18.length c19) ∧ w'.cell? (ad.add (kk * 2)) = some (.string y0) ∧ w'.cell? ⟨(ad.add (kk * 2)).block, (ad.add (kk * 2)).off + 1, none⟩ = some (.string y1)) (V 23 0) (by rfl) (by rfl) (by kernel_rfl) (⟨(blk_cell JD.out.b 19).trans rfl, (blk_cell JD.out.m 19).trans HMC.out.2.2.1, (JD.out.bel.cell (World.block_lt_of_cell? w _ H0.out)).trans H0.out, (JD.out.bel.cell (World.block_lt_of_cell? w _ H1.out)).trans H1.out⟩) (fun hHeld => ?_); refine with_tabW tab46_7 bits46_7 (fun HT_ HW_ => ?_)
          generalize wr.drew = wd at JD HD hHeld ⊢
          refine pure_ (i := 0) (N := some 34) (v := ?_) (a' := ?_) (V 23 1) rfl rfl (any_of HT_.out (by kernel_rfl)) (fun _ _ _ h => h) (Or.inl ⟨by rfl, ?_⟩) ?_ ?_; rotate_left
          · intro w'; go_simp; with_reducible rfl
          rotate_left
          · simp only [Act.put, List.setIfInBounds_toArray, List.set_cons_zero, List.set_cons_succ, i64_w, i32_w]; rfl
          refine take_ (i := 1) (N := some 35) (v := ?_) (a' := ?_) (V 23 3) rfl rfl (take_ofW HT_.out HW_.out (by kernel_rfl)) (fun _ _ _ h => h) (Or.inl ⟨by rfl, ?_⟩) hHeld ?_ ?_; rotate_left
          · rintro w' ⟨s0, s1, s2, s3⟩; go_simp; with_reducible rfl
          rotate_left
          · simp only [Act.put, List.setIfInBounds_toArray, List.set_cons_zero, List.set_cons_succ, i64_w, i32_w]; rfl
          refine pure_ (i := 2) (N := some 36) (v := ?_) (a' := ?_) (V 23 7) rfl rfl (any_of HT_.out (by kernel_rfl)) (fun _ _ _ h => h) (Or.inl ⟨by rfl, ?_⟩) ?_ ?_; rotate_left
          · intro w'; go_simp; with_reducible rfl
          rotate_left
          · simp only [Act.put, List.setIfInBounds_toArray, List.set_cons_zero, List.set_cons_succ, i64_w, i32_w]; rfl
          refine take_ (i := 3) (N := some 37) (v := ?_) (a' := ?_) (V 23 15) rfl rfl (take_ofW HT_.out HW_.out (by kernel_rfl)) (fun _ _ _ h => h) (Or.inl ⟨by rfl, ?_⟩) hHeld ?_ ?_; rotate_left
          · rintro w' ⟨s0, s1, s2, s3⟩; go_simp; with_reducible rfl
          rotate_left
          · simp only [Act.put, List.setIfInBounds_toArray, List.set_cons_zero, List.set_cons_succ, i64_w, i32_w]; rfl
          refine pure_ (i := 4) (N := some 38) (v := ?_) (a' := ?_) (V 23 31) rfl rfl (any_of HT_.out (by kernel_rfl)) (fun _ _ _ h => h) (Or.inl ⟨by rfl, ?_⟩) ?_ ?_; rotate_left
          · intro w'; go_simp; with_reducible rfl
          rotate_left
          · simp only [Act.put, List.setIfInBounds_toArray, List.set_cons_zero, List.set_cons_succ, i64_w, i32_w]; rfl
          refine pure_ (i := 5) (N := some 39) (v := ?_) (a' := ?_) (V 23 63) rfl rfl (any_of HT_.out (by kernel_rfl)) (fun _ _ _ h => h) (Or.inl ⟨by rfl, ?_⟩) ?_ ?_; rotate_left
          · intro w'; go_simp; with_reducible rfl
          rotate_left
          · simp only [Act.put, List.setIfInBounds_toArray, List.set_cons_zero, List.set_cons_succ, i64_w, i32_w]; rfl
          refine pure_ (i := 6) (N := some 40) (v := ?_) (a' := ?_) (V 23 127) rfl rfl (any_of HT_.out (by kernel_rfl)) (fun _ _ _ h => h) (Or.inl ⟨by rfl, ?_⟩) ?_ ?_; rotate_left
          · intro w'; go_simp; with_reducible rfl
          rotate_left
          · simp only [Act.put, List.setIfInBounds_toArray, List.set_cons_zero, List.set_cons_succ, i64_w, i32_w]; rfl
          refine take_ (i := 7) (N := some 41) (v := ?_) (a' := ?_) (V 23 255) rfl rfl (take_ofW HT_.out HW_.out (by kernel_rfl)) (fun _ _ _ h => h) (Or.inl ⟨by rfl, ?_⟩) hHeld ?_ ?_; rotate_left
          · rintro w' ⟨s0, s1, s2, s3⟩; go_simp; with_reducible rfl
          rotate_left
          · simp only [Act.put, List.setIfInBounds_toArray, List.set_cons_zero, List.set_cons_succ, i64_w, i32_w]; rfl
          refine pure_ (i := 8) (N := some 42) (v := ?_) (a' := ?_) (V 23 511) rfl rfl (any_of HT_.out (by kernel_rfl)) (fun _ _ _ h => h) (Or.inl ⟨by rfl, ?_⟩) ?_ ?_; rotate_left
          · intro w'; go_simp; with_reducible rfl
          rotate_left
          · simp only [Act.put, List.setIfInBounds_toArray, List.set_cons_zero, List.set_cons_succ, i64_w, i32_w]; rfl
          refine pure_ (i := 10) (N := some 44) (v := ?_) (a' := ?_) (V 23 1535) rfl rfl (any_of HT_.out (by kernel_rfl)) (fun _ _ _ h => h) (Or.inl ⟨by rfl, ?_⟩) ?_ ?_; rotate_left
          · intro w'; go_simp; with_reducible rfl
          rotate_left
          · simp only [Act.put, List.setIfInBounds_toArray, List.set_cons_zero, List.set_cons_succ, i64_w, i32_w]; rfl
          refine take_ (i := 11) (N := some 45) (v := ?_) (a' := ?_) (V 23 3583) rfl rfl (take_ofW HT_.out HW_.out (by kernel_rfl)) (fun _ _ _ h => h) (Or.inl ⟨by rfl, ?_⟩) hHeld ?_ ?_; rotate_left
          · rintro w' ⟨s0, s1, s2, s3⟩; go_simp; with_reducible rfl
          rotate_left
          · simp only [Act.put, List.setIfInBounds_toArray, List.set_cons_zero, List.set_cons_succ, i64_w, i32_w]; rfl
          refine pure_ (i := 12) (N := some 46) (v := ?_) (a' := ?_) (V 23 7679) rfl rfl (any_of HT_.out (by kernel_rfl)) (fun _ _ _ h => h) (Or.inl ⟨by rfl, ?_⟩) ?_ ?_; rotate_left
          · intro w'; go_simp; with_reducible rfl
          rotate_left
          · simp only [Act.put, List.setIfInBounds_toArray, List.set_cons_zero, List.set_cons_succ, i64_w, i32_w]; rfl
          refine pure_ (i := 13) (N := some 47) (v := ?_) (a' := ?_) (V 23 15871) rfl rfl (any_of HT_.out (by kernel_rfl)) (fun _ _ _ h => h) (Or.inl ⟨by rfl, ?_⟩) ?_ ?_; rotate_left
          · intro w'; go_simp; with_reducible rfl
          rotate_left
          · simp only [Act.put, List.setIfInBounds_toArray, List.set_cons_zero, List.set_cons_succ, i64_w, i32_w]; rfl
          refine pure_ (i := 14) (N := some 48) (v := ?_) (a' := ?_) (V 23 32255) rfl rfl (any_of HT_.out (by kernel_rfl)) (fun _ _ _ h => h) (Or.inl ⟨by rfl, ?_⟩) ?_ ?_; rotate_left
          · intro w'; go_simp; with_reducible rfl
          rotate_left
          · simp only [Act.put, List.setIfInBounds_toArray, List.set_cons_zero, List.set_cons_succ, i64_w, i32_w]; rfl
          refine take_ (i := 15) (N := some 49) (v := ?_) (a' := ?_) (V 23 65023) rfl rfl (take_ofW HT_.out HW_.out (by kernel_rfl)) (fun _ _ _ h => h) (Or.inl ⟨by rfl, ?_⟩) hHeld ?_ ?_; rotate_left
          · rintro w' ⟨s0, s1, s2, s3⟩; go_simp; with_reducible rfl
          rotate_left
          · simp only [Act.put, List.setIfInBounds_toArray, List.set_cons_zero, List.set_cons_succ, i64_w, i32_w]; rfl
          refine pure_ (i := 16) (N := some 50) (v := ?_) (a' := ?_) (V 23 130559) rfl rfl (any_of HT_.out (by kernel_rfl)) (fun _ _ _ h => h) (Or.inl ⟨by rfl, ?_⟩) ?_ ?_; rotate_left
          · intro w'; go_simp; with_reducible rfl
          rotate_left
          · simp only [Act.put, List.setIfInBounds_toArray, List.set_cons_zero, List.set_cons_succ, i64_w, i32_w]; rfl
          refine one_ (i := 9) (N := some 43) (V 23 131071) rfl rfl (one_of HT_.out (by kernel_rfl)) (by decide) (fun K hK => ?_)
          refine goes_ Tryz.func20 (by kernel_rfl) rfl #[.string y0, .int .i64 20, .int .i64 side] (by rfl) rfl rfl (by (try simp only [List.map_toArray, List.map_cons, List.map_nil]); first | done | rfl) ?_
          with_reducible refine (text_x y0 20 side _ HY.out.1 (by omega) (by omega)).mono ?_
          rintro e w109 ⟨t1, rfl, ht1, hB⟩
          have HT1 := Aside0.mk ht1; clear ht1
          refine ⟨_, rfl, ?_⟩
          replace JD := Aside0.mk (JD.out.below hB); replace HD := Aside0.mk (Kd.R_below HD.out hB); clear hB
          refine hK.out _ _ (⟨(blk_cell JD.out.b 19).trans rfl, (blk_cell JD.out.m 19).trans HMC.out.2.2.1, (JD.out.bel.cell (World.block_lt_of_cell? w _ H0.out)).trans H0.out, (JD.out.bel.cell (World.block_lt_of_cell? w _ H1.out)).trans H1.out⟩) (fun hHeld => ?_)
          clear hK K
          refine norm_ (a' := ?_) ?_ ?_; rotate_left
          · show Act.put _ (some 43) _ = _; simp only [Act.put, List.setIfInBounds_toArray, List.set_cons_zero, List.set_cons_succ, i64_w, i32_w]; rfl
          refine one_ (i := 17) (N := some 51) (V 23 262143) rfl rfl (one_of HT_.out (by kernel_rfl)) (by decide) (fun K hK => ?_)
          refine goes_ Tryz.func20 (by kernel_rfl) rfl #[.string y1, .int .i64 100, .int .i64 side] (by rfl) rfl rfl (by (try simp only [List.map_toArray, List.map_cons, List.map_nil]); first | done | rfl) ?_
          with_reducible refine (text_x y1 100 side _ HY.out.2 (by omega) (by omega)).mono ?_
          rintro e w117 ⟨t2, rfl, ht2, hB⟩
          have HT2 := Aside0.mk ht2; clear ht2
          refine ⟨_, rfl, ?_⟩
          replace JD := Aside0.mk (JD.out.below hB); replace HD := Aside0.mk (Kd.R_below HD.out hB); clear hB
          refine hK.out _ _ (⟨(blk_cell JD.out.b 19).trans rfl, (blk_cell JD.out.m 19).trans HMC.out.2.2.1, (JD.out.bel.cell (World.block_lt_of_cell? w _ H0.out)).trans H0.out, (JD.out.bel.cell (World.block_lt_of_cell? w _ H1.out)).trans H1.out⟩) (fun hHeld => ?_)
          clear hK K
          refine norm_ (a' := ?_) ?_ ?_; rotate_left
          · show Act.put _ (some 51) _ = _; simp only [Act.put, List.setIfInBounds_toArray, List.set_cons_zero, List.set_cons_succ, i64_w, i32_w]; rfl
          refine pure_ (i := 18) (N := some 52) (v := ?_) (a' := ?_) (V 23 524287) rfl rfl (any_of HT_.out (by kernel_rfl)) (fun _ _ _ h => h) (Or.inl ⟨by rfl, ?_⟩) ?_ ?_; rotate_left
          · intro w'; go_simp; with_reducible rfl
          rotate_left
          · simp only [Act.put, List.setIfInBounds_toArray, List.set_cons_zero, List.set_cons_succ, i64_w, i32_w]; rfl
          refine one_ (i := 19) (N := some 53) (V 23 1048575) rfl rfl (one_of HT_.out (by kernel_rfl)) (by decide) (fun K hK => ?_)
          refine value_ (w1 := ?_) (v := ?_) (by rfl) rfl ?_ ?_; rotate_left 2
          · go_simp
            constructor
            · rfl
            · rfl
          refine hK.out _ _ (⟨(blk_cell (JD.out.below (below_alloc (Below.refl _ _) _)).b 19).trans rfl, (blk_cell (JD.out.below (below_alloc (Below.refl _ _) _)).m 19).trans HMC.out.2.2.1, ((JD.out.below (below_alloc (Below.refl _ _) _)).bel.cell (World.block_lt_of_cell? w _ H0.out)).trans H0.out, ((JD.out.below (below_alloc (Below.refl _ _) _)).bel.cell (World.block_lt_of_cell? w _ H1.out)).trans H1.out⟩) (fun hHeld => ?_)
          clear hK K
          refine norm_ (a' := ?_) ?_ ?_; rotate_left
          · show Act.put _ (some 53) _ = _; simp only [Act.put, List.setIfInBounds_toArray, List.set_cons_zero, List.set_cons_succ, i64_w, i32_w]; rfl
          refine one_ (i := 20) (N := some 54) (V 23 2097151) rfl rfl (one_of HT_.out (by kernel_rfl)) (by decide) (fun K hK => ?_)
          refine Kd.R_append_step k48 (w0 := w) w.heap.size (by rfl) (.tmp 35) (.tmp 53) 26 48 (.agg #[.string ⟨#[]⟩, .string ⟨#[]⟩]) 32 rfl Tryz.underlying26 info48 rfl (by decide) (by omega) (.slice A xs.length c) xs (⟨t1, t2⟩ : S48) [.string t1, .string t2] (fun _ => True) (fun _ => False) rfl rfl ?aP (fun _ hk => hk.elim) ?aF ?aO ?aB ?aS ?aL ?_
          (case aP => exact k48_mkM _ _ _ _)
          (case aB => exact JD.out.bel)
          (case aF => exact (fun _ _ => trivial))
          (case aO => exact HD.out)
          (case aS => exact below_size JD.out.bel)
          (case aL => exact (by have := HL.out; omega))
          intro v1 w5 ho hb hg hat
          have JE := Aside0.mk (MV.grown JD.out hg hb (fun g cs hgc => Kd.R_ne HD.out hgc (by decide)))
          have HE := Aside0.mk ho; clear ho hb hg hat JD HD
          refine hK.out _ _ (⟨(blk_cell JE.out.b 19).trans rfl, (blk_cell JE.out.m 19).trans HMC.out.2.2.1, (JE.out.bel.cell (World.block_lt_of_cell? w _ H0.out)).trans H0.out, (JE.out.bel.cell (World.block_lt_of_cell? w _ H1.out)).trans H1.out⟩) (fun hHeld => ?_)
          clear hK K
          refine norm_ (a' := ?_) ?_ ?_; rotate_left
          · show Act.put _ (some 54) _ = _; simp only [Act.put, List.setIfInBounds_toArray, List.set_cons_zero, List.set_cons_succ, i64_w, i32_w]; rfl
          obtain ⟨A5, c5, e5⟩ := Kd.R_slice HE.out
          subst e5
          refine pure_ (i := 21) (N := some 55) (v := ?_) (a' := ?_) (V 23 4194303) rfl rfl (any_of HT_.out (by kernel_rfl)) (fun _ _ _ h => h) (Or.inl ⟨by rfl, ?_⟩) ?_ ?_; rotate_left
          · intro w'; go_simp; with_reducible rfl
          rotate_left
          · simp only [Act.put, List.setIfInBounds_toArray, List.set_cons_zero, List.set_cons_succ, i64_w, i32_w]; rfl
          have q19 : w5.cell? ⟨p, 19, none⟩ = some (.slice A xs.length c) := (blk_cell JE.out.b 19).trans rfl
          have z19 := blk_frozen JE.out.b 19
          refine last_ (i := 22) (N := none) (V 23 8388607) rfl rfl (one_of HT_.out (by kernel_rfl)) (by decide) (fun K hK => ?_)
          refine skip_ (w1 := ?_) (by rfl) rfl ?_ ?_; rotate_left
          · go_simp
            rfl
          refine hK.out _ _ ?_
          clear hK K
          refine done_ (done_of HT_.out (by kernel_rfl)) ?_
          try go_wp2
          have el : (xs ++ [(⟨t1, t2⟩ : S48)]).length = xs.length + 1 := by rw [List.length_append]; rfl
          have JF : Aside0 (MV w p { o with f17 := t, f18 := xs ++ [(⟨t1, t2⟩ : S48)] } v16 (.slice A5 (xs ++ [(⟨t1, t2⟩ : S48)]).length c5) (.slice none 0 0) mc (w5.setCell ⟨p, 19, none⟩ (.slice A5 (xs.length + 1) c5))) := ⟨by rw [el]; exact JE.out.set 19 (.slice A5 (xs.length + 1) c5) rfl⟩
          have HF := Aside0.mk (R_set1 HE.out JE.out.b (by decide) 19 (.slice A5 (xs.length + 1) c5))
          have HLF : Aside0 ((xs ++ [(⟨t1, t2⟩ : S48)]).length = kk + 1 ∧ ∀ t ∈ xs ++ [(⟨t1, t2⟩ : S48)], TextOf 20 side t.f0 ∧ TextOf 100 side t.f1) := ⟨by rw [el, HL.out], fun t ht => by
            rcases List.mem_append.1 ht with h | h
            · exact HT8.out t h
            · rw [List.mem_singleton] at h; rw [h]; exact ⟨HT1.out, HT2.out⟩⟩
          clear el
          go_roundg (4 - (kk + 1))
          case measure => omega
          case rel => exact ⟨kk + 1, A5, c5, _, by go_num, by omega, by omega, HLF, JF, HF⟩
    | false =>
      have HS0 := Aside0.mk (beq_eq_false_iff_ne.mp hbs)
      clear hbs
      go_wp2_with fail
      go_loopg [8, 9, 10] x.f19.length (fun gg s8 s9 _ wr => ∃ (kk : Nat) (n : Int) (A : Option Addr) (c : Nat) (xs : List S50), s9 = .int .i64 kk ∧ s8 = .int .i64 n ∧ kk ≤ x.f19.length ∧ x.f19.length - kk ≤ gg ∧ Aside0 (OthOK xs ∧ ∀ t ∈ xs, t.f0 ≤ n) ∧ Aside0 (MV w p { o with f19 := xs } v16 (.slice none 0 0) (.slice A xs.length c) mc wr) ∧ Aside0 (Kd.S k50 50 wr w.heap.size (fun _ => True) (.slice A xs.length c) xs))
      case atStart => exact ⟨0, 0, none, 0, [], rfl, rfl, by omega, by omega, ⟨⟨oth_nil, fun t ht => (by cases ht)⟩⟩, ⟨by have h := J0.out; have e := HO.out.2.2.2.1; rw [show ({ o with f19 := [] } : S29) = o by rw [← e]]; exact h⟩, ⟨Kd.S_nil _ _ _ _ _⟩⟩
      case round =>
        obtain ⟨kk, n, A, c, xs, rfl, rfl, hkk, hg, HL, JR, HR⟩ := hrel
        have e20 : wr.cell? ⟨p + 1, 20, none⟩ = some (.slice A20 x.f19.length c20) := (blk_cell JR.out.m 20).trans HMC.out.2.2.2
        have q20 : wr.cell? ⟨p, 20, none⟩ = some (.slice A xs.length c) := (blk_cell JR.out.b 20).trans rfl
        have hx8 : xs.length ≤ 8 := HL.out.1.len
        have hkm : x.f19.length ≤ 140737488355328 := HX.out.l19
        have fin : Aside0 (∃ (z : S29) (B19 : Option Addr) (d19 : Nat) (B20 : Option Addr) (d20 : Nat), Aside0 (MoreOf o side z ∧ z.f16 = o.f16 ∧ Kd.R k48 48 wr w.heap.size (fun _ => True) (.slice B19 z.f18.length d19) z.f18 ∧ Kd.S k50 50 wr w.heap.size (fun _ => True) (.slice B20 z.f19.length d20) z.f19) ∧ Aside0 (MV w p z v16 (.slice B19 z.f18.length d19) (.slice B20 z.f19.length d20) mc wr)) := ⟨by
          have e18 := HO.out.2.2.1
          have hz : ({ o with f19 := xs } : S29).f18 = [] := e18
          refine ⟨{ o with f19 := xs }, none, 0, A, c, ⟨⟨⟨o.f16, o.f17, o.f18, xs, rfl⟩, .inl rfl, .inl rfl, by rw [hz]; exact Nat.zero_le _, by rw [hz]; exact fun q hq => absurd hq (by simp), HL.out.1, fun h => absurd h HS0.out, fun _ => ⟨rfl, hz⟩⟩, rfl, by show Kd.R _ _ _ _ _ (.slice none o.f18.length 0) o.f18; rw [e18]; exact Kd.R_nil _ _ _ _ _, HR.out⟩, ⟨by show MV w p _ v16 (.slice none o.f18.length 0) (.slice A xs.length c) mc wr; rw [show o.f18.length = 0 by rw [e18]; rfl]; exact JR.out⟩⟩⟩
        by_cases hlt : kk < x.f19.length
        rotate_left
        · have hltz : ¬ (kk : Int) < (x.f19.length : Int) := by omega
          go_wp2_with fail
          go_meet
          exact fin.out
        have hltz : (kk : Int) < (x.f19.length : Int) := by omega
        by_cases h8 : xs.length < 8
        rotate_left
        · have h8z : ¬ (xs.length : Int) < 8 := by omega
          go_wp2_with fail
          go_meet
          exact fin.out
        have h8z : (xs.length : Int) < 8 := by omega
        clear fin
        obtain ⟨ad, A1, c1, e1, g0, g1, hl1, hi1⟩ := at_T50 HG.out.2.2.2 (kk : Int) (by omega) (by omega)
        have hd := HX.out.d19 x.f19[kk] (List.getElem_mem hlt)
        have hrd : rd_T50 x.f19 (kk : Int) = x.f19[kk] := by simp [rd_T50, List.getD_eq_getElem?_getD, hlt]
        rw [hrd] at g0 g1 hl1 hi1
        subst e1
        rw [Int.toNat_natCast] at g0 g1
        generalize x.f19[kk] = y at g0 g1 hd hl1 hi1
        obtain ⟨yn, yd⟩ := y
        change w.cell? _ = some (.int .i64 yn) at g0
        change w.cell? _ = some (.slice A1 yd.length c1) at g1
        change yd.length ≤ 140737488355328 at hd
        change yd.length ≤ c1 at hl1
        change Kd.C (Kd.int .u8) w A1 yd.length yd at hi1
        have HY : Aside0 (yd.length ≤ 140737488355328 ∧ yd.length ≤ c1 ∧ Kd.C (Kd.int .u8) w A1 yd.length yd) := ⟨⟨hd, hl1, hi1⟩⟩
        have r0 := (JR.out.bel.cell (World.block_lt_of_cell? w _ g0)).trans g0
        have r1 := (JR.out.bel.cell (World.block_lt_of_cell? w _ g1)).trans g1
        clear g0 g1 hd hl1 hi1 hrd
        go_upto_region 13 with fail
        obtain ⟨q, hq⟩ : ∃ q, q = wr.heap.size := ⟨_, rfl⟩
        have hb := blk_new wr (.cells #[.int .i64 yn, .slice A1 yd.length c1] 50)
        have jx := JR.out.below (below_alloc (Below.refl _ _) (.cells #[.int .i64 yn, .slice A1 yd.length c1] 50))
        have sx := Kd.S_old HR.out (below_alloc (Below.refl _ wr) (.cells #[.int .i64 yn, .slice A1 yd.length c1] 50))
        have hsz : Aside0 (w.heap.size ≤ q) := ⟨by rw [hq]; exact below_size JR.out.bel⟩
        have HQQ : Aside0 (wr.heap.size ≤ q) := ⟨by omega⟩
        rw [← hq] at hb sx ⊢
        clear hq
        generalize wr.alloc (.cells #[.int .i64 yn, .slice A1 yd.length c1] 50) = w1 at hb jx sx ⊢
        have HB := Aside0.mk hb
        have JX := Aside0.mk jx
        have SX := Aside0.mk sx
        clear hb jx sx r0 r1 e20 q20 JR HR
        have q0 : w1.cell? ⟨q, 0, none⟩ = some (.int .i64 yn) := (blk_cell HB.out 0).trans rfl
        go_wp2_with fail
        refine (spare_e yn _).mono ?_
        rintro e w2 ⟨rfl, hD⟩
        have hB := hD.below
        clear hD
        obtain ⟨b1, hb1⟩ : ∃ b, b = spareF yn := ⟨_, rfl⟩
        rw [← hb1]
        have HSP := Aside0.mk hb1
        clear hb1
        have HB2 := Aside0.mk (blk_below HB.out hB)
        have JX2 := Aside0.mk (JX.out.below hB)
        have SX2 := Aside0.mk (Kd.S_below SX.out hB)
        clear HB JX SX hB q0
        have q0 : w2.cell? ⟨q, 0, none⟩ = some (.int .i64 yn) := (blk_cell HB2.out 0).trans rfl
        have q1 : w2.cell? ⟨q, 1, none⟩ = some (.slice A1 yd.length c1) := (blk_cell HB2.out 1).trans rfl
        cases b1 with
        | false =>
          go_wp2_with fail
          go_roundg (x.f19.length - (kk + 1))
          case measure => omega
          case rel => exact ⟨kk + 1, n, A, c, xs, by go_num, rfl, by omega, by omega, HL, JX2, ⟨Kd.S_mono SX2.out (fun _ _ => trivial)⟩⟩
        | true =>
        by_cases hn : n < yn
        rotate_left
        · go_wp2_with fail
          go_roundg (x.f19.length - (kk + 1))
          case measure => omega
          case rel => exact ⟨kk + 1, n, A, c, xs, by go_num, rfl, by omega, by omega, HL, JX2, ⟨Kd.S_mono SX2.out (fun _ _ => trivial)⟩⟩
        go_wp2_with fail
        refine (chkEl_e yn A1 c1 yd _ (Kd.C_below HY.out.2.2 JX2.out.bel) HY.out.1).mono ?_
        rintro e w3 ⟨rfl, hB⟩
        obtain ⟨er, her⟩ : ∃ r, r = chkF yn yd := ⟨_, rfl⟩
        rw [← her]
        have HER := Aside0.mk her
        clear her
        have HB3 := Aside0.mk (blk_below HB2.out hB)
        have JX3 := Aside0.mk (JX2.out.below hB)
        have SX3 := Aside0.mk (Kd.S_below SX2.out hB)
        clear HB2 JX2 SX2 hB q0 q1
        by_cases e0 : er = 0
        rotate_left
        · have e0b : (er == 0) = false := beq_eq_false_iff_ne.mpr e0
          replace e0 := Aside0.mk e0
          go_wp2_with fail
          go_roundg (x.f19.length - (kk + 1))
          case measure => omega
          case rel => exact ⟨kk + 1, n, A, c, xs, by go_num, rfl, by omega, by omega, HL, JX3, ⟨Kd.S_mono SX3.out (fun _ _ => trivial)⟩⟩
        have e0b : (er == 0) = true := beq_iff_eq.mpr e0
        replace e0 := Aside0.mk e0
        go_upto_region 14 with fail
        have BD := Aside0.mk (below_drew1 (Below.refl w3.heap.size w3))
        refine start_ (n := 15) (ds := []) (S := fun w' => w'.cell? ⟨q, 0, none⟩ = some (.int .i64 yn) ∧ w'.cell? ⟨q, 1, none⟩ = some (.slice A1 yd.length c1)) (V 15 0) (by rfl) (by rfl) (by kernel_rfl) (⟨(blk_cell (blk_below HB3.out BD.out) 0).trans rfl, (blk_cell (blk_below HB3.out BD.out) 1).trans rfl⟩) (fun hHeld => ?_); refine with_tabW tab46_14 bits46_14 (fun HT_ HW_ => ?_)
        generalize w3.drew = wd at BD hHeld ⊢
        refine pure_ (i := 0) (N := some 88) (v := ?_) (a' := ?_) (V 15 1) rfl rfl (any_of HT_.out (by kernel_rfl)) (fun _ _ _ h => h) (Or.inl ⟨by rfl, ?_⟩) ?_ ?_; rotate_left
        · intro w'; go_simp; with_reducible rfl
        rotate_left
        · simp only [Act.put, List.setIfInBounds_toArray, List.set_cons_zero, List.set_cons_succ, i64_w, i32_w]; rfl
        refine pure_ (i := 2) (N := some 90) (v := ?_) (a' := ?_) (V 15 5) rfl rfl (any_of HT_.out (by kernel_rfl)) (fun _ _ _ h => h) (Or.inl ⟨by rfl, ?_⟩) ?_ ?_; rotate_left
        · intro w'; go_simp; with_reducible rfl
        rotate_left
        · simp only [Act.put, List.setIfInBounds_toArray, List.set_cons_zero, List.set_cons_succ, i64_w, i32_w]; rfl
        refine take_ (i := 3) (N := some 91) (v := ?_) (a' := ?_) (V 15 13) rfl rfl (take_ofW HT_.out HW_.out (by kernel_rfl)) (fun _ _ _ h => h) (Or.inl ⟨by rfl, ?_⟩) hHeld ?_ ?_; rotate_left
        · rintro w' ⟨s1, s2⟩; go_simp; with_reducible rfl
        rotate_left
        · simp only [Act.put, List.setIfInBounds_toArray, List.set_cons_zero, List.set_cons_succ, i64_w, i32_w]; rfl
        refine pure_ (i := 4) (N := some 92) (v := ?_) (a' := ?_) (V 15 29) rfl rfl (any_of HT_.out (by kernel_rfl)) (fun _ _ _ h => h) (Or.inl ⟨by rfl, ?_⟩) ?_ ?_; rotate_left
        · intro w'; go_simp; with_reducible rfl
        rotate_left
        · simp only [Act.put, List.setIfInBounds_toArray, List.set_cons_zero, List.set_cons_succ, i64_w, i32_w]; rfl
        refine take_ (i := 5) (N := some 93) (v := ?_) (a' := ?_) (V 15 61) rfl rfl (take_ofW HT_.out HW_.out (by kernel_rfl)) (fun _ _ _ h => h) (Or.inl ⟨by rfl, ?_⟩) hHeld ?_ ?_; rotate_left
        · rintro w' ⟨s1, s2⟩; go_simp; with_reducible rfl
        rotate_left
        · simp only [Act.put, List.setIfInBounds_toArray, List.set_cons_zero, List.set_cons_succ, i64_w, i32_w]; rfl
        refine pure_ (i := 10) (N := some 98) (v := ?_) (a' := ?_) (V 15 1085) rfl rfl (any_of HT_.out (by kernel_rfl)) (fun _ _ _ h => h) (Or.inl ⟨by rfl, ?_⟩) ?_ ?_; rotate_left
        · intro w'; go_simp; with_reducible rfl
        rotate_left
        · simp only [Act.put, List.setIfInBounds_toArray, List.set_cons_zero, List.set_cons_succ, i64_w, i32_w]; rfl
        refine take_ (i := 11) (N := some 99) (v := ?_) (a' := ?_) (V 15 3133) rfl rfl (take_ofW HT_.out HW_.out (by kernel_rfl)) (fun _ _ _ h => h) (Or.inl ⟨by rfl, ?_⟩) hHeld ?_ ?_; rotate_left
        · rintro w' ⟨s1, s2⟩; go_simp; with_reducible rfl
        rotate_left
        · simp only [Act.put, List.setIfInBounds_toArray, List.set_cons_zero, List.set_cons_succ, i64_w, i32_w]; rfl
        refine join_ (σ := Option Addr × Nat × World) 4 (V 15 3583) (fun s => [(89, .slice A xs.length c), (94, .slice s.1 yd.length s.2.1), (95, .agg #[.int .i64 yn, .slice s.1 yd.length s.2.1]), (96, .slice (some ⟨s.2.2.heap.size, 0, none⟩) 1 1)]) (fun s w' => w' = s.2.2.alloc (.cells #[.int .i64 yn, .slice s.1 yd.length s.2.1] 50) ∧ Kd.R (Kd.int .u8) 5 s.2.2 w3.heap.size (fun _ => True) (.slice s.1 yd.length s.2.1) yd ∧ Below w3.heap.size w3 s.2.2) ?_ ?_
        rotate_left
        · intro hcont
          have HCONT := Aside0.mk hcont; clear hcont
          refine two_ (i := 1) (j := 6) (Ni := some 89) (Nj := some 94) (V 15 3135) (V 15 3197) rfl rfl rfl rfl (two_of HT_.out (by kernel_rfl)) (by decide) (by decide) (fun K hK => ?_) (fun K hK => ?_)
          · skip
            have d20 : World.cell? wd ⟨p, 20, none⟩ = some (.slice A xs.length c) := (blk_cell (blk_below JX3.out.b BD.out) 20).trans rfl
            refine value_ (w1 := ?_) (v := ?_) (by rfl) rfl ?_ ?_; rotate_left 2
            · go_simp
              constructor
              · rfl
              · rfl
            refine hK.out _ _ (⟨(blk_cell (blk_below HB3.out BD.out) 0).trans rfl, (blk_cell (blk_below HB3.out BD.out) 1).trans rfl⟩) (fun hHeld => ?_)
            clear hK K
            refine norm_ (a' := ?_) ?_ ?_; rotate_left
            · show Act.put _ (some 89) _ = _; simp only [Act.put, List.setIfInBounds_toArray, List.set_cons_zero, List.set_cons_succ, i64_w, i32_w]; rfl
            refine one_ (i := 6) (N := some 94) (V 15 3199) rfl rfl (one_of HT_.out (by kernel_rfl)) (by decide) (fun K hK => ?_)
            refine Kd.R_append_rows_step (Kd.int .u8) (w0 := wd) wd.heap.size (by rfl) (.const (.slice none 0 0)) (.tmp 93) 38 5 (.int .u8 0) 1 rfl Tryz.underlying38 info5 rfl (by decide) (by omega) (.slice none 0 0) [] yd _ _ _ (fun _ => True) (fun _ => False) rfl rfl ?aO ?aR (fun _ _ h => h) (fun _ h => h.elim) ?aF ?aB ?aS ?aL ?_
            (case aO => exact Kd.R_nil _ _ _ _ _)
            (case aR => exact Kd.C_below HY.out.2.2 (below_step JX3.out.bel BD.out))
            (case aB => exact Below.refl _ _)
            (case aF => exact (fun _ _ => trivial))
            (case aS => exact Nat.le_refl _)
            (case aL => exact (by have := HY.out.1; show (0 + yd.length) * 1 ≤ _; omega))
            intro v1 w5 ho hb hg hat
            rw [List.nil_append] at ho
            obtain ⟨Ad, cd, ed⟩ := Kd.R_slice ho
            subst ed
            have HDD := Aside0.mk (Kd.R_lower ho (below_size BD.out)); have BD5 := Aside0.mk (below_step BD.out hb); clear ho hb hg hat
            refine hK.out _ _ (⟨(blk_cell (blk_below HB3.out BD5.out) 0).trans rfl, (blk_cell (blk_below HB3.out BD5.out) 1).trans rfl⟩) (fun hHeld => ?_)
            clear hK K
            refine norm_ (a' := ?_) ?_ ?_; rotate_left
            · show Act.put _ (some 94) _ = _; simp only [Act.put, List.setIfInBounds_toArray, List.set_cons_zero, List.set_cons_succ, i64_w, i32_w]; rfl
            refine pure_ (i := 7) (N := some 95) (v := ?_) (a' := ?_) (V 15 3327) rfl rfl (any_of HT_.out (by kernel_rfl)) (fun _ _ _ h => h) (Or.inl ⟨by rfl, ?_⟩) ?_ ?_; rotate_left
            · intro w'; go_simp; with_reducible rfl
            rotate_left
            · simp only [Act.put, List.setIfInBounds_toArray, List.set_cons_zero, List.set_cons_succ, i64_w, i32_w]; rfl
            refine one_ (i := 8) (N := some 96) (V 15 3583) rfl rfl (one_of HT_.out (by kernel_rfl)) (by decide) (fun K hK => ?_)
            refine value_ (w1 := ?_) (v := ?_) (by rfl) rfl ?_ ?_; rotate_left 2
            · go_simp
              constructor
              · rfl
              · rfl
            refine hK.out _ _ (⟨(blk_cell (blk_below HB3.out (below_alloc BD5.out _)) 0).trans rfl, (blk_cell (blk_below HB3.out (below_alloc BD5.out _)) 1).trans rfl⟩) (fun hHeld => ?_)
            clear hK K
            refine norm_ (a' := ?_) ?_ ?_; rotate_left
            · show Act.put _ (some 96) _ = _; simp only [Act.put, List.setIfInBounds_toArray, List.set_cons_zero, List.set_cons_succ, i64_w, i32_w]; rfl
            refine norm_ (a' := putAll _ _) ?_ (HCONT.out ⟨Ad, cd, w5⟩ _ ⟨rfl, HDD.out, BD5.out⟩)
            simp only [putAll, Act.put, List.setIfInBounds_toArray, List.set_cons_zero, List.set_cons_succ]
          · skip
            refine Kd.R_append_rows_step (Kd.int .u8) (w0 := wd) wd.heap.size (by rfl) (.const (.slice none 0 0)) (.tmp 93) 38 5 (.int .u8 0) 1 rfl Tryz.underlying38 info5 rfl (by decide) (by omega) (.slice none 0 0) [] yd _ _ _ (fun _ => True) (fun _ => False) rfl rfl ?aO ?aR (fun _ _ h => h) (fun _ h => h.elim) ?aF ?aB ?aS ?aL ?_
            (case aO => exact Kd.R_nil _ _ _ _ _)
            (case aR => exact Kd.C_below HY.out.2.2 (below_step JX3.out.bel BD.out))
            (case aB => exact Below.refl _ _)
            (case aF => exact (fun _ _ => trivial))
            (case aS => exact Nat.le_refl _)
            (case aL => exact (by have := HY.out.1; show (0 + yd.length) * 1 ≤ _; omega))
            intro v1 w5 ho hb hg hat
            rw [List.nil_append] at ho
            obtain ⟨Ad, cd, ed⟩ := Kd.R_slice ho
            subst ed
            have HDD := Aside0.mk (Kd.R_lower ho (below_size BD.out)); have BD5 := Aside0.mk (below_step BD.out hb); clear ho hb hg hat
            refine hK.out _ _ (⟨(blk_cell (blk_below HB3.out BD5.out) 0).trans rfl, (blk_cell (blk_below HB3.out BD5.out) 1).trans rfl⟩) (fun hHeld => ?_)
            clear hK K
            refine norm_ (a' := ?_) ?_ ?_; rotate_left
            · show Act.put _ (some 94) _ = _; simp only [Act.put, List.setIfInBounds_toArray, List.set_cons_zero, List.set_cons_succ, i64_w, i32_w]; rfl
            refine pure_ (i := 7) (N := some 95) (v := ?_) (a' := ?_) (V 15 3325) rfl rfl (any_of HT_.out (by kernel_rfl)) (fun _ _ _ h => h) (Or.inl ⟨by rfl, ?_⟩) ?_ ?_; rotate_left
            · intro w'; go_simp; with_reducible rfl
            rotate_left
            · simp only [Act.put, List.setIfInBounds_toArray, List.set_cons_zero, List.set_cons_succ, i64_w, i32_w]; rfl
            refine two_ (i := 1) (j := 8) (Ni := some 89) (Nj := some 96) (V 15 3327) (V 15 3581) rfl rfl rfl rfl (two_of HT_.out (by kernel_rfl)) (by decide) (by decide) (fun K hK => ?_) (fun K hK => ?_)
            · skip
              have d20 : World.cell? w5 ⟨p, 20, none⟩ = some (.slice A xs.length c) := (blk_cell (blk_below JX3.out.b BD5.out) 20).trans rfl
              refine value_ (w1 := ?_) (v := ?_) (by rfl) rfl ?_ ?_; rotate_left 2
              · go_simp
                constructor
                · rfl
                · rfl
              refine hK.out _ _ (⟨(blk_cell (blk_below HB3.out BD5.out) 0).trans rfl, (blk_cell (blk_below HB3.out BD5.out) 1).trans rfl⟩) (fun hHeld => ?_)
              clear hK K
              refine norm_ (a' := ?_) ?_ ?_; rotate_left
              · show Act.put _ (some 89) _ = _; simp only [Act.put, List.setIfInBounds_toArray, List.set_cons_zero, List.set_cons_succ, i64_w, i32_w]; rfl
              refine one_ (i := 8) (N := some 96) (V 15 3583) rfl rfl (one_of HT_.out (by kernel_rfl)) (by decide) (fun K hK => ?_)
              refine value_ (w1 := ?_) (v := ?_) (by rfl) rfl ?_ ?_; rotate_left 2
              · go_simp
                constructor
                · rfl
                · rfl
              refine hK.out _ _ (⟨(blk_cell (blk_below HB3.out (below_alloc BD5.out _)) 0).trans rfl, (blk_cell (blk_below HB3.out (below_alloc BD5.out _)) 1).trans rfl⟩) (fun hHeld => ?_)
              clear hK K
              refine norm_ (a' := ?_) ?_ ?_; rotate_left
              · show Act.put _ (some 96) _ = _; simp only [Act.put, List.setIfInBounds_toArray, List.set_cons_zero, List.set_cons_succ, i64_w, i32_w]; rfl
              refine norm_ (a' := putAll _ _) ?_ (HCONT.out ⟨Ad, cd, w5⟩ _ ⟨rfl, HDD.out, BD5.out⟩)
              simp only [putAll, Act.put, List.setIfInBounds_toArray, List.set_cons_zero, List.set_cons_succ]
            · skip
              refine value_ (w1 := ?_) (v := ?_) (by rfl) rfl ?_ ?_; rotate_left 2
              · go_simp
                constructor
                · rfl
                · rfl
              refine hK.out _ _ (⟨(blk_cell (blk_below HB3.out (below_alloc BD5.out _)) 0).trans rfl, (blk_cell (blk_below HB3.out (below_alloc BD5.out _)) 1).trans rfl⟩) (fun hHeld => ?_)
              clear hK K
              refine norm_ (a' := ?_) ?_ ?_; rotate_left
              · show Act.put _ (some 96) _ = _; simp only [Act.put, List.setIfInBounds_toArray, List.set_cons_zero, List.set_cons_succ, i64_w, i32_w]; rfl
              refine one_ (i := 1) (N := some 89) (V 15 3583) rfl rfl (one_of HT_.out (by kernel_rfl)) (by decide) (fun K hK => ?_)
              have d20 : World.cell? (w5.alloc (.cells #[.int .i64 yn, .slice Ad yd.length cd] 50)) ⟨p, 20, none⟩ = some (.slice A xs.length c) := (blk_cell (blk_below JX3.out.b (below_alloc BD5.out _)) 20).trans rfl
              refine value_ (w1 := ?_) (v := ?_) (by rfl) rfl ?_ ?_; rotate_left 2
              · go_simp
                constructor
                · rfl
                · rfl
              refine hK.out _ _ (⟨(blk_cell (blk_below HB3.out (below_alloc BD5.out _)) 0).trans rfl, (blk_cell (blk_below HB3.out (below_alloc BD5.out _)) 1).trans rfl⟩) (fun hHeld => ?_)
              clear hK K
              refine norm_ (a' := ?_) ?_ ?_; rotate_left
              · show Act.put _ (some 89) _ = _; simp only [Act.put, List.setIfInBounds_toArray, List.set_cons_zero, List.set_cons_succ, i64_w, i32_w]; rfl
              refine norm_ (a' := putAll _ _) ?_ (HCONT.out ⟨Ad, cd, w5⟩ _ ⟨rfl, HDD.out, BD5.out⟩)
              simp only [putAll, Act.put, List.setIfInBounds_toArray, List.set_cons_zero, List.set_cons_succ]
        rintro ⟨Ad, cd, w5⟩ w5' ⟨rfl, hdd, bd5⟩
        dsimp only at hdd bd5
        have HDD := Aside0.mk hdd; clear BD hHeld; have BD := Aside0.mk bd5; clear hdd bd5
        have hHeld : (w5.alloc (.cells #[.int .i64 yn, .slice Ad yd.length cd] 50)).cell? ⟨q, 0, none⟩ = some (.int .i64 yn) ∧ (w5.alloc (.cells #[.int .i64 yn, .slice Ad yd.length cd] 50)).cell? ⟨q, 1, none⟩ = some (.slice A1 yd.length c1) := ⟨(blk_cell (blk_below HB3.out (below_alloc BD.out _)) 0).trans rfl, (blk_cell (blk_below HB3.out (below_alloc BD.out _)) 1).trans rfl⟩
        dsimp only
        refine norm_ (a' := ?_) ?_ ?_; rotate_left
        · simp only [putAll, Act.put, List.setIfInBounds_toArray, List.set_cons_zero, List.set_cons_succ]; rfl
        refine one_ (i := 9) (N := some 97) (V 15 4095) rfl rfl (one_of HT_.out (by kernel_rfl)) (by decide) (fun K hK => ?_)
        have SX5 := Aside0.mk (Kd.S_below SX3.out BD.out); have JX5 := Aside0.mk (JX3.out.below BD.out); have HB5 := Aside0.mk (blk_below HB3.out BD.out)
        refine Kd.S_append_step k50 (w0 := w) w.heap.size (by rfl) (.tmp 89) (.tmp 96) 27 50 (.agg #[.int .i64 0, .slice none 0 0]) 32 rfl Tryz.underlying27 info50 rfl (by decide) (by omega) (.slice A xs.length c) xs (⟨yn, yd⟩ : S50) [.int .i64 yn, .slice Ad yd.length cd] (fun _ => True) (fun k => some k = (Value.slice Ad yd.length cd).ownBlock) rfl rfl ?aP ?aK ?aF ?aO ?aB ?aS ?aL ?_
        (case aP => exact k50_mkM _ _ _ (⟨yn, yd⟩ : S50) (Kd.R_lower (Kd.R_tight rfl HDD.out) (below_size JX3.out.bel)))
        (case aK => exact (fun k hk => ⟨trivial, Kd.S_away SX5.out (fun k' hk' => by have h1 := Kd.R_base HDD.out k hk.symm; have h2 : k' < q := hk'.2; have h3 := blk_lt HB3.out; omega)⟩))
        (case aF => exact (fun _ _ => trivial))
        (case aO => exact Kd.S_mono SX5.out (fun k hk => ⟨trivial, fun ek => by have h1 := Kd.R_base HDD.out k ek.symm; have h2 : k < q := hk.2; have h3 := blk_lt HB3.out; omega⟩))
        (case aB => exact JX5.out.bel)
        (case aS => exact below_size JX5.out.bel)
        (case aL => exact (by omega))
        intro v2 w6 ho hb hg hat
        have JX6 := Aside0.mk (MV.grown JX5.out hg hb (fun g cs hgc => Kd.S_ne SX5.out hgc (by decide)))
        have HB6 : w6.heap[q]? = some (.cells #[.int .i64 yn, .slice A1 yd.length c1] 50 (0, 0)) := (hg.block q (blk_lt HB5.out) (Kd.S_away SX5.out (fun k' hk' => by have h2 : k' < q := hk'.2; omega))).trans HB5.out
        have SX6 := Aside0.mk ho; clear ho hb hg hat
        refine hK.out _ _ (⟨(blk_cell HB6 0).trans rfl, (blk_cell HB6 1).trans rfl⟩) (fun hHeld => ?_)
        clear hK K
        refine norm_ (a' := ?_) ?_ ?_; rotate_left
        · show Act.put _ (some 97) _ = _; simp only [Act.put, List.setIfInBounds_toArray, List.set_cons_zero, List.set_cons_succ, i64_w, i32_w]; rfl
        obtain ⟨A6, c6, e6⟩ := Kd.S_slice SX6.out
        subst e6
        refine pure_ (i := 12) (N := some 100) (v := ?_) (a' := ?_) (V 15 8191) rfl rfl (any_of HT_.out (by kernel_rfl)) (fun _ _ _ h => h) (Or.inl ⟨by rfl, ?_⟩) ?_ ?_; rotate_left
        · intro w'; go_simp; with_reducible rfl
        rotate_left
        · simp only [Act.put, List.setIfInBounds_toArray, List.set_cons_zero, List.set_cons_succ, i64_w, i32_w]; rfl
        have q20 : w6.cell? ⟨p, 20, none⟩ = some (.slice A xs.length c) := (blk_cell JX6.out.b 20).trans rfl
        have z20 := blk_frozen JX6.out.b 20
        refine one_ (i := 13) (N := none) (V 15 16383) rfl rfl (one_of HT_.out (by kernel_rfl)) (by decide) (fun K hK => ?_)
        refine skip_ (w1 := ?_) (by rfl) rfl ?_ ?_; rotate_left
        · go_simp
          rfl
        have hqp : q ≠ p := fun e => by have h := HB6; rw [e, JX6.out.b] at h; have h2 := Option.some.inj h; injection h2 with _ h3 _; exact absurd h3 (by decide)
        have HB7 : (w6.setCell ⟨p, 20, none⟩ (.slice A6 (xs.length + 1) c6)).heap[q]? = some (.cells #[.int .i64 yn, .slice A1 yd.length c1] 50 (0, 0)) := (Below.heap_setCell _ _ _ _ hqp).trans HB6
        refine hK.out _ _ (⟨(blk_cell HB7 0).trans rfl, (blk_cell HB7 1).trans rfl⟩) (fun hHeld => ?_)
        clear hK K
        refine pure_ (i := 14) (N := some 8) (v := ?_) (a' := ?_) (V 15 32767) rfl rfl (any_of HT_.out (by kernel_rfl)) (fun _ _ _ h => h) (Or.inl ⟨by rfl, ?_⟩) ?_ ?_; rotate_left
        · intro w'; go_simp; with_reducible rfl
        rotate_left
        · simp only [Act.put, List.setIfInBounds_toArray, List.set_cons_zero, List.set_cons_succ, i64_w, i32_w]; rfl
        refine done_ (done_of HT_.out (by kernel_rfl)) ?_
        try go_wp2
        have el : (xs ++ [(⟨yn, yd⟩ : S50)]).length = xs.length + 1 := by rw [List.length_append]; rfl
        have JF : Aside0 (MV w p { o with f19 := xs ++ [(⟨yn, yd⟩ : S50)] } v16 (.slice none 0 0) (.slice A6 (xs ++ [(⟨yn, yd⟩ : S50)]).length c6) mc (w6.setCell ⟨p, 20, none⟩ (.slice A6 (xs.length + 1) c6))) := ⟨by rw [el]; exact JX6.out.set 20 (.slice A6 (xs.length + 1) c6) rfl⟩
        have SF := Aside0.mk (Kd.S_set SX6.out JX6.out.b (by decide) 20 (.slice A6 (xs.length + 1) c6))
        have HLF : Aside0 (OthOK (xs ++ [(⟨yn, yd⟩ : S50)]) ∧ ∀ t ∈ xs ++ [(⟨yn, yd⟩ : S50)], t.f0 ≤ yn) := ⟨oth_snoc HL.out.1 HL.out.2 (by omega) hn (HSP.out.symm.trans (by rfl)) (HER.out.symm.trans e0.out)⟩
        clear el
        go_roundg (x.f19.length - (kk + 1))
        case measure => omega
        case rel => exact ⟨kk + 1, yn, A6, c6, _, by go_num, rfl, by omega, by omega, HLF, JF, SF⟩
  case rest =>
    obtain ⟨z, B19, d19, B20, d20, HZ, JZ⟩ := hcut
    clear hbs
    have e17 : wc.cell? ⟨p + 1, 17, none⟩ = some (.string x.f16) := (blk_cell JZ.out.m 17).trans HMC.out.1
    clear J0
    go_wp2_with fail
    refine (unhex_e x.f16 _ HX.out.s16).mono ?_
    rintro e w1 ⟨Ab, nb, cb, rfl, hn, hB⟩
    obtain ⟨er, her⟩ : ∃ r, r = hexE x.f16 := ⟨_, rfl⟩
    rw [← her]
    have HHX : Aside0 (er = 0 → nb = 4 → hexE x.f16 = 0 ∧ x.f16.size = 8) := ⟨fun h1 h4 => by
      have h0 := her.symm.trans h1
      have := hn h0
      exact ⟨h0, by omega⟩⟩
    clear her hn
    have JA := Aside0.mk (JZ.out.below hB)
    have HZA := Aside0.mk (And.intro (Kd.R_below HZ.out.2.2.1 hB) (Kd.S_below HZ.out.2.2.2 hB))
    clear hB e17 JZ
    have e17 : w1.cell? ⟨p + 1, 17, none⟩ = some (.string x.f16) := (blk_cell JA.out.m 17).trans HMC.out.1
    have q17 : w1.cell? ⟨p, 17, none⟩ = some (.string z.f16) := (blk_cell JA.out.b 17).trans rfl
    have z17 := blk_frozen JA.out.b 17
    obtain ⟨b0, hb0⟩ : ∃ b, (er == 0) = b := ⟨_, rfl⟩
    obtain ⟨b4, hb4⟩ : ∃ b, ((nb : Int) == 4) = b := ⟨_, rfl⟩
    have HB04 : Aside0 (b0 = true → b4 = true → hexE x.f16 = 0 ∧ x.f16.size = 8) := ⟨fun h1 h4 => by
      have e1 : er = 0 := beq_iff_eq.1 (hb0.trans h1)
      have e4 : (nb : Int) = 4 := beq_iff_eq.1 (hb4.trans h4)
      exact HHX.out e1 (by omega)⟩
    go_upto_region 16 with fail
    go_cut [113] from 101 to 113 (fun s113 wc => ∃ b : Bool, s113 = .bool b ∧ wc = w1 ∧ Aside0 (b = true → hexE x.f16 = 0 ∧ x.f16.size = 8))
    case first =>
      cases b0 with
      | true =>
        go_wp2_with fail
        go_meet
        exact ⟨_, rfl, rfl, ⟨fun h => HB04.out (by first | trivial | rfl) h⟩⟩
      | false =>
        go_wp2_with fail
        go_meet
        exact ⟨_, rfl, rfl, ⟨fun h => absurd h (by decide)⟩⟩
    case rest =>
    obtain ⟨b, rfl, rfl, HB⟩ := hcut
    clear hb0 hb4
    go_upto_if 113 with fail
    go_cut [] from 101 to 116 (fun wc => ∃ z' : S29, Aside0 (MoreOf o side z' ∧ z'.f18 = z.f18 ∧ z'.f19 = z.f19) ∧ Aside0 (MV w p z' v16 (.slice B19 z.f18.length d19) (.slice B20 z.f19.length d20) mc wc) ∧ Aside0 (Kd.R k48 48 wc w.heap.size (fun _ => True) (.slice B19 z.f18.length d19) z.f18 ∧ Kd.S k50 50 wc w.heap.size (fun _ => True) (.slice B20 z.f19.length d20) z.f19))
    case first =>
      cases b with
      | false =>
        go_wp2_with fail
        go_meet
        exact ⟨z, ⟨HZ.out.1, rfl, rfl⟩, JA, HZA⟩
      | true =>
        go_wp2_with fail
        have JC : Aside0 (MV w p { z with f16 := x.f16 } v16 (.slice B19 z.f18.length d19) (.slice B20 z.f19.length d20) mc (wc.setCell ⟨p, 17, none⟩ (.string x.f16))) := ⟨JA.out.set 17 (.string x.f16) rfl⟩
        have HZC : Aside0 (MoreOf o side { z with f16 := x.f16 } ∧ ({ z with f16 := x.f16 } : S29).f18 = z.f18 ∧ ({ z with f16 := x.f16 } : S29).f19 = z.f19) := ⟨⟨⟨by obtain ⟨a, b, c, d, e⟩ := HZ.out.1.same; exact ⟨x.f16, b, c, d, by rw [e]⟩, (.inr (HB.out (by first | trivial | rfl))), HZ.out.1.s17, HZ.out.1.l18, HZ.out.1.e18, HZ.out.1.o19, HZ.out.1.xml, HZ.out.1.bit⟩, rfl, rfl⟩⟩
        have HCC := Aside0.mk (And.intro (R_set1 HZA.out.1 JA.out.b (by decide) 17 (.string x.f16)) (Kd.S_set HZA.out.2 JA.out.b (by decide) 17 (.string x.f16)))
        go_meet
        exact ⟨_, HZC, JC, HCC⟩
    case rest =>
      obtain ⟨z', HZ', JB0, HC0⟩ := hcut
      have e18 := HZ'.out.2.1
      have e19 := HZ'.out.2.2
      have JB : Aside0 (MV w p z' v16 (.slice B19 z'.f18.length d19) (.slice B20 z'.f19.length d20) mc wc) := ⟨by rw [e18, e19]; exact JB0.out⟩
      have HC : Aside0 (Kd.R k48 48 wc w.heap.size (fun _ => True) (.slice B19 z'.f18.length d19) z'.f18 ∧ Kd.S k50 50 wc w.heap.size (fun _ => True) (.slice B20 z'.f19.length d20) z'.f19) := ⟨by rw [e18, e19]; exact HC0.out⟩
      clear e18 e19 JB0 HC0 q17 z17 e17 JA HZA HZ
      obtain ⟨old, ho, hs⟩ := JB.out.r
      have HOLD := Aside0.mk (And.intro ho hs)
      clear ho hs
      go_wp2_with (first | ((with_reducible refine gate_dst (N := 117) rfl ?_); refine wpList_load_row rfl 29 (.tmp 3) rfl p rfl 29 (rowM z' v16 (.slice B19 z'.f18.length d19) (.slice B20 z'.f19.length d20)) (0, 0) _ JB.out.b hu29.out rfl (by kernel_rfl) ?_) | ((with_reducible refine gate_store (t := 29) (p := 6) rfl ?_); refine Go.Proofs.YthapknnppabdaaaGreat.Fill.store_event rfl 29 _ _ rfl (p + 1 + 1) (rowM z' v16 (.slice B19 z'.f18.length d19) (.slice B20 z'.f19.length d20)) rfl rfl 29 old HOLD.out.1 (by kernel_rfl) (by rw [HOLD.out.2]; rfl) (rowM_one z' HO.out.2.2.2.2.1) ?_; intro w9 ea eb ec; have HE := Aside0.mk (And.intro ea (And.intro eb ec)); clear ea eb ec))
      refine bodyPost_ret (results_cell_row (fn := Tryz.f24) (p := 6) (ty := 29) (by rfl) _ _ (p + 1 + 1) 29 (rowM z' v16 (.slice B19 z'.f18.length d19) (.slice B20 z'.f19.length d20)) (0, 0) _ (by rfl) HE.out.1 hu29.out rfl (by kernel_rfl)) rfl ?_
      have hR := Kd.R_types (Kd.R_mono HC.out.1 (fun _ _ => trivial)) HOLD.out.1 (by decide)
      have hS := Kd.S_types (Kd.S_mono HC.out.2 (fun _ _ => trivial)) HOLD.out.1 (by decide)
      have hR2 := Kd.R_keep hR HE.out.2.1 (fun k hk => hk.2)
      have hS2 := Kd.S_keep hS HE.out.2.1 (fun k hk => hk.2)
      exact ⟨z', B19, d19, B20, d20, rfl, HZ'.out.1, (Kd.R_reads' hR2).2.1, (Kd.S_reads' hS2).2.1, (fun W' h => ⟨(Kd.R_reads' (Kd.R_step (Kd.R_bound hR2) (fun k hk hlt => h k hk.2.1 hlt))).2.2, (Kd.S_reads' (Kd.S_step (Kd.S_bound hS2) (fun k hk hlt => h k hk.2.1 hlt))).2.2⟩), HE.out.2.2 _ _ JB.out.bel (by have := JB.out.lo; omega)⟩
end Go.Proofs.YthapknnppabdaaaGreat.MQ
