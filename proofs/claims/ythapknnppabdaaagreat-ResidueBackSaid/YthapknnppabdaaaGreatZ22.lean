/- ResidueBack: part 22 of its proof. -/
import Derived.Test.YthapknnppabdaaaGreatZ21
import Derived.Shelf.Abstract
namespace Go.Proofs.YthapknnppabdaaaGreat.MQ
open Go.RowKit Go.Proofs.YthapknnppabdaaaGreatW.PrintWords Go.Proofs.YthapknnppabdaaaGreatW.PrintLast Go.Proofs.YthapknnppabdaaaGreatW.PrintMore
set_option linter.unusedVariables false
set_option linter.unusedSimpArgs false
set_option maxHeartbeats 4000000 in
theorem has_x (s : ByteArray) (c : Int) (w : World) (hs : s.size ≤ 140737488355328) : Calls Tryz.prog 18 #[.string s, .int .u8 c] w fun e w' => e = .returned (.bool (hasB s c)) ∧ Below w.heap.size w w' := by
  have HS := Aside0.mk hs
  go_enter Tryz.func18, Tryz.ntmps18
  go_wp2_with fail
  go_loopg [5] s.size (fun gg s5 wr => ∃ kk : Nat, kk ≤ s.size ∧ s.size - kk ≤ gg ∧ s5 = .int .i64 kk ∧ Aside0 (Below w.heap.size w wr) ∧ Aside0 (∀ j : Nat, j < kk → bt s (j : Int) ≠ c))
  case atStart => exact ⟨0, Nat.zero_le _, by omega, rfl, ⟨Below.refl _ w⟩, ⟨fun j hj => absurd hj (Nat.not_lt_zero _)⟩⟩
  case round =>
    obtain ⟨kk, hkk, hg, rfl, BW, NO⟩ := hrel
    by_cases hlt : kk < s.size
    · have hltz : (kk : Int) < (s.size : Int) := by omega
      have hx := byte_at s kk
      obtain ⟨d, hd⟩ : ∃ d, d = bt s (kk : Int) := ⟨_, rfl⟩
      rw [← hd] at hx
      replace hd := Aside0.mk hd
      by_cases q : d = c
      · have q' : (d == c) = true := beq_iff_eq.mpr q
        have HQ := Aside0.mk (hasB_yes s c kk hlt (by rw [← hd.out]; exact q))
        replace q := Aside0.mk q
        go_wp2_with fail
        go_ret
        exact ⟨by rw [HQ.out]; rfl, BW.out⟩
      · have q' : (d == c) = false := beq_eq_false_iff_ne.mpr q
        have HN : Aside0 (∀ j : Nat, j < kk + 1 → bt s (j : Int) ≠ c) := ⟨fun j hj => by
          by_cases e : j = kk
          · subst e; rw [← hd.out]; exact q
          · exact NO.out j (by omega)⟩
        replace q := Aside0.mk q
        go_wp2_with fail
        go_roundg (s.size - (kk + 1))
        case measure => omega
        case rel => exact ⟨kk + 1, by omega, by omega, by go_num, BW, HN⟩
    · have hltz : ¬ (kk : Int) < (s.size : Int) := by omega
      have HQ := Aside0.mk (hasB_no s c (fun j hj => NO.out j (by omega)))
      go_wp2_with fail
      go_ret
      exact ⟨by rw [HQ.out]; rfl, BW.out⟩
/-- Is this letter of a row wanted, if it is there? -/
def wantB (must may : ByteArray) (c : Int) (there : Bool) : Bool := hasB must c || (there && hasB may c)
set_option maxHeartbeats 4000000 in
theorem want_x (must may : ByteArray) (c : Int) (there : Bool) (p : Nat) (w : World) (h2 : w.cell? ⟨p, 2, none⟩ = some (.string must)) (h3 : w.cell? ⟨p, 3, none⟩ = some (.string may)) (n2 : must.size ≤ 140737488355328) (n3 : may.size ≤ 140737488355328) :
    Calls Tryz.prog 17 #[.int .u8 c, .bool there, .pointer (some ⟨p, 0, none⟩)] w fun e w' => e = .returned (.bool (wantB must may c there)) ∧ Below w.heap.size w w' := by
  have hu56 := Tryz.underlying56
  have H2 := Aside0.mk (has_x must c w n2)
  go_enter Tryz.func17, Tryz.ntmps17
  go_wp2_with fail
  refine H2.out.mono ?_
  rintro e w1 ⟨rfl, hB⟩
  have BW := Aside0.mk hB
  have e3 : w1.cell? ⟨p, 3, none⟩ = some (.string may) := (hB.cell (World.block_lt_of_cell? w _ h3)).trans h3
  clear hB H2 h2 h3
  have H3 := Aside0.mk (has_x may c w1 n3)
  cases hq : hasB must c with
  | true =>
    have HW : Aside0 (wantB must may c there = true) := ⟨by unfold wantB; rw [hq]; rfl⟩
    go_wp2_with fail
    go_ret
    exact ⟨by rw [HW.out]; rfl, BW.out⟩
  | false =>
    cases there with
    | false =>
      have HW : Aside0 (wantB must may c false = false) := ⟨by unfold wantB; rw [hq]; rfl⟩
      go_wp2_with fail
      go_ret
      exact ⟨by rw [HW.out]; rfl, BW.out⟩
    | true =>
      have HW : Aside0 (wantB must may c true = hasB may c) := ⟨by unfold wantB; rw [hq]; rfl⟩
      go_wp2_with fail
      refine H3.out.mono ?_
      rintro e w2 ⟨rfl, hB⟩
      replace BW := Aside0.mk (below_step BW.out hB)
      clear hB
      go_wp2_with fail
      go_ret
      exact ⟨by rw [HW.out]; rfl, BW.out⟩
theorem dig_sized {low top : Int} {t : ByteArray} (h : DigT low top t) : low ≤ (t.size : Int) ∧ (t.size : Int) ≤ top := (right_iff.1 h).2
theorem aln_sized {top : Int} {t : ByteArray} (h : AlnT top t) : top ≤ (t.size : Int) := (aln_size h).1
theorem time_sized {t : ByteArray} (h : TimeT t) : t.size = 14 := by have := (right_iff.1 (timeF_right h)).2; omega
theorem amt_mod {v : Int} (h : 0 ≤ v) : 0 ≤ v.tmod 1000000000000 ∧ v.tmod 1000000000000 ≤ 999999999999 := by
  rw [Int.tmod_eq_emod_of_nonneg h]
  omega
theorem act_ne {s : ByteArray} (h : (wordsF s).2.2 = true) : s.size ≠ 0 := fun q => by have := (right_iff.1 ((words_is s).2.yes h).2.2).2; omega
def actionList : List ByteArray := (comptoirref07_Actions.f 100).getD []
theorem actions_is : comptoirref07_Actions.f 100 = some actionList := by kernel_rfl
theorem actions_good : 0 < actionList.length ∧ actionList.length ≤ 1000 ∧ ∀ x ∈ actionList, (wordsF x).2.2 = true := by
  have h : (decide (0 < actionList.length) && (decide (actionList.length ≤ 1000) && actionList.all (fun x => (wordsF x).2.2))) = true := by decide +kernel
  rw [Bool.and_eq_true, Bool.and_eq_true, decide_eq_true_eq, decide_eq_true_eq, List.all_eq_true] at h
  exact h
theorem actions_x (w : World) : Calls Tryz.prog 21 #[] w fun e w' => ∃ v : Value, e = .returned v ∧ Kd.R Kd.string 9 w' w.heap.size (fun _ => True) v actionList ∧ Below w.heap.size w w' := comptoirref07_Actions.calls 100 actionList w actions_is
theorem rows_small (i : Int) : (rd_T56 rowList i).f2.size ≤ 140737488355328 ∧ (rd_T56 rowList i).f3.size ≤ 140737488355328 := by
  have h : rowList.all (fun r => decide (r.f2.size ≤ 140737488355328) && decide (r.f3.size ≤ 140737488355328)) = true := by kernel_rfl
  unfold rd_T56
  rw [List.getD_eq_getElem?_getD]
  rcases Nat.lt_or_ge i.toNat rowList.length with h1 | h1
  · rw [List.getElem?_eq_getElem h1, Option.getD_some]
    rw [List.all_eq_true] at h
    have := h _ (List.getElem_mem h1)
    rw [Bool.and_eq_true, decide_eq_true_eq, decide_eq_true_eq] at this
    exact this
  · rw [List.getElem?_eq_none h1, Option.getD_none]
    exact ⟨by decide, by decide⟩
/-- A field that a row has: it must be there, or it may be. -/
def Fit (must may : ByteArray) (c : Int) (p : Prop) : Prop := (hasB must c = true → p) ∧ (p → hasB must c = true ∨ hasB may c = true)
theorem fit_yes {must may : ByteArray} {c : Int} {b : Bool} {p : Prop} (h : wantB must may c b = true) (hp : p) : Fit must may c p := by
  refine ⟨fun _ => hp, fun _ => ?_⟩
  unfold wantB at h
  rw [Bool.or_eq_true, Bool.and_eq_true] at h
  rcases h with h | h
  · exact Or.inl h
  · exact Or.inr h.2
theorem fit_no {must may : ByteArray} {c : Int} {b : Bool} {p : Prop} (h : wantB must may c b = false) (hp : ¬ p) : Fit must may c p := by
  refine ⟨fun hm => ?_, fun h => absurd h hp⟩
  unfold wantB at h
  rw [hm] at h
  cases h
/-- A message that a side may say. -/
structure MsgOf (side : Int) (z : S29) : Prop where
  kd : 1 ≤ z.f0 ∧ z.f0 ≤ 11
  sta : 0 ≤ z.f1 ∧ z.f1 < 1000000
  tim : timeF z.f2 = true
  acq : rightF z.f3 1 11 = true
  pan : Fit (mustOf z.f0) (mayOf z.f0) 80 (z.f4.size ≠ 0) ∧ (z.f4.size ≠ 0 → rightF z.f4 12 19 = true)
  cur : Fit (mustOf z.f0) (mayOf z.f0) 67 (z.f5.size ≠ 0) ∧ (z.f5.size ≠ 0 → rightF z.f5 3 3 = true)
  amt : (z.f5.size = 0 → z.f6 = 0) ∧ 0 ≤ z.f6 ∧ z.f6 ≤ 999999999999
  rrn : Fit (mustOf z.f0) (mayOf z.f0) 82 (z.f7.size ≠ 0) ∧ (z.f7.size ≠ 0 → alnF z.f7 12 12 = true)
  mer : Fit (mustOf z.f0) (mayOf z.f0) 77 (z.f8.size ≠ 0) ∧ (z.f8.size ≠ 0 → (side = 1 → TextOf 15 side z.f8) ∧ (side ≠ 1 → TextOf 35 side z.f8))
  ter : Fit (mustOf z.f0) (mayOf z.f0) 84 (z.f9.size ≠ 0) ∧ (z.f9.size ≠ 0 → (side = 1 → TextOf 8 side z.f9) ∧ (side ≠ 1 → TextOf 35 side z.f9))
  app : Fit (mustOf z.f0) (mayOf z.f0) 65 (z.f10.size ≠ 0) ∧ (z.f10.size ≠ 0 → alnF z.f10 6 6 = true)
  ent : Fit (mustOf z.f0) (mayOf z.f0) 69 (z.f11 ≠ 0) ∧ 0 ≤ z.f11 ∧ z.f11 ≤ 999
  act : Fit (mustOf z.f0) (mayOf z.f0) 68 (z.f12.size ≠ 0) ∧ (z.f12.size ≠ 0 → (wordsF z.f12).2.2 = true)
  rea : Fit (mustOf z.f0) (mayOf z.f0) 78 (z.f13.size ≠ 0) ∧ (z.f13.size ≠ 0 → rightF z.f13 4 4 = true)
  ori : Fit (mustOf z.f0) (mayOf z.f0) 79 (z.f14.f1.size ≠ 0) ∧ (z.f14.f1.size ≠ 0 → timeF z.f14.f1 = true)
  stn : (z.f14.f1.size = 0 → z.f14.f0 = 0) ∧ 0 ≤ z.f14.f0 ∧ z.f14.f0 < 1000000
  tag : Fit (mustOf z.f0) (mayOf z.f0) 71 (z.f15.length ≠ 0)
  few : FewTags z.f15
  more : MoreOf { z with f16 := ⟨#[]⟩, f17 := ⟨#[]⟩, f18 := [], f19 := [] } side z
def MsgEnd (side : Int) (w : World) (e : Ending) (w' : World) : Prop := ∃ (z : S29) (B16 : Option Addr) (d16 : Nat) (B19 : Option Addr) (d19 : Nat) (B20 : Option Addr) (d20 : Nat), e = .returned (.agg (rowM z (.slice B16 z.f15.length d16) (.slice B19 z.f18.length d19) (.slice B20 z.f19.length d20))) ∧ MsgOf side z ∧ z.f15.length ≤ d16 ∧ z.f18.length ≤ d19 ∧ z.f19.length ≤ d20 ∧ (∀ W' : World, (∀ k, w.heap.size ≤ k → k < w'.heap.size → W'.heap[k]? = w'.heap[k]?) → k46.C W' B16 z.f15.length z.f15 ∧ k48.C W' B19 z.f18.length z.f18 ∧ k50.C W' B20 z.f19.length z.f19) ∧ Below w.heap.size w w'
/-- The message that came in, the answer's place, in blocks p and p + 1. -/
structure MM (w : World) (p : Nat) (mc : Array Value) (W : World) : Prop where
  m : W.heap[p]? = some (.cells mc 29 (0, 0))
  r : ∃ old, W.heap[p + 1]? = some (.cells old 29 (0, 0)) ∧ old.size = 21
  bel : Below w.heap.size w W
  lo : w.heap.size ≤ p
theorem MM.below {w : World} {p : Nat} {mc : Array Value} {W W' : World} (h : MM w p mc W) (hb : Below W.heap.size W W') : MM w p mc W' := by
  obtain ⟨old, ho, hs⟩ := h.r
  exact ⟨blk_below h.m hb, ⟨old, blk_below ho hb, hs⟩, below_step h.bel hb, h.lo⟩
def zeroM : Array Value := rowM ⟨0, 0, ⟨#[]⟩, ⟨#[]⟩, ⟨#[]⟩, ⟨#[]⟩, 0, ⟨#[]⟩, ⟨#[]⟩, ⟨#[]⟩, ⟨#[]⟩, 0, ⟨#[]⟩, ⟨#[]⟩, ⟨0, ⟨#[]⟩⟩, [], ⟨#[]⟩, ⟨#[]⟩, [], []⟩ (.slice none 0 0) (.slice none 0 0) (.slice none 0 0)
theorem mm_start (w : World) (mc : Array Value) : MM w w.heap.size mc ((w.alloc (.cells mc 29)).alloc (.cells zeroM 29)) :=
  ⟨blk_alloc (blk_new w _) _, ⟨_, blk_new2 w _ _, rfl⟩, below_alloc (below_alloc (Below.refl _ w) _) _, Nat.le_refl _⟩
/-- The message that is made, field by field. -/
def zP (kd r2 : Int) (t3 a4 f4 f5 : ByteArray) (f6 : Int) (f7 f8 f9 f10 : ByteArray) (f11 : Int) (f12 f13 : ByteArray) (o0 : Int) (o1 : ByteArray) (l15 : List S46) : S29 := ⟨kd, r2, t3, a4, f4, f5, f6, f7, f8, f9, f10, f11, f12, f13, ⟨o0, o1⟩, l15, ⟨#[]⟩, ⟨#[]⟩, [], []⟩
/-- The message that came in, the answer's place, the message that is made, the row that its kind has. -/
structure MS (w : World) (p p5 p6 : Nat) (mc : Array Value) (rr : S56) (z : S29) (v16 : Value) (W : World) : Prop where
  m : W.heap[p]? = some (.cells mc 29 (0, 0))
  r : ∃ old, W.heap[p + 1]? = some (.cells old 29 (0, 0)) ∧ old.size = 21
  o : W.heap[p5]? = some (.cells (rowM z v16 (.slice none 0 0) (.slice none 0 0)) 29 (0, 0))
  k : W.heap[p6]? = some (.cells #[.string rr.f0, .string rr.f1, .string rr.f2, .string rr.f3] 56 (0, 0))
  bel : Below w.heap.size w W
  lo : w.heap.size ≤ p
  lt : p + 1 < p5
theorem MS.below {w : World} {p p5 p6 : Nat} {mc : Array Value} {rr : S56} {z : S29} {v16 : Value} {W W' : World} (h : MS w p p5 p6 mc rr z v16 W) (hb : Below W.heap.size W W') : MS w p p5 p6 mc rr z v16 W' := by
  obtain ⟨old, ho, hs⟩ := h.r
  exact ⟨blk_below h.m hb, ⟨old, blk_below ho hb, hs⟩, blk_below h.o hb, blk_below h.k hb, below_step h.bel hb, h.lo, h.lt⟩
theorem MS.set {w : World} {p p5 p6 : Nat} {mc : Array Value} {rr : S56} {z z' : S29} {v16 v16' : Value} {W : World} (h : MS w p p5 p6 mc rr z v16 W) (i : Nat) (v : Value)
    (hr : (rowM z v16 (.slice none 0 0) (.slice none 0 0)).setIfInBounds i v = rowM z' v16' (.slice none 0 0) (.slice none 0 0)) : MS w p p5 p6 mc rr z' v16' (W.setCell ⟨p5, i, none⟩ v) := by
  obtain ⟨old, ho, hs⟩ := h.r
  have hl := h.lt
  have h6 : p6 ≠ p5 := fun e => by
    have h1 := h.k
    rw [e, h.o] at h1
    have h2 := Option.some.inj h1
    injection h2 with _ h3 _
    exact absurd h3 (by decide)
  have f : ∀ n, n ≠ p5 → (W.setCell ⟨p5, i, none⟩ v).heap[n]? = W.heap[n]? := fun n hn => Below.heap_setCell _ _ _ _ hn
  exact ⟨(f _ (by omega)).trans h.m, ⟨old, (f _ (by omega)).trans ho, hs⟩, by rw [← hr]; exact blk_set h.o _ _, (f _ h6).trans h.k, below_set h.bel (by show w.heap.size ≤ p5; have := h.lo; omega), h.lo, h.lt⟩
def T18_1 : Bool × List (List Nat × List Nat) := (true, [([], []), ([0], [0]), ([1], [1]), ([2], [2]), ([3], [3]), ([], []), ([5], [5]), ([6, 3], [6]), ([], []), ([8], [8]), ([9, 7], [9]), ([], []), ([11], [11]), ([12, 10], [12]), ([4, 7, 10, 13], [4, 7, 10, 13]), ([], []), ([15, 14, 13, 0, 1, 2, 3, 4, 5, 6, 7, 8, 9, 10, 11, 12, 13, 14, 15], [14, 15])])
def B18_1 : List Nat := [0, 1, 3, 7, 15, 0, 32, 111, 0, 256, 1007, 0, 2048, 8175, 16383, 0, 65535]
theorem tab18_1 : rtab .any (opsOf Tryz.f7 1) = T18_1 := by kernel_rfl
theorem bits18_1 : waitsOk T18_1.2 B18_1 = true := by kernel_rfl
def T18_2 : Bool × List (List Nat × List Nat) := (true, [([], []), ([], []), ([1], [1]), ([0, 2], [0, 2]), ([3], [3]), ([], []), ([5, 4, 0, 0, 1, 2, 3, 4, 5], [4, 5])])
def B18_2 : List Nat := [0, 0, 2, 7, 15, 0, 63]
theorem tab18_2 : rtab .any (opsOf Tryz.f7 2) = T18_2 := by kernel_rfl
theorem bits18_2 : waitsOk T18_2.2 B18_2 = true := by kernel_rfl
def T18_7 : Bool × List (List Nat × List Nat) := (true, [([], []), ([0], [0]), ([1], [1]), ([], []), ([3], [3]), ([4], [4]), ([0, 1, 2], []), ([6, 2, 2, 0, 1, 2], [2, 6]), ([0, 1, 2, 3, 4, 5, 6, 7], []), ([8, 5, 7, 0, 1, 2, 3, 4, 5, 6, 7], [5, 8])])
def B18_7 : List Nat := [0, 1, 3, 0, 8, 24, 7, 71, 255, 511]
theorem tab18_7 : rtab .any (opsOf Tryz.f7 7) = T18_7 := by kernel_rfl
theorem bits18_7 : waitsOk T18_7.2 B18_7 = true := by kernel_rfl
def T18_29 : Bool × List (List Nat × List Nat) := (true, [([], []), ([0], [0]), ([1], [1]), ([2], [2]), ([], []), ([4], [4]), ([5], [5]), ([6, 3], [6]), ([3, 7], [3, 7]), ([0, 1, 2, 3, 4, 5, 6, 7, 8], []), ([9, 8, 7, 0, 1, 2, 3, 4, 5, 6, 7, 8], [8, 9])])
def B18_29 : List Nat := [0, 1, 3, 7, 0, 16, 48, 127, 255, 511, 1023]
theorem tab18_29 : rtab .any (opsOf Tryz.f7 29) = T18_29 := by kernel_rfl
theorem bits18_29 : waitsOk T18_29.2 B18_29 = true := by kernel_rfl

set_option maxHeartbeats 16000000 in
set_option maxRecDepth 100000 in
theorem msg_x (x : S29) (side : Int) (A16 : Option Addr) (c16 : Nat) (A19 : Option Addr) (c19 : Nat) (A20 : Option Addr) (c20 : Nat) (w : World) (hx : MsgIn x) (l16 : x.f15.length ≤ c16) (g16 : k46.C w A16 x.f15.length x.f15) (l19 : x.f18.length ≤ c19) (g19 : k48.C w A19 x.f18.length x.f18) (l20 : x.f19.length ≤ c20) (g20 : k50.C w A20 x.f19.length x.f19) :
    Calls Tryz.prog 7 #[.agg (rowM x (.slice A16 x.f15.length c16) (.slice A19 x.f18.length c19) (.slice A20 x.f19.length c20)), .int .i64 side] w (MsgEnd side w) := by
  have hu29 := Aside0.mk Tryz.underlying29
  have hu24 := Tryz.underlying24
  have hu56 := Tryz.underlying56
  have HX := Aside0.mk hx
  have HG := Aside0.mk (And.intro l16 (And.intro g16 (And.intro l19 (And.intro g19 (And.intro l20 g20)))))
  clear hx l16 g16 l19 g19 l20 g20
  obtain ⟨mc, hmc⟩ : ∃ mc, mc = rowM x (.slice A16 x.f15.length c16) (.slice A19 x.f18.length c19) (.slice A20 x.f19.length c20) := ⟨_, rfl⟩
  rw [← hmc]
  have HMC := Aside0.mk hmc
  clear hmc
  go_enter Tryz.func7, Tryz.ntmps7
  go_upto_region 1 with fail
  obtain ⟨p, hp⟩ : ∃ p, p = w.heap.size := ⟨_, rfl⟩
  have J0 := mm_start w mc
  rw [← hp] at J0 ⊢
  clear hp
  revert J0
  change MM w p mc ((w.alloc (.cells mc 29)).alloc (.cells zeroM 29)) → Code.wp _ _ _ _ ((w.alloc (.cells mc 29)).alloc (.cells zeroM 29))
  generalize ((w.alloc (.cells mc 29)).alloc (.cells zeroM 29)) = W0
  intro J0
  have JD := Aside0.mk (J0.below (below_drew1 (Below.refl _ _)))
  clear J0
  refine start_ (n := 17) (ds := []) (S := fun w' => w'.cell? ⟨p, 0, none⟩ = some (.int .i64 x.f0) ∧ w'.cell? ⟨p, 1, none⟩ = some (.int .i64 x.f1) ∧ w'.cell? ⟨p, 2, none⟩ = some (.string x.f2) ∧ w'.cell? ⟨p, 3, none⟩ = some (.string x.f3)) (V 17 0) (by rfl) (by rfl) (by kernel_rfl) (⟨(blk_cell JD.out.m 0).trans (by rw [HMC.out]; rfl), (blk_cell JD.out.m 1).trans (by rw [HMC.out]; rfl), (blk_cell JD.out.m 2).trans (by rw [HMC.out]; rfl), (blk_cell JD.out.m 3).trans (by rw [HMC.out]; rfl)⟩) (fun hHeld => ?_); refine with_tabW tab18_1 bits18_1 (fun HT_ HW_ => ?_)
  generalize W0.drew = wd at JD hHeld ⊢
  refine pure_ (i := 0) (N := some 11) (v := ?_) (a' := ?_) (V 17 1) rfl rfl (any_of HT_.out (by kernel_rfl)) (fun _ _ _ h => h) (Or.inl ⟨by rfl, ?_⟩) ?_ ?_; rotate_left
  · intro w'; go_simp; with_reducible rfl
  rotate_left
  · simp only [Act.put, List.setIfInBounds_toArray, List.set_cons_zero, List.set_cons_succ, i64_w, i32_w]; rfl
  refine take_ (i := 1) (N := some 12) (v := ?_) (a' := ?_) (V 17 3) rfl rfl (take_ofW HT_.out HW_.out (by kernel_rfl)) (fun _ _ _ h => h) (Or.inl ⟨by rfl, ?_⟩) hHeld ?_ ?_; rotate_left
  · rintro w' ⟨s0, s1, s2, s3⟩; go_simp; with_reducible rfl
  rotate_left
  · simp only [Act.put, List.setIfInBounds_toArray, List.set_cons_zero, List.set_cons_succ, i64_w, i32_w]; rfl
  refine pure_ (i := 2) (N := some 13) (v := ?_) (a' := ?_) (V 17 7) rfl rfl (any_of HT_.out (by kernel_rfl)) (fun _ _ _ h => h) (Or.inl ⟨by rfl, ?_⟩) ?_ ?_; rotate_left
  · intro w'; go_simp; with_reducible rfl
  rotate_left
  · simp only [Act.put, List.setIfInBounds_toArray, List.set_cons_zero, List.set_cons_succ, i64_w, i32_w]; rfl
  refine pure_ (i := 5) (N := some 16) (v := ?_) (a' := ?_) (V 17 39) rfl rfl (any_of HT_.out (by kernel_rfl)) (fun _ _ _ h => h) (Or.inl ⟨by rfl, ?_⟩) ?_ ?_; rotate_left
  · intro w'; go_simp; with_reducible rfl
  rotate_left
  · simp only [Act.put, List.setIfInBounds_toArray, List.set_cons_zero, List.set_cons_succ, i64_w, i32_w]; rfl
  refine take_ (i := 6) (N := some 17) (v := ?_) (a' := ?_) (V 17 103) rfl rfl (take_ofW HT_.out HW_.out (by kernel_rfl)) (fun _ _ _ h => h) (Or.inl ⟨by rfl, ?_⟩) hHeld ?_ ?_; rotate_left
  · rintro w' ⟨s0, s1, s2, s3⟩; go_simp; with_reducible rfl
  rotate_left
  · simp only [Act.put, List.setIfInBounds_toArray, List.set_cons_zero, List.set_cons_succ, i64_w, i32_w]; rfl
  refine pure_ (i := 8) (N := some 19) (v := ?_) (a' := ?_) (V 17 359) rfl rfl (any_of HT_.out (by kernel_rfl)) (fun _ _ _ h => h) (Or.inl ⟨by rfl, ?_⟩) ?_ ?_; rotate_left
  · intro w'; go_simp; with_reducible rfl
  rotate_left
  · simp only [Act.put, List.setIfInBounds_toArray, List.set_cons_zero, List.set_cons_succ, i64_w, i32_w]; rfl
  refine take_ (i := 9) (N := some 20) (v := ?_) (a' := ?_) (V 17 871) rfl rfl (take_ofW HT_.out HW_.out (by kernel_rfl)) (fun _ _ _ h => h) (Or.inl ⟨by rfl, ?_⟩) hHeld ?_ ?_; rotate_left
  · rintro w' ⟨s0, s1, s2, s3⟩; go_simp; with_reducible rfl
  rotate_left
  · simp only [Act.put, List.setIfInBounds_toArray, List.set_cons_zero, List.set_cons_succ, i64_w, i32_w]; rfl
  refine pure_ (i := 11) (N := some 22) (v := ?_) (a' := ?_) (V 17 2919) rfl rfl (any_of HT_.out (by kernel_rfl)) (fun _ _ _ h => h) (Or.inl ⟨by rfl, ?_⟩) ?_ ?_; rotate_left
  · intro w'; go_simp; with_reducible rfl
  rotate_left
  · simp only [Act.put, List.setIfInBounds_toArray, List.set_cons_zero, List.set_cons_succ, i64_w, i32_w]; rfl
  refine take_ (i := 12) (N := some 23) (v := ?_) (a' := ?_) (V 17 7015) rfl rfl (take_ofW HT_.out HW_.out (by kernel_rfl)) (fun _ _ _ h => h) (Or.inl ⟨by rfl, ?_⟩) hHeld ?_ ?_; rotate_left
  · rintro w' ⟨s0, s1, s2, s3⟩; go_simp; with_reducible rfl
  rotate_left
  · simp only [Act.put, List.setIfInBounds_toArray, List.set_cons_zero, List.set_cons_succ, i64_w, i32_w]; rfl
  refine join_ (σ := Int × Int × ByteArray × ByteArray × Nat) 1 (V 17 65535) (fun s => [(14, .int .i64 s.1), (15, .int .i64 (wrap64 (1 + s.1))), (18, .int .i64 s.2.1), (21, .string s.2.2.1), (24, .string s.2.2.2.1), (25, .agg (rowM ⟨wrap64 (1 + s.1), s.2.1, s.2.2.1, s.2.2.2.1, ⟨#[]⟩, ⟨#[]⟩, 0, ⟨#[]⟩, ⟨#[]⟩, ⟨#[]⟩, ⟨#[]⟩, 0, ⟨#[]⟩, ⟨#[]⟩, ⟨0, ⟨#[]⟩⟩, [], ⟨#[]⟩, ⟨#[]⟩, [], []⟩ (.slice none 0 0) (.slice none 0 0) (.slice none 0 0))), (5, .pointer (some ⟨s.2.2.2.2, 0, none⟩))]) (fun s w' => ((((0 ≤ s.1 ∧ s.1 < 11) ∧ (0 ≤ s.2.1 ∧ s.2.1 < 1000000)) ∧ TimeT s.2.2.1) ∧ DigT 1 11 s.2.2.2.1) ∧ MM w p mc w' ∧ w'.heap[s.2.2.2.2]? = some (.cells zeroM 29 (0, 0)) ∧ p + 1 < s.2.2.2.2) ?_ ?_
  rotate_left
  · intro hcont
    have H4 := Aside0.mk hcont; clear hcont
    refine join_ (σ := Int × Int × ByteArray × ByteArray × Nat) 3 (V 17 40959) (fun s => [(14, .int .i64 s.1), (15, .int .i64 (wrap64 (1 + s.1))), (18, .int .i64 s.2.1), (21, .string s.2.2.1), (5, .pointer (some ⟨s.2.2.2.2, 0, none⟩))]) (fun s w' => (((0 ≤ s.1 ∧ s.1 < 11) ∧ (0 ≤ s.2.1 ∧ s.2.1 < 1000000)) ∧ TimeT s.2.2.1) ∧ MM w p mc w' ∧ w'.heap[s.2.2.2.2]? = some (.cells zeroM 29 (0, 0)) ∧ p + 1 < s.2.2.2.2) ?_ ?_
    rotate_left
    · intro hcont
      have H3 := Aside0.mk hcont; clear hcont
      refine join_ (σ := Int × Int × ByteArray × ByteArray × Nat) 4 (V 17 39935) (fun s => [(14, .int .i64 s.1), (15, .int .i64 (wrap64 (1 + s.1))), (18, .int .i64 s.2.1), (5, .pointer (some ⟨s.2.2.2.2, 0, none⟩))]) (fun s w' => ((0 ≤ s.1 ∧ s.1 < 11) ∧ (0 ≤ s.2.1 ∧ s.2.1 < 1000000)) ∧ MM w p mc w' ∧ w'.heap[s.2.2.2.2]? = some (.cells zeroM 29 (0, 0)) ∧ p + 1 < s.2.2.2.2) ?_ ?_
      rotate_left
      · intro hcont
        have H2 := Aside0.mk hcont; clear hcont
        refine join_ (σ := Int × Int × ByteArray × ByteArray × Nat) 5 (V 17 39807) (fun s => [(14, .int .i64 s.1), (15, .int .i64 (wrap64 (1 + s.1))), (5, .pointer (some ⟨s.2.2.2.2, 0, none⟩))]) (fun s w' => (0 ≤ s.1 ∧ s.1 < 11) ∧ MM w p mc w' ∧ w'.heap[s.2.2.2.2]? = some (.cells zeroM 29 (0, 0)) ∧ p + 1 < s.2.2.2.2) ?_ ?_
        rotate_left
        · intro hcont
          have H1 := Aside0.mk hcont; clear hcont
          refine join_ (σ := Int × Int × ByteArray × ByteArray × Nat) 7 (V 17 39783) (fun s => [(5, .pointer (some ⟨s.2.2.2.2, 0, none⟩))]) (fun s w' => MM w p mc w' ∧ w'.heap[s.2.2.2.2]? = some (.cells zeroM 29 (0, 0)) ∧ p + 1 < s.2.2.2.2) ?_ ?_
          rotate_left
          · intro hcont
            have H0 := Aside0.mk hcont; clear hcont
            refine two_ (i := 3) (j := 15) (Ni := some 14) (Nj := some 5) (V 17 7023) (V 17 39783) rfl rfl rfl rfl (two_of HT_.out (by kernel_rfl)) (by decide) (by decide) (fun K hK => ?_) (fun K hK => ?_)
            rotate_left
            · skip
              refine value_ (w1 := ?_) (v := ?_) (by rfl) rfl ?_ ?_; rotate_left 2
              · go_simp
                constructor
                · rfl
                · rfl
              refine hK.out _ _ (⟨(blk_cell (JD.out.below (below_alloc (Below.refl _ _) (.cells zeroM 29))).m 0).trans (by rw [HMC.out]; rfl), (blk_cell (JD.out.below (below_alloc (Below.refl _ _) (.cells zeroM 29))).m 1).trans (by rw [HMC.out]; rfl), (blk_cell (JD.out.below (below_alloc (Below.refl _ _) (.cells zeroM 29))).m 2).trans (by rw [HMC.out]; rfl), (blk_cell (JD.out.below (below_alloc (Below.refl _ _) (.cells zeroM 29))).m 3).trans (by rw [HMC.out]; rfl)⟩) (fun hHeld => ?_)
              clear hK K
              refine norm_ (a' := ?_) ?_ ?_; rotate_left
              · show Act.put _ (some 5) _ = _; simp only [Act.put, List.setIfInBounds_toArray, List.set_cons_zero, List.set_cons_succ, i64_w, i32_w]; rfl
              refine norm_ (a' := putAll _ _) ?_ (H0.out (0, 0, ⟨#[]⟩, ⟨#[]⟩, wd.heap.size) _ ⟨JD.out.below (below_alloc (Below.refl _ _) (.cells zeroM 29)), blk_new wd _, blk_lt (Classical.choose_spec JD.out.r).1⟩)
              simp only [putAll, Act.put, List.setIfInBounds_toArray, List.set_cons_zero, List.set_cons_succ, rowM]
            refine goes_ Tryz.func13 (by kernel_rfl) rfl #[.int .i64 (wrap64 (x.f0 - 1)), .int .i64 11] (by rfl) rfl rfl (by (try simp only [List.map_toArray, List.map_cons, List.map_nil]); first | done | rfl) ?_
            with_reducible refine (mod_x (wrap64 (x.f0 - 1)) 11 _ (by omega) (by omega)).mono ?_
            rintro e w1 ⟨r1, rfl, hr1, hB⟩
            refine ⟨_, rfl, ?_⟩
            have HR1 := Aside0.mk hr1; have h10 := hr1.1; have h11 := hr1.2; clear hr1
            have JE := Aside0.mk (JD.out.below hB); clear hB JD hHeld; have JD := JE; clear JE
            refine hK.out _ _ (⟨(blk_cell JD.out.m 0).trans (by rw [HMC.out]; rfl), (blk_cell JD.out.m 1).trans (by rw [HMC.out]; rfl), (blk_cell JD.out.m 2).trans (by rw [HMC.out]; rfl), (blk_cell JD.out.m 3).trans (by rw [HMC.out]; rfl)⟩) (fun hHeld => ?_)
            clear hK K
            refine norm_ (a' := ?_) ?_ ?_; rotate_left
            · show Act.put _ (some 14) _ = _; simp only [Act.put, List.setIfInBounds_toArray, List.set_cons_zero, List.set_cons_succ, i64_w, i32_w]; rfl
            refine pure_ (i := 4) (N := some 15) (v := ?_) (a' := ?_) (V 17 7039) rfl rfl (any_of HT_.out (by kernel_rfl)) (fun _ _ _ h => h) (Or.inl ⟨by rfl, ?_⟩) ?_ ?_; rotate_left
            · intro w'; go_simp; with_reducible rfl
            rotate_left
            · simp only [Act.put, List.setIfInBounds_toArray, List.set_cons_zero, List.set_cons_succ, i64_w, i32_w]; rfl
            refine two_ (i := 7) (j := 15) (Ni := some 18) (Nj := some 5) (V 17 7167) (V 17 39807) rfl rfl rfl rfl (two_of HT_.out (by kernel_rfl)) (by decide) (by decide) (fun K hK => ?_) (fun K hK => ?_)
            rotate_left
            · skip
              refine value_ (w1 := ?_) (v := ?_) (by rfl) rfl ?_ ?_; rotate_left 2
              · go_simp
                constructor
                · rfl
                · rfl
              refine hK.out _ _ (⟨(blk_cell (JD.out.below (below_alloc (Below.refl _ _) (.cells zeroM 29))).m 0).trans (by rw [HMC.out]; rfl), (blk_cell (JD.out.below (below_alloc (Below.refl _ _) (.cells zeroM 29))).m 1).trans (by rw [HMC.out]; rfl), (blk_cell (JD.out.below (below_alloc (Below.refl _ _) (.cells zeroM 29))).m 2).trans (by rw [HMC.out]; rfl), (blk_cell (JD.out.below (below_alloc (Below.refl _ _) (.cells zeroM 29))).m 3).trans (by rw [HMC.out]; rfl)⟩) (fun hHeld => ?_)
              clear hK K
              refine norm_ (a' := ?_) ?_ ?_; rotate_left
              · show Act.put _ (some 5) _ = _; simp only [Act.put, List.setIfInBounds_toArray, List.set_cons_zero, List.set_cons_succ, i64_w, i32_w]; rfl
              refine norm_ (a' := putAll _ _) ?_ (H1.out (r1, 0, ⟨#[]⟩, ⟨#[]⟩, w1.heap.size) _ ⟨HR1.out, JD.out.below (below_alloc (Below.refl _ _) (.cells zeroM 29)), blk_new w1 _, blk_lt (Classical.choose_spec JD.out.r).1⟩)
              simp only [putAll, Act.put, List.setIfInBounds_toArray, List.set_cons_zero, List.set_cons_succ, rowM]
            refine goes_ Tryz.func13 (by kernel_rfl) rfl #[.int .i64 x.f1, .int .i64 1000000] (by rfl) rfl rfl (by (try simp only [List.map_toArray, List.map_cons, List.map_nil]); first | done | rfl) ?_
            with_reducible refine (mod_x x.f1 1000000 _ (by omega) (by omega)).mono ?_
            rintro e w2 ⟨r2, rfl, hr2, hB⟩
            have HR2 := Aside0.mk (And.intro HR1.out hr2); clear hr2
            refine ⟨_, rfl, ?_⟩
            have JE := Aside0.mk (JD.out.below hB); clear hB JD hHeld; have JD := JE; clear JE
            refine hK.out _ _ (⟨(blk_cell JD.out.m 0).trans (by rw [HMC.out]; rfl), (blk_cell JD.out.m 1).trans (by rw [HMC.out]; rfl), (blk_cell JD.out.m 2).trans (by rw [HMC.out]; rfl), (blk_cell JD.out.m 3).trans (by rw [HMC.out]; rfl)⟩) (fun hHeld => ?_)
            clear hK K
            refine norm_ (a' := ?_) ?_ ?_; rotate_left
            · show Act.put _ (some 18) _ = _; simp only [Act.put, List.setIfInBounds_toArray, List.set_cons_zero, List.set_cons_succ, i64_w, i32_w]; rfl
            refine two_ (i := 10) (j := 15) (Ni := some 21) (Nj := some 5) (V 17 8191) (V 17 39935) rfl rfl rfl rfl (two_of HT_.out (by kernel_rfl)) (by decide) (by decide) (fun K hK => ?_) (fun K hK => ?_)
            rotate_left
            · skip
              refine value_ (w1 := ?_) (v := ?_) (by rfl) rfl ?_ ?_; rotate_left 2
              · go_simp
                constructor
                · rfl
                · rfl
              refine hK.out _ _ (⟨(blk_cell (JD.out.below (below_alloc (Below.refl _ _) (.cells zeroM 29))).m 0).trans (by rw [HMC.out]; rfl), (blk_cell (JD.out.below (below_alloc (Below.refl _ _) (.cells zeroM 29))).m 1).trans (by rw [HMC.out]; rfl), (blk_cell (JD.out.below (below_alloc (Below.refl _ _) (.cells zeroM 29))).m 2).trans (by rw [HMC.out]; rfl), (blk_cell (JD.out.below (below_alloc (Below.refl _ _) (.cells zeroM 29))).m 3).trans (by rw [HMC.out]; rfl)⟩) (fun hHeld => ?_)
              clear hK K
              refine norm_ (a' := ?_) ?_ ?_; rotate_left
              · show Act.put _ (some 5) _ = _; simp only [Act.put, List.setIfInBounds_toArray, List.set_cons_zero, List.set_cons_succ, i64_w, i32_w]; rfl
              refine norm_ (a' := putAll _ _) ?_ (H2.out (r1, r2, ⟨#[]⟩, ⟨#[]⟩, w2.heap.size) _ ⟨HR2.out, JD.out.below (below_alloc (Below.refl _ _) (.cells zeroM 29)), blk_new w2 _, blk_lt (Classical.choose_spec JD.out.r).1⟩)
              simp only [putAll, Act.put, List.setIfInBounds_toArray, List.set_cons_zero, List.set_cons_succ, rowM]
            refine goes_ Tryz.func14 (by kernel_rfl) rfl #[.string x.f2] (by rfl) rfl rfl (by (try simp only [List.map_toArray, List.map_cons, List.map_nil]); first | done | rfl) ?_
            with_reducible refine (playTime_x x.f2 _ HX.out.s2).mono ?_
            rintro e w3 ⟨t3, rfl, hr3, hB⟩
            have HR3 := Aside0.mk (And.intro HR2.out hr3); clear hr3
            refine ⟨_, rfl, ?_⟩
            have JE := Aside0.mk (JD.out.below hB); clear hB JD hHeld; have JD := JE; clear JE
            refine hK.out _ _ (⟨(blk_cell JD.out.m 0).trans (by rw [HMC.out]; rfl), (blk_cell JD.out.m 1).trans (by rw [HMC.out]; rfl), (blk_cell JD.out.m 2).trans (by rw [HMC.out]; rfl), (blk_cell JD.out.m 3).trans (by rw [HMC.out]; rfl)⟩) (fun hHeld => ?_)
            clear hK K
            refine norm_ (a' := ?_) ?_ ?_; rotate_left
            · show Act.put _ (some 21) _ = _; simp only [Act.put, List.setIfInBounds_toArray, List.set_cons_zero, List.set_cons_succ, i64_w, i32_w]; rfl
            refine two_ (i := 13) (j := 15) (Ni := some 24) (Nj := some 5) (V 17 16383) (V 17 40959) rfl rfl rfl rfl (two_of HT_.out (by kernel_rfl)) (by decide) (by decide) (fun K hK => ?_) (fun K hK => ?_)
            rotate_left
            · skip
              refine value_ (w1 := ?_) (v := ?_) (by rfl) rfl ?_ ?_; rotate_left 2
              · go_simp
                constructor
                · rfl
                · rfl
              refine hK.out _ _ (⟨(blk_cell (JD.out.below (below_alloc (Below.refl _ _) (.cells zeroM 29))).m 0).trans (by rw [HMC.out]; rfl), (blk_cell (JD.out.below (below_alloc (Below.refl _ _) (.cells zeroM 29))).m 1).trans (by rw [HMC.out]; rfl), (blk_cell (JD.out.below (below_alloc (Below.refl _ _) (.cells zeroM 29))).m 2).trans (by rw [HMC.out]; rfl), (blk_cell (JD.out.below (below_alloc (Below.refl _ _) (.cells zeroM 29))).m 3).trans (by rw [HMC.out]; rfl)⟩) (fun hHeld => ?_)
              clear hK K
              refine norm_ (a' := ?_) ?_ ?_; rotate_left
              · show Act.put _ (some 5) _ = _; simp only [Act.put, List.setIfInBounds_toArray, List.set_cons_zero, List.set_cons_succ, i64_w, i32_w]; rfl
              refine norm_ (a' := putAll _ _) ?_ (H3.out (r1, r2, t3, ⟨#[]⟩, w3.heap.size) _ ⟨HR3.out, JD.out.below (below_alloc (Below.refl _ _) (.cells zeroM 29)), blk_new w3 _, blk_lt (Classical.choose_spec JD.out.r).1⟩)
              simp only [putAll, Act.put, List.setIfInBounds_toArray, List.set_cons_zero, List.set_cons_succ, rowM]
            refine goes_ Tryz.func15 (by kernel_rfl) rfl #[.string x.f3, .int .i64 1, .int .i64 11] (by rfl) rfl rfl (by (try simp only [List.map_toArray, List.map_cons, List.map_nil]); first | done | rfl) ?_
            with_reducible refine (digits_x x.f3 1 11 _ HX.out.s3 (by omega) (by omega) (by omega)).mono ?_
            rintro e w4 ⟨a4, rfl, hr4, hB⟩
            have HR4 := Aside0.mk (And.intro HR3.out hr4); clear hr4
            refine ⟨_, rfl, ?_⟩
            have JE := Aside0.mk (JD.out.below hB); clear hB JD hHeld; have JD := JE; clear JE
            refine hK.out _ _ (⟨(blk_cell JD.out.m 0).trans (by rw [HMC.out]; rfl), (blk_cell JD.out.m 1).trans (by rw [HMC.out]; rfl), (blk_cell JD.out.m 2).trans (by rw [HMC.out]; rfl), (blk_cell JD.out.m 3).trans (by rw [HMC.out]; rfl)⟩) (fun hHeld => ?_)
            clear hK K
            refine norm_ (a' := ?_) ?_ ?_; rotate_left
            · show Act.put _ (some 24) _ = _; simp only [Act.put, List.setIfInBounds_toArray, List.set_cons_zero, List.set_cons_succ, i64_w, i32_w]; rfl
            refine pure_ (i := 14) (N := some 25) (v := ?_) (a' := ?_) (V 17 32767) rfl rfl (any_of HT_.out (by kernel_rfl)) (fun _ _ _ h => h) (Or.inl ⟨by rfl, ?_⟩) ?_ ?_; rotate_left
            · intro w'; go_simp; with_reducible rfl
            rotate_left
            · simp only [Act.put, List.setIfInBounds_toArray, List.set_cons_zero, List.set_cons_succ, i64_w, i32_w]; rfl
            refine one_ (i := 15) (N := some 5) (V 17 65535) rfl rfl (one_of HT_.out (by kernel_rfl)) (by decide) (fun K hK => ?_)
            refine value_ (w1 := ?_) (v := ?_) (by rfl) rfl ?_ ?_; rotate_left 2
            · go_simp
              constructor
              · rfl
              · rfl
            refine hK.out _ _ (⟨(blk_cell (JD.out.below (below_alloc (Below.refl _ _) (.cells zeroM 29))).m 0).trans (by rw [HMC.out]; rfl), (blk_cell (JD.out.below (below_alloc (Below.refl _ _) (.cells zeroM 29))).m 1).trans (by rw [HMC.out]; rfl), (blk_cell (JD.out.below (below_alloc (Below.refl _ _) (.cells zeroM 29))).m 2).trans (by rw [HMC.out]; rfl), (blk_cell (JD.out.below (below_alloc (Below.refl _ _) (.cells zeroM 29))).m 3).trans (by rw [HMC.out]; rfl)⟩) (fun hHeld => ?_)
            clear hK K
            refine norm_ (a' := ?_) ?_ ?_; rotate_left
            · show Act.put _ (some 5) _ = _; simp only [Act.put, List.setIfInBounds_toArray, List.set_cons_zero, List.set_cons_succ, i64_w, i32_w]; rfl
            refine norm_ (a' := putAll _ _) ?_ (H4.out (r1, r2, t3, a4, w4.heap.size) _ ⟨HR4.out, JD.out.below (below_alloc (Below.refl _ _) (.cells zeroM 29)), blk_new w4 _, blk_lt (Classical.choose_spec JD.out.r).1⟩)
            simp only [putAll, Act.put, List.setIfInBounds_toArray, List.set_cons_zero, List.set_cons_succ, rowM]
          rintro ⟨r1, r2, t3, a4, p5⟩ v0 ⟨jm, jz, jlt⟩
          dsimp only at jz jlt ⊢
          clear JD hHeld; have JD := Aside0.mk jm; have JZ := Aside0.mk jz; have JL := Aside0.mk jlt; clear jm jz jlt
          have hHeld : v0.cell? ⟨p, 0, none⟩ = some (.int .i64 x.f0) ∧ v0.cell? ⟨p, 1, none⟩ = some (.int .i64 x.f1) ∧ v0.cell? ⟨p, 2, none⟩ = some (.string x.f2) ∧ v0.cell? ⟨p, 3, none⟩ = some (.string x.f3) := ⟨(blk_cell JD.out.m 0).trans (by rw [HMC.out]; rfl), (blk_cell JD.out.m 1).trans (by rw [HMC.out]; rfl), (blk_cell JD.out.m 2).trans (by rw [HMC.out]; rfl), (blk_cell JD.out.m 3).trans (by rw [HMC.out]; rfl)⟩
          refine norm_ (a' := ?_) ?_ ?_; rotate_left
          · simp only [putAll, Act.put, List.setIfInBounds_toArray, List.set_cons_zero, List.set_cons_succ]; rfl
          refine one_ (i := 3) (N := some 14) (V 17 39791) rfl rfl (one_of HT_.out (by kernel_rfl)) (by decide) (fun K hK => ?_)
          refine goes_ Tryz.func13 (by kernel_rfl) rfl #[.int .i64 (wrap64 (x.f0 - 1)), .int .i64 11] (by rfl) rfl rfl (by (try simp only [List.map_toArray, List.map_cons, List.map_nil]); first | done | rfl) ?_
          with_reducible refine (mod_x (wrap64 (x.f0 - 1)) 11 _ (by omega) (by omega)).mono ?_
          rintro e w1 ⟨r1, rfl, hr1, hB⟩
          refine ⟨_, rfl, ?_⟩
          have HR1 := Aside0.mk hr1; have h10 := hr1.1; have h11 := hr1.2; clear hr1
          have JE := Aside0.mk (JD.out.below hB); have JY := Aside0.mk (blk_below JZ.out hB); clear hB JD JZ hHeld; have JD := JE; have JZ := JY; clear JE JY
          refine hK.out _ _ (⟨(blk_cell JD.out.m 0).trans (by rw [HMC.out]; rfl), (blk_cell JD.out.m 1).trans (by rw [HMC.out]; rfl), (blk_cell JD.out.m 2).trans (by rw [HMC.out]; rfl), (blk_cell JD.out.m 3).trans (by rw [HMC.out]; rfl)⟩) (fun hHeld => ?_)
          clear hK K
          refine norm_ (a' := ?_) ?_ ?_; rotate_left
          · show Act.put _ (some 14) _ = _; simp only [Act.put, List.setIfInBounds_toArray, List.set_cons_zero, List.set_cons_succ, i64_w, i32_w]; rfl
          refine pure_ (i := 4) (N := some 15) (v := ?_) (a' := ?_) (V 17 39807) rfl rfl (any_of HT_.out (by kernel_rfl)) (fun _ _ _ h => h) (Or.inl ⟨by rfl, ?_⟩) ?_ ?_; rotate_left
          · intro w'; go_simp; with_reducible rfl
          rotate_left
          · simp only [Act.put, List.setIfInBounds_toArray, List.set_cons_zero, List.set_cons_succ, i64_w, i32_w]; rfl
          refine norm_ (a' := putAll _ _) ?_ (H1.out (r1, 0, ⟨#[]⟩, ⟨#[]⟩, p5) _ ⟨HR1.out, JD.out, JZ.out, JL.out⟩)
          simp only [putAll, Act.put, List.setIfInBounds_toArray, List.set_cons_zero, List.set_cons_succ, rowM]
        rintro ⟨r1, r2, t3, a4, p5⟩ v1 ⟨hr1, jm, jz, jlt⟩
        dsimp only at hr1 jz jlt ⊢
        have HR1 := Aside0.mk hr1; have h10 := hr1.1; have h11 := hr1.2; clear hr1
        clear JD hHeld; have JD := Aside0.mk jm; have JZ := Aside0.mk jz; have JL := Aside0.mk jlt; clear jm jz jlt
        have hHeld : v1.cell? ⟨p, 0, none⟩ = some (.int .i64 x.f0) ∧ v1.cell? ⟨p, 1, none⟩ = some (.int .i64 x.f1) ∧ v1.cell? ⟨p, 2, none⟩ = some (.string x.f2) ∧ v1.cell? ⟨p, 3, none⟩ = some (.string x.f3) := ⟨(blk_cell JD.out.m 0).trans (by rw [HMC.out]; rfl), (blk_cell JD.out.m 1).trans (by rw [HMC.out]; rfl), (blk_cell JD.out.m 2).trans (by rw [HMC.out]; rfl), (blk_cell JD.out.m 3).trans (by rw [HMC.out]; rfl)⟩
        refine norm_ (a' := ?_) ?_ ?_; rotate_left
        · simp only [putAll, Act.put, List.setIfInBounds_toArray, List.set_cons_zero, List.set_cons_succ]; rfl
        refine one_ (i := 7) (N := some 18) (V 17 39935) rfl rfl (one_of HT_.out (by kernel_rfl)) (by decide) (fun K hK => ?_)
        refine goes_ Tryz.func13 (by kernel_rfl) rfl #[.int .i64 x.f1, .int .i64 1000000] (by rfl) rfl rfl (by (try simp only [List.map_toArray, List.map_cons, List.map_nil]); first | done | rfl) ?_
        with_reducible refine (mod_x x.f1 1000000 _ (by omega) (by omega)).mono ?_
        rintro e w2 ⟨r2, rfl, hr2, hB⟩
        have HR2 := Aside0.mk (And.intro HR1.out hr2); clear hr2
        refine ⟨_, rfl, ?_⟩
        have JE := Aside0.mk (JD.out.below hB); have JY := Aside0.mk (blk_below JZ.out hB); clear hB JD JZ hHeld; have JD := JE; have JZ := JY; clear JE JY
        refine hK.out _ _ (⟨(blk_cell JD.out.m 0).trans (by rw [HMC.out]; rfl), (blk_cell JD.out.m 1).trans (by rw [HMC.out]; rfl), (blk_cell JD.out.m 2).trans (by rw [HMC.out]; rfl), (blk_cell JD.out.m 3).trans (by rw [HMC.out]; rfl)⟩) (fun hHeld => ?_)
        clear hK K
        refine norm_ (a' := ?_) ?_ ?_; rotate_left
        · show Act.put _ (some 18) _ = _; simp only [Act.put, List.setIfInBounds_toArray, List.set_cons_zero, List.set_cons_succ, i64_w, i32_w]; rfl
        refine norm_ (a' := putAll _ _) ?_ (H2.out (r1, r2, ⟨#[]⟩, ⟨#[]⟩, p5) _ ⟨HR2.out, JD.out, JZ.out, JL.out⟩)
        simp only [putAll, Act.put, List.setIfInBounds_toArray, List.set_cons_zero, List.set_cons_succ, rowM]
      rintro ⟨r1, r2, t3, a4, p5⟩ v2 ⟨hr1, jm, jz, jlt⟩
      dsimp only at hr1 jz jlt ⊢
      have HR2 := Aside0.mk hr1; have h10 := hr1.1.1; have h11 := hr1.1.2; clear hr1
      clear JD hHeld; have JD := Aside0.mk jm; have JZ := Aside0.mk jz; have JL := Aside0.mk jlt; clear jm jz jlt
      have hHeld : v2.cell? ⟨p, 0, none⟩ = some (.int .i64 x.f0) ∧ v2.cell? ⟨p, 1, none⟩ = some (.int .i64 x.f1) ∧ v2.cell? ⟨p, 2, none⟩ = some (.string x.f2) ∧ v2.cell? ⟨p, 3, none⟩ = some (.string x.f3) := ⟨(blk_cell JD.out.m 0).trans (by rw [HMC.out]; rfl), (blk_cell JD.out.m 1).trans (by rw [HMC.out]; rfl), (blk_cell JD.out.m 2).trans (by rw [HMC.out]; rfl), (blk_cell JD.out.m 3).trans (by rw [HMC.out]; rfl)⟩
      refine norm_ (a' := ?_) ?_ ?_; rotate_left
      · simp only [putAll, Act.put, List.setIfInBounds_toArray, List.set_cons_zero, List.set_cons_succ]; rfl
      refine one_ (i := 10) (N := some 21) (V 17 40959) rfl rfl (one_of HT_.out (by kernel_rfl)) (by decide) (fun K hK => ?_)
      refine goes_ Tryz.func14 (by kernel_rfl) rfl #[.string x.f2] (by rfl) rfl rfl (by (try simp only [List.map_toArray, List.map_cons, List.map_nil]); first | done | rfl) ?_
      with_reducible refine (playTime_x x.f2 _ HX.out.s2).mono ?_
      rintro e w3 ⟨t3, rfl, hr3, hB⟩
      have HR3 := Aside0.mk (And.intro HR2.out hr3); clear hr3
      refine ⟨_, rfl, ?_⟩
      have JE := Aside0.mk (JD.out.below hB); have JY := Aside0.mk (blk_below JZ.out hB); clear hB JD JZ hHeld; have JD := JE; have JZ := JY; clear JE JY
      refine hK.out _ _ (⟨(blk_cell JD.out.m 0).trans (by rw [HMC.out]; rfl), (blk_cell JD.out.m 1).trans (by rw [HMC.out]; rfl), (blk_cell JD.out.m 2).trans (by rw [HMC.out]; rfl), (blk_cell JD.out.m 3).trans (by rw [HMC.out]; rfl)⟩) (fun hHeld => ?_)
      clear hK K
      refine norm_ (a' := ?_) ?_ ?_; rotate_left
      · show Act.put _ (some 21) _ = _; simp only [Act.put, List.setIfInBounds_toArray, List.set_cons_zero, List.set_cons_succ, i64_w, i32_w]; rfl
      refine norm_ (a' := putAll _ _) ?_ (H3.out (r1, r2, t3, ⟨#[]⟩, p5) _ ⟨HR3.out, JD.out, JZ.out, JL.out⟩)
      simp only [putAll, Act.put, List.setIfInBounds_toArray, List.set_cons_zero, List.set_cons_succ, rowM]
    rintro ⟨r1, r2, t3, a4, p5⟩ v3 ⟨hr1, jm, jz, jlt⟩
    dsimp only at hr1 jz jlt ⊢
    have HR3 := Aside0.mk hr1; have h10 := hr1.1.1.1; have h11 := hr1.1.1.2; clear hr1
    clear JD hHeld; have JD := Aside0.mk jm; have JZ := Aside0.mk jz; have JL := Aside0.mk jlt; clear jm jz jlt
    have hHeld : v3.cell? ⟨p, 0, none⟩ = some (.int .i64 x.f0) ∧ v3.cell? ⟨p, 1, none⟩ = some (.int .i64 x.f1) ∧ v3.cell? ⟨p, 2, none⟩ = some (.string x.f2) ∧ v3.cell? ⟨p, 3, none⟩ = some (.string x.f3) := ⟨(blk_cell JD.out.m 0).trans (by rw [HMC.out]; rfl), (blk_cell JD.out.m 1).trans (by rw [HMC.out]; rfl), (blk_cell JD.out.m 2).trans (by rw [HMC.out]; rfl), (blk_cell JD.out.m 3).trans (by rw [HMC.out]; rfl)⟩
    refine norm_ (a' := ?_) ?_ ?_; rotate_left
    · simp only [putAll, Act.put, List.setIfInBounds_toArray, List.set_cons_zero, List.set_cons_succ]; rfl
    refine one_ (i := 13) (N := some 24) (V 17 49151) rfl rfl (one_of HT_.out (by kernel_rfl)) (by decide) (fun K hK => ?_)
    refine goes_ Tryz.func15 (by kernel_rfl) rfl #[.string x.f3, .int .i64 1, .int .i64 11] (by rfl) rfl rfl (by (try simp only [List.map_toArray, List.map_cons, List.map_nil]); first | done | rfl) ?_
    with_reducible refine (digits_x x.f3 1 11 _ HX.out.s3 (by omega) (by omega) (by omega)).mono ?_
    rintro e w4 ⟨a4, rfl, hr4, hB⟩
    have HR4 := Aside0.mk (And.intro HR3.out hr4); clear hr4
    refine ⟨_, rfl, ?_⟩
    have JE := Aside0.mk (JD.out.below hB); have JY := Aside0.mk (blk_below JZ.out hB); clear hB JD JZ hHeld; have JD := JE; have JZ := JY; clear JE JY
    refine hK.out _ _ (⟨(blk_cell JD.out.m 0).trans (by rw [HMC.out]; rfl), (blk_cell JD.out.m 1).trans (by rw [HMC.out]; rfl), (blk_cell JD.out.m 2).trans (by rw [HMC.out]; rfl), (blk_cell JD.out.m 3).trans (by rw [HMC.out]; rfl)⟩) (fun hHeld => ?_)
    clear hK K
    refine norm_ (a' := ?_) ?_ ?_; rotate_left
    · show Act.put _ (some 24) _ = _; simp only [Act.put, List.setIfInBounds_toArray, List.set_cons_zero, List.set_cons_succ, i64_w, i32_w]; rfl
    refine pure_ (i := 14) (N := some 25) (v := ?_) (a' := ?_) (V 17 65535) rfl rfl (any_of HT_.out (by kernel_rfl)) (fun _ _ _ h => h) (Or.inl ⟨by rfl, ?_⟩) ?_ ?_; rotate_left
    · intro w'; go_simp; with_reducible rfl
    rotate_left
    · simp only [Act.put, List.setIfInBounds_toArray, List.set_cons_zero, List.set_cons_succ, i64_w, i32_w]; rfl
    refine norm_ (a' := putAll _ _) ?_ (H4.out (r1, r2, t3, a4, p5) _ ⟨HR4.out, JD.out, JZ.out, JL.out⟩)
    simp only [putAll, Act.put, List.setIfInBounds_toArray, List.set_cons_zero, List.set_cons_succ, rowM]
  rintro ⟨r1, r2, t3, a4, p5⟩ v4 ⟨hr1, jm, jz, jlt⟩
  dsimp only at hr1 jz jlt ⊢
  have HR4 := Aside0.mk hr1; have h10 := hr1.1.1.1.1; have h11 := hr1.1.1.1.2; clear hr1
  clear JD hHeld; have JD := Aside0.mk jm; have JZ := Aside0.mk jz; have JL := Aside0.mk jlt; clear jm jz jlt
  have hHeld : v4.cell? ⟨p, 0, none⟩ = some (.int .i64 x.f0) ∧ v4.cell? ⟨p, 1, none⟩ = some (.int .i64 x.f1) ∧ v4.cell? ⟨p, 2, none⟩ = some (.string x.f2) ∧ v4.cell? ⟨p, 3, none⟩ = some (.string x.f3) := ⟨(blk_cell JD.out.m 0).trans (by rw [HMC.out]; rfl), (blk_cell JD.out.m 1).trans (by rw [HMC.out]; rfl), (blk_cell JD.out.m 2).trans (by rw [HMC.out]; rfl), (blk_cell JD.out.m 3).trans (by rw [HMC.out]; rfl)⟩
  refine norm_ (a' := ?_) ?_ ?_; rotate_left
  · simp only [putAll, Act.put, List.setIfInBounds_toArray, List.set_cons_zero, List.set_cons_succ]; rfl
  refine one_ (i := 16) (N := none) (V 17 131071) rfl rfl (one_of HT_.out (by kernel_rfl)) (by decide) (fun K hK => ?_)
  refine Go.Proofs.YthapknnppabdaaaGreat.Fill.skip_event (by rfl) rfl 29 _ _ rfl p5 (rowM ⟨wrap64 (1 + r1), r2, t3, a4, ⟨#[]⟩, ⟨#[]⟩, 0, ⟨#[]⟩, ⟨#[]⟩, ⟨#[]⟩, ⟨#[]⟩, 0, ⟨#[]⟩, ⟨#[]⟩, ⟨0, ⟨#[]⟩⟩, [], ⟨#[]⟩, ⟨#[]⟩, [], []⟩ (.slice none 0 0) (.slice none 0 0) (.slice none 0 0)) rfl rfl 29 zeroM JZ.out (by kernel_rfl) (by rfl) (rowM_one _ rfl) ?_
  intro w6 hbk hkp hbl
  have JM6 : Aside0 (MM w p mc w6) := ⟨by obtain ⟨old, ho, hs⟩ := JD.out.r; exact ⟨KeepBut.blk hkp JD.out.m (by have := JL.out; omega) (by simp), ⟨old, KeepBut.blk hkp ho (by have := JL.out; omega) (by simp), hs⟩, hbl _ _ JD.out.bel (by have := JL.out; have := JD.out.lo; omega), JD.out.lo⟩⟩
  have JO6 := Aside0.mk hbk; clear hbk hkp hbl
  refine hK.out _ _ (⟨(blk_cell JM6.out.m 0).trans (by rw [HMC.out]; rfl), (blk_cell JM6.out.m 1).trans (by rw [HMC.out]; rfl), (blk_cell JM6.out.m 2).trans (by rw [HMC.out]; rfl), (blk_cell JM6.out.m 3).trans (by rw [HMC.out]; rfl)⟩) (fun hHeld => ?_)
  clear hK K
  refine done_ (done_of HT_.out (by kernel_rfl)) ?_
  clear hHeld HT_ HW_ JD JZ
  obtain ⟨kd, hkd⟩ : ∃ k, k = wrap64 (1 + r1) := ⟨_, rfl⟩
  have hk1 : 1 ≤ kd ∧ kd ≤ 11 := by rw [hkd]; unfold wrap64; omega
  rw [← hkd] at JO6
  have HKD := Aside0.mk hkd; have HK1 := Aside0.mk hk1; clear h10 h11
  obtain ⟨z0, hz0⟩ : ∃ z : S29, z = ⟨kd, r2, t3, a4, ⟨#[]⟩, ⟨#[]⟩, 0, ⟨#[]⟩, ⟨#[]⟩, ⟨#[]⟩, ⟨#[]⟩, 0, ⟨#[]⟩, ⟨#[]⟩, ⟨0, ⟨#[]⟩⟩, [], ⟨#[]⟩, ⟨#[]⟩, [], []⟩ := ⟨_, rfl⟩
  rw [← hz0] at JO6
  have HZ0 := Aside0.mk hz0; clear hz0 hkd hk1
  go_upto_region 2 with fail
  have JM := Aside0.mk (JM6.out.below (below_drew1 (Below.refl _ _)))
  have JO := Aside0.mk (blk_drew JO6.out)
  refine start_ (n := 7) (ds := []) (S := fun w' => w'.cell? ⟨p5, 0, none⟩ = some (.int .i64 kd)) (V 7 0) (by rfl) (by rfl) (by kernel_rfl) ((blk_cell JO.out 0).trans (by rw [HZ0.out]; rfl)) (fun hHeld => ?_); refine with_tabW tab18_2 bits18_2 (fun HT_ HW_ => ?_)
  generalize w6.drew = we at JM JO hHeld ⊢
  refine pure_ (i := 1) (N := some 27) (v := ?_) (a' := ?_) (V 7 2) rfl rfl (any_of HT_.out (by kernel_rfl)) (fun _ _ _ h => h) (Or.inl ⟨by rfl, ?_⟩) ?_ ?_; rotate_left
  · intro w'; go_simp; with_reducible rfl
  rotate_left
  · simp only [Act.put, List.setIfInBounds_toArray, List.set_cons_zero, List.set_cons_succ, i64_w, i32_w]; rfl
  refine take_ (i := 2) (N := some 28) (v := ?_) (a' := ?_) (V 7 6) rfl rfl (take_ofW HT_.out HW_.out (by kernel_rfl)) (fun _ _ _ h => h) (Or.inl ⟨by rfl, ?_⟩) hHeld ?_ ?_; rotate_left
  · rintro w' s0; go_simp; with_reducible rfl
  rotate_left
  · simp only [Act.put, List.setIfInBounds_toArray, List.set_cons_zero, List.set_cons_succ, i64_w, i32_w]; rfl
  obtain ⟨rr, hrr⟩ : ∃ r, r = rd_T56 rowList kd := ⟨_, rfl⟩
  have HRR := Aside0.mk hrr; clear hrr
  have hk0 : 0 ≤ kd := by have := HK1.out; omega
  have hk12 : kd < ((12 : Nat) : Int) := by have := HK1.out; omega
  have hk12' : kd < 12 := by have := HK1.out; omega
  refine join_ (σ := Addr × Nat × Nat) 1 (V 7 63) (fun s => [(26, .slice (some s.1) 12 s.2.1), (29, .pointer (some (s.1.add (kd.toNat * 4)))), (30, .agg #[.string rr.f0, .string rr.f1, .string rr.f2, .string rr.f3]), (6, .pointer (some ⟨s.2.2, 0, none⟩))]) (fun s w' => MM w p mc w' ∧ w'.heap[p5]? = some (.cells (rowM z0 (.slice none 0 0) (.slice none 0 0) (.slice none 0 0)) 29 (0, 0)) ∧ w'.heap[s.2.2]? = some (.cells #[.string ⟨#[]⟩, .string ⟨#[]⟩, .string ⟨#[]⟩, .string ⟨#[]⟩] 56 (0, 0)) ∧ w.heap.size ≤ s.2.2 ∧ k56.C w' (some s.1) 12 rowList) ?_ ?_
  rotate_left
  · intro hcont
    have G2 := Aside0.mk hcont; clear hcont
    refine join_ (σ := Addr × Nat × Nat) 2 (V 7 47) (fun s => [(26, .slice (some s.1) 12 s.2.1), (29, .pointer (some (s.1.add (kd.toNat * 4)))), (6, .pointer (some ⟨s.2.2, 0, none⟩))]) (fun s w' => MM w p mc w' ∧ w'.heap[p5]? = some (.cells (rowM z0 (.slice none 0 0) (.slice none 0 0) (.slice none 0 0)) 29 (0, 0)) ∧ w'.heap[s.2.2]? = some (.cells #[.string ⟨#[]⟩, .string ⟨#[]⟩, .string ⟨#[]⟩, .string ⟨#[]⟩] 56 (0, 0)) ∧ w.heap.size ≤ s.2.2 ∧ k56.C w' (some s.1) 12 rowList) ?_ ?_
    rotate_left
    · intro hcont
      have G1 := Aside0.mk hcont; clear hcont
      refine join_ (σ := Addr × Nat × Nat) 4 (V 7 38) (fun s => [(6, .pointer (some ⟨s.2.2, 0, none⟩))]) (fun s w' => MM w p mc w' ∧ w'.heap[p5]? = some (.cells (rowM z0 (.slice none 0 0) (.slice none 0 0) (.slice none 0 0)) 29 (0, 0)) ∧ w'.heap[s.2.2]? = some (.cells #[.string ⟨#[]⟩, .string ⟨#[]⟩, .string ⟨#[]⟩, .string ⟨#[]⟩] 56 (0, 0)) ∧ w.heap.size ≤ s.2.2) ?_ ?_
      rotate_left
      · intro hcont
        have G0 := Aside0.mk hcont; clear hcont
        refine two_ (i := 0) (j := 5) (Ni := some 26) (Nj := some 6) (V 7 7) (V 7 38) rfl rfl rfl rfl (two_of HT_.out (by kernel_rfl)) (by decide) (by decide) (fun K hK => ?_) (fun K hK => ?_)
        rotate_left
        · skip
          refine value_ (w1 := ?_) (v := ?_) (by rfl) rfl ?_ ?_; rotate_left 2
          · go_simp
            constructor
            · rfl
            · rfl
          refine hK.out _ _ ((blk_cell (blk_alloc JO.out (.cells #[.string ⟨#[]⟩, .string ⟨#[]⟩, .string ⟨#[]⟩, .string ⟨#[]⟩] 56)) 0).trans (by rw [HZ0.out]; rfl)) (fun hHeld => ?_)
          clear hK K
          refine norm_ (a' := ?_) ?_ ?_; rotate_left
          · show Act.put _ (some 6) _ = _; simp only [Act.put, List.setIfInBounds_toArray, List.set_cons_zero, List.set_cons_succ, i64_w, i32_w]; rfl
          refine norm_ (a' := putAll _ _) ?_ (G0.out (⟨0, 0, none⟩, 0, we.heap.size) _ ⟨JM.out.below (below_alloc (Below.refl _ _) (.cells #[.string ⟨#[]⟩, .string ⟨#[]⟩, .string ⟨#[]⟩, .string ⟨#[]⟩] 56)), blk_alloc JO.out (.cells #[.string ⟨#[]⟩, .string ⟨#[]⟩, .string ⟨#[]⟩, .string ⟨#[]⟩] 56), blk_new we _, below_size JM.out.bel⟩)
          simp only [putAll, Act.put, List.setIfInBounds_toArray, List.set_cons_zero, List.set_cons_succ]
        refine goes_ Tryz.func16 (by kernel_rfl) rfl #[] (by rfl) rfl rfl (by (try simp only [List.map_toArray, List.map_cons, List.map_nil]); first | done | rfl) ?_
        with_reducible refine (comptoirref07_Rows.calls rowList _ rows_is).mono ?_
        rintro e wr ⟨v0, rfl, ho, hB⟩
        refine ⟨_, rfl, ?_⟩
        obtain ⟨AR, cR, er, hrc, hrC⟩ := Kd.R_reads ho
        subst er
        rw [rows_len] at hrc hrC ⊢
        obtain ⟨ad, ea, c0, c1, c2, c3⟩ := at_T56 hrC kd hk0 hk12
        subst ea
        rw [← HRR.out] at c0 c1 c2 c3
        have HRC := Aside0.mk hrC; clear hrC hrc ho
        have JM' := Aside0.mk (JM.out.below hB); have JO' := Aside0.mk (blk_below JO.out hB); clear JM JO hB hHeld; have JM := JM'; have JO := JO'; clear JM' JO'
        refine hK.out _ _ ((blk_cell JO.out 0).trans (by rw [HZ0.out]; rfl)) (fun hHeld => ?_)
        clear hK K
        refine norm_ (a' := ?_) ?_ ?_; rotate_left
        · show Act.put _ (some 26) _ = _; simp only [Act.put, List.setIfInBounds_toArray, List.set_cons_zero, List.set_cons_succ, i64_w, i32_w]; rfl
        refine pure_ (i := 3) (N := some 29) (v := ?_) (a' := ?_) (V 7 15) rfl rfl (any_of HT_.out (by kernel_rfl)) (fun _ _ _ h => h) (Or.inl ⟨by rfl, ?_⟩) ?_ ?_; rotate_left
        · intro w'; go_simp; with_reducible rfl
        rotate_left
        · simp only [Act.put, List.setIfInBounds_toArray, List.set_cons_zero, List.set_cons_succ, i64_w, i32_w]; rfl
        refine two_ (i := 4) (j := 5) (Ni := some 30) (Nj := some 6) (V 7 31) (V 7 47) rfl rfl rfl rfl (two_of HT_.out (by kernel_rfl)) (by decide) (by decide) (fun K hK => ?_) (fun K hK => ?_)
        rotate_left
        · skip
          refine value_ (w1 := ?_) (v := ?_) (by rfl) rfl ?_ ?_; rotate_left 2
          · go_simp
            constructor
            · rfl
            · rfl
          refine hK.out _ _ ((blk_cell (blk_alloc JO.out (.cells #[.string ⟨#[]⟩, .string ⟨#[]⟩, .string ⟨#[]⟩, .string ⟨#[]⟩] 56)) 0).trans (by rw [HZ0.out]; rfl)) (fun hHeld => ?_)
          clear hK K
          refine norm_ (a' := ?_) ?_ ?_; rotate_left
          · show Act.put _ (some 6) _ = _; simp only [Act.put, List.setIfInBounds_toArray, List.set_cons_zero, List.set_cons_succ, i64_w, i32_w]; rfl
          refine norm_ (a' := putAll _ _) ?_ (G1.out (ad, cR, wr.heap.size) _ ⟨JM.out.below (below_alloc (Below.refl _ _) (.cells #[.string ⟨#[]⟩, .string ⟨#[]⟩, .string ⟨#[]⟩, .string ⟨#[]⟩] 56)), blk_alloc JO.out (.cells #[.string ⟨#[]⟩, .string ⟨#[]⟩, .string ⟨#[]⟩, .string ⟨#[]⟩] 56), blk_new wr _, below_size JM.out.bel, Kd.C_alloc HRC.out _⟩)
          simp only [putAll, Act.put, List.setIfInBounds_toArray, List.set_cons_zero, List.set_cons_succ]
        refine value_ (w1 := ?_) (v := ?_) (by rfl) rfl ?_ ?_; rotate_left 2
        · go_simp
          constructor
          · rfl
          · rfl
        refine hK.out _ _ ((blk_cell JO.out 0).trans (by rw [HZ0.out]; rfl)) (fun hHeld => ?_)
        clear hK K
        refine norm_ (a' := ?_) ?_ ?_; rotate_left
        · show Act.put _ (some 30) _ = _; simp only [Act.put, List.setIfInBounds_toArray, List.set_cons_zero, List.set_cons_succ, i64_w, i32_w]; rfl
        refine one_ (i := 5) (N := some 6) (V 7 63) rfl rfl (one_of HT_.out (by kernel_rfl)) (by decide) (fun K hK => ?_)
        refine value_ (w1 := ?_) (v := ?_) (by rfl) rfl ?_ ?_; rotate_left 2
        · go_simp
          constructor
          · rfl
          · rfl
        refine hK.out _ _ ((blk_cell (blk_alloc JO.out (.cells #[.string ⟨#[]⟩, .string ⟨#[]⟩, .string ⟨#[]⟩, .string ⟨#[]⟩] 56)) 0).trans (by rw [HZ0.out]; rfl)) (fun hHeld => ?_)
        clear hK K
        refine norm_ (a' := ?_) ?_ ?_; rotate_left
        · show Act.put _ (some 6) _ = _; simp only [Act.put, List.setIfInBounds_toArray, List.set_cons_zero, List.set_cons_succ, i64_w, i32_w]; rfl
        refine norm_ (a' := putAll _ _) ?_ (G2.out (ad, cR, wr.heap.size) _ ⟨JM.out.below (below_alloc (Below.refl _ _) (.cells #[.string ⟨#[]⟩, .string ⟨#[]⟩, .string ⟨#[]⟩, .string ⟨#[]⟩] 56)), blk_alloc JO.out (.cells #[.string ⟨#[]⟩, .string ⟨#[]⟩, .string ⟨#[]⟩, .string ⟨#[]⟩] 56), blk_new wr _, below_size JM.out.bel, Kd.C_alloc HRC.out _⟩)
        simp only [putAll, Act.put, List.setIfInBounds_toArray, List.set_cons_zero, List.set_cons_succ]
      rintro ⟨ad, cR, p6⟩ u0 ⟨jm, jo, jk, jl⟩
      dsimp only at jk jl ⊢
      clear JM JO hHeld; have JM := Aside0.mk jm; have JO := Aside0.mk jo; have JK := Aside0.mk jk; have JL6 := Aside0.mk jl; clear jm jo jk jl
      have hHeld : u0.cell? ⟨p5, 0, none⟩ = some (.int .i64 kd) := (blk_cell JO.out 0).trans (by rw [HZ0.out]; rfl)
      refine norm_ (a' := ?_) ?_ ?_; rotate_left
      · simp only [putAll, Act.put, List.setIfInBounds_toArray, List.set_cons_zero, List.set_cons_succ]; rfl
      refine one_ (i := 0) (N := some 26) (V 7 39) rfl rfl (one_of HT_.out (by kernel_rfl)) (by decide) (fun K hK => ?_)
      refine goes_ Tryz.func16 (by kernel_rfl) rfl #[] (by rfl) rfl rfl (by (try simp only [List.map_toArray, List.map_cons, List.map_nil]); first | done | rfl) ?_
      with_reducible refine (comptoirref07_Rows.calls rowList _ rows_is).mono ?_
      rintro e wr ⟨v0, rfl, ho, hB⟩
      refine ⟨_, rfl, ?_⟩
      obtain ⟨AR, cR, er, hrc, hrC⟩ := Kd.R_reads ho
      subst er
      rw [rows_len] at hrc hrC ⊢
      obtain ⟨ad, ea, c0, c1, c2, c3⟩ := at_T56 hrC kd hk0 hk12
      subst ea
      rw [← HRR.out] at c0 c1 c2 c3
      have HRC := Aside0.mk hrC; clear hrC hrc ho
      have JM' := Aside0.mk (JM.out.below hB); have JO' := Aside0.mk (blk_below JO.out hB); have JK' := Aside0.mk (blk_below JK.out hB); clear JM JO JK hB hHeld; have JM := JM'; have JO := JO'; have JK := JK'; clear JM' JO' JK'
      refine hK.out _ _ ((blk_cell JO.out 0).trans (by rw [HZ0.out]; rfl)) (fun hHeld => ?_)
      clear hK K
      refine norm_ (a' := ?_) ?_ ?_; rotate_left
      · show Act.put _ (some 26) _ = _; simp only [Act.put, List.setIfInBounds_toArray, List.set_cons_zero, List.set_cons_succ, i64_w, i32_w]; rfl
      refine pure_ (i := 3) (N := some 29) (v := ?_) (a' := ?_) (V 7 47) rfl rfl (any_of HT_.out (by kernel_rfl)) (fun _ _ _ h => h) (Or.inl ⟨by rfl, ?_⟩) ?_ ?_; rotate_left
      · intro w'; go_simp; with_reducible rfl
      rotate_left
      · simp only [Act.put, List.setIfInBounds_toArray, List.set_cons_zero, List.set_cons_succ, i64_w, i32_w]; rfl
      refine norm_ (a' := putAll _ _) ?_ (G1.out (ad, cR, p6) _ ⟨JM.out, JO.out, JK.out, JL6.out, HRC.out⟩)
      simp only [putAll, Act.put, List.setIfInBounds_toArray, List.set_cons_zero, List.set_cons_succ]
    rintro ⟨ad, cR, p6⟩ u1 ⟨jm, jo, jk, jl, hrC⟩
    dsimp only at jk jl hrC ⊢
    clear JM JO hHeld; have JM := Aside0.mk jm; have JO := Aside0.mk jo; have JK := Aside0.mk jk; have JL6 := Aside0.mk jl; clear jm jo jk jl
    obtain ⟨ad', ea, c0, c1, c2, c3⟩ := at_T56 hrC kd hk0 hk12
    obtain rfl := Option.some.inj ea; clear ea
    rw [← HRR.out] at c0 c1 c2 c3
    have HRC := Aside0.mk hrC; clear hrC
    have hHeld : u1.cell? ⟨p5, 0, none⟩ = some (.int .i64 kd) := (blk_cell JO.out 0).trans (by rw [HZ0.out]; rfl)
    refine norm_ (a' := ?_) ?_ ?_; rotate_left
    · simp only [putAll, Act.put, List.setIfInBounds_toArray, List.set_cons_zero, List.set_cons_succ]; rfl
    refine one_ (i := 4) (N := some 30) (V 7 63) rfl rfl (one_of HT_.out (by kernel_rfl)) (by decide) (fun K hK => ?_)
    refine value_ (w1 := ?_) (v := ?_) (by rfl) rfl ?_ ?_; rotate_left 2
    · go_simp
      constructor
      · rfl
      · rfl
    refine hK.out _ _ ((blk_cell JO.out 0).trans (by rw [HZ0.out]; rfl)) (fun hHeld => ?_)
    clear hK K
    refine norm_ (a' := ?_) ?_ ?_; rotate_left
    · show Act.put _ (some 30) _ = _; simp only [Act.put, List.setIfInBounds_toArray, List.set_cons_zero, List.set_cons_succ, i64_w, i32_w]; rfl
    refine norm_ (a' := putAll _ _) ?_ (G2.out (ad, cR, p6) _ ⟨JM.out, JO.out, JK.out, JL6.out, HRC.out⟩)
    simp only [putAll, Act.put, List.setIfInBounds_toArray, List.set_cons_zero, List.set_cons_succ]
  rintro ⟨ad, cR, p6⟩ u2 ⟨jm, jo, jk, jl, hrC⟩
  dsimp only at jk jl hrC ⊢
  clear JM JO hHeld; have JM := Aside0.mk jm; have JO := Aside0.mk jo; have JK := Aside0.mk jk; have JL6 := Aside0.mk jl; clear jm jo jk jl
  obtain ⟨ad', ea, c0, c1, c2, c3⟩ := at_T56 hrC kd hk0 hk12
  obtain rfl := Option.some.inj ea; clear ea
  rw [← HRR.out] at c0 c1 c2 c3
  have HRC := Aside0.mk hrC; clear hrC
  have hHeld : u2.cell? ⟨p5, 0, none⟩ = some (.int .i64 kd) := (blk_cell JO.out 0).trans (by rw [HZ0.out]; rfl)
  refine norm_ (a' := ?_) ?_ ?_; rotate_left
  · simp only [putAll, Act.put, List.setIfInBounds_toArray, List.set_cons_zero, List.set_cons_succ]; rfl
  refine one_ (i := 6) (N := none) (V 7 127) rfl rfl (one_of HT_.out (by kernel_rfl)) (by decide) (fun K hK => ?_)
  refine Go.Proofs.YthapknnppabdaaaGreat.Fill.skip_event (by rfl) rfl 56 _ _ rfl p6 #[.string rr.f0, .string rr.f1, .string rr.f2, .string rr.f3] rfl rfl 56 #[.string ⟨#[]⟩, .string ⟨#[]⟩, .string ⟨#[]⟩, .string ⟨#[]⟩] JK.out (by kernel_rfl) (by rfl) (by rw [← Array.all_toList]; rfl) ?_
  intro w7 hbk hkp hbl
  have ne : ∀ (g : Nat) (cs : Array Value), u2.heap[g]? = some (.cells cs 29 (0, 0)) → g ≠ p6 := fun g cs hg eg => by have h := JK.out; rw [← eg, hg] at h; have h2 := Option.some.inj h; injection h2 with _ h3 _; exact absurd h3 (by decide)
  have MS0 : Aside0 (MS w p p5 p6 mc rr z0 (.slice none 0 0) w7) := ⟨by obtain ⟨old, ho, hs⟩ := JM.out.r; exact ⟨KeepBut.blk hkp JM.out.m (ne _ _ JM.out.m) (by simp), ⟨old, KeepBut.blk hkp ho (ne _ _ ho) (by simp), hs⟩, KeepBut.blk hkp JO.out (ne _ _ JO.out) (by simp), hbk, hbl _ _ JM.out.bel JL6.out, JM.out.lo, JL.out⟩⟩
  clear hbk hkp hbl ne
  refine hK.out _ _ ((blk_cell MS0.out.o 0).trans (by rw [HZ0.out]; rfl)) (fun hHeld => ?_)
  clear hK K
  refine done_ (done_of HT_.out (by kernel_rfl)) ?_
  clear hHeld HT_ HW_ JM JO JK JM6 JO6
  obtain rfl : z0 = zP kd r2 t3 a4 ⟨#[]⟩ ⟨#[]⟩ 0 ⟨#[]⟩ ⟨#[]⟩ ⟨#[]⟩ ⟨#[]⟩ 0 ⟨#[]⟩ ⟨#[]⟩ 0 ⟨#[]⟩ [] := HZ0.out
  have HRS : Aside0 (rr.f2.size ≤ 140737488355328 ∧ rr.f3.size ≤ 140737488355328) := ⟨by rw [HRR.out]; exact rows_small kd⟩
  have HW : Aside0 (∀ (W : World) (z : S29) (v16 : Value) (c : Int) (b : Bool), MS w p p5 p6 mc rr z v16 W → Calls Tryz.prog 17 #[.int .u8 c, .bool b, .pointer (some ⟨p6, 0, none⟩)] W fun e w' => e = .returned (.bool (wantB rr.f2 rr.f3 c b)) ∧ Below W.heap.size W w') := ⟨fun W z v c b h => want_x rr.f2 rr.f3 c b p6 W ((blk_cell h.k 2).trans rfl) ((blk_cell h.k 3).trans rfl) HRS.out.1 HRS.out.2⟩
  have e39 : ∀ args w, (callFunc 17 args).run Tryz.prog w = .ok (.enter 17 args) w := enters_of Tryz.func17 (by kernel_rfl) rfl
  clear hk0 hk12 hk12' c0 c1 c2 c3 HRC
  have dm : w7.cell? ⟨p, 4, none⟩ = some (.string x.f4) := (blk_cell MS0.out.m 4).trans (by rw [HMC.out]; rfl)
  obtain ⟨b1, hb⟩ : ∃ b, (x.f4.toList != ([] : List UInt8)) = b := ⟨_, rfl⟩
  have hb' : x.f4.toList.isEmpty = !b1 := by rw [← hb]; cases x.f4.toList <;> rfl
  go_wp2_with fail
  refine (HW.out _ _ _ 80 b1 MS0.out).mono ?_
  rintro e wa1 ⟨rfl, hB⟩
  have MA1 := Aside0.mk (MS0.out.below hB); clear hB
  go_upto_if 36 with fail
  generalize hw : wantB rr.f2 rr.f3 80 b1 = wb
  go_cut [] from 32 to 40 (fun wc => ∃ t : ByteArray, Aside0 (Fit rr.f2 rr.f3 80 (t.size ≠ 0) ∧ (t.size ≠ 0 → rightF t 12 19 = true)) ∧ Aside0 (MS w p p5 p6 mc rr (zP kd r2 t3 a4 t ⟨#[]⟩ 0 ⟨#[]⟩ ⟨#[]⟩ ⟨#[]⟩ ⟨#[]⟩ 0 ⟨#[]⟩ ⟨#[]⟩ 0 ⟨#[]⟩ []) (.slice none 0 0) wc))
  case first =>
    clear hb hb' dm
    cases wb with
    | false =>
      have HWB := Aside0.mk hw; clear hw
      go_wp2_with fail
      go_meet
      exact ⟨⟨#[]⟩, ⟨fit_no HWB.out (fun h => h rfl), fun h => absurd rfl h⟩, MA1⟩
    | true =>
      have HWB := Aside0.mk hw; clear hw
      have dn : wa1.cell? ⟨p, 4, none⟩ = some (.string x.f4) := (blk_cell MA1.out.m 4).trans (by rw [HMC.out]; rfl)
      go_wp2_with fail
      refine (digits_x x.f4 12 19 _ HX.out.s4 (by omega) (by omega) (by omega)).mono ?_
      rintro e wb1 ⟨t, rfl, ht, hB⟩
      have MB := Aside0.mk (MA1.out.below hB)
      have HT : Aside0 (Fit rr.f2 rr.f3 80 (t.size ≠ 0) ∧ (t.size ≠ 0 → rightF t 12 19 = true)) := ⟨fit_yes HWB.out (fun h => by have := (dig_sized ht).1; rw [h] at this; omega), fun _ => ht⟩
      have dq : wb1.cell? ⟨p5, 4, none⟩ = some (.string ⟨#[]⟩) := (blk_cell MB.out.o 4).trans rfl
      have zq := blk_frozen MB.out.o 4
      have MC : Aside0 (MS w p p5 p6 mc rr (zP kd r2 t3 a4 t ⟨#[]⟩ 0 ⟨#[]⟩ ⟨#[]⟩ ⟨#[]⟩ ⟨#[]⟩ 0 ⟨#[]⟩ ⟨#[]⟩ 0 ⟨#[]⟩ []) (.slice none 0 0) (wb1.setCell ⟨p5, 4, none⟩ (.string t))) := ⟨MB.out.set 4 (.string t) rfl⟩
      clear ht hB dn
      go_wp2_with fail
      go_meet
      exact ⟨t, HT, MC⟩
  case rest =>
  obtain ⟨tf4, Gf4, MS1⟩ := hcut
  clear hw hb hb' dm MA1 MS0
  obtain ⟨wc1, hwc⟩ : ∃ W, W = wc := ⟨_, rfl⟩; rw [← hwc] at MS1 ⊢; clear hwc
  have dm : wc1.cell? ⟨p, 5, none⟩ = some (.string x.f5) := (blk_cell MS1.out.m 5).trans (by rw [HMC.out]; rfl)
  obtain ⟨b2, hb⟩ : ∃ b, (x.f5.toList != ([] : List UInt8)) = b := ⟨_, rfl⟩
  have hb' : x.f5.toList.isEmpty = !b2 := by rw [← hb]; cases x.f5.toList <;> rfl
  go_wp2_with fail
  refine (HW.out _ _ _ 67 b2 MS1.out).mono ?_
  rintro e wa2 ⟨rfl, hB⟩
  have MA2 := Aside0.mk (MS1.out.below hB); clear hB
  go_upto_if 45 with fail
  generalize hw : wantB rr.f2 rr.f3 67 b2 = wb
  go_cut [] from 41 to 53 (fun wc => ∃ (t : ByteArray) (am : Int), Aside0 (Fit rr.f2 rr.f3 67 (t.size ≠ 0) ∧ (t.size ≠ 0 → rightF t 3 3 = true) ∧ (t.size = 0 → am = 0) ∧ (0 ≤ am ∧ am ≤ 999999999999)) ∧ Aside0 (MS w p p5 p6 mc rr (zP kd r2 t3 a4 tf4 t am ⟨#[]⟩ ⟨#[]⟩ ⟨#[]⟩ ⟨#[]⟩ 0 ⟨#[]⟩ ⟨#[]⟩ 0 ⟨#[]⟩ []) (.slice none 0 0) wc))
  case first =>
    clear hb hb' dm
    cases wb with
    | false =>
      have HWB := Aside0.mk hw; clear hw
      go_wp2_with fail
      go_meet
      exact ⟨⟨#[]⟩, 0, ⟨fit_no HWB.out (fun h => h rfl), fun h => absurd rfl h, fun _ => rfl, by decide⟩, MA2⟩
    | true =>
      have HWB := Aside0.mk hw; clear hw
      go_upto_region 7 with fail
      have JD := Aside0.mk (MA2.out.below (below_drew1 (Below.refl _ _)))
      refine start_ (n := 10) (ds := []) (S := fun w' => w'.cell? ⟨p, 5, none⟩ = some (.string x.f5) ∧ w'.cell? ⟨p, 6, none⟩ = some (.int .u64 x.f6)) (V 10 0) (by rfl) (by rfl) (by kernel_rfl) (⟨(blk_cell JD.out.m 5).trans (by rw [HMC.out]; rfl), (blk_cell JD.out.m 6).trans (by rw [HMC.out]; rfl)⟩) (fun hHeld => ?_); refine with_tabW tab18_7 bits18_7 (fun HT_ HW_ => ?_)
      generalize World.drew wa2 = wg at JD hHeld ⊢
      refine pure_ (i := 0) (N := some 46) (v := ?_) (a' := ?_) (V 10 1) rfl rfl (any_of HT_.out (by kernel_rfl)) (fun _ _ _ h => h) (Or.inl ⟨by rfl, ?_⟩) ?_ ?_; rotate_left
      · intro w'; go_simp; with_reducible rfl
      rotate_left
      · simp only [Act.put, List.setIfInBounds_toArray, List.set_cons_zero, List.set_cons_succ, i64_w, i32_w]; rfl
      refine take_ (i := 1) (N := some 47) (v := ?_) (a' := ?_) (V 10 3) rfl rfl (take_ofW HT_.out HW_.out (by kernel_rfl)) (fun _ _ _ h => h) (Or.inl ⟨by rfl, ?_⟩) hHeld ?_ ?_; rotate_left
      · rintro w' ⟨s0, s1⟩; go_simp; with_reducible rfl
      rotate_left
      · simp only [Act.put, List.setIfInBounds_toArray, List.set_cons_zero, List.set_cons_succ, i64_w, i32_w]; rfl
      refine pure_ (i := 3) (N := some 49) (v := ?_) (a' := ?_) (V 10 11) rfl rfl (any_of HT_.out (by kernel_rfl)) (fun _ _ _ h => h) (Or.inl ⟨by rfl, ?_⟩) ?_ ?_; rotate_left
      · intro w'; go_simp; with_reducible rfl
      rotate_left
      · simp only [Act.put, List.setIfInBounds_toArray, List.set_cons_zero, List.set_cons_succ, i64_w, i32_w]; rfl
      refine take_ (i := 4) (N := some 50) (v := ?_) (a' := ?_) (V 10 27) rfl rfl (take_ofW HT_.out HW_.out (by kernel_rfl)) (fun _ _ _ h => h) (Or.inl ⟨by rfl, ?_⟩) hHeld ?_ ?_; rotate_left
      · rintro w' ⟨s0, s1⟩; go_simp; with_reducible rfl
      rotate_left
      · simp only [Act.put, List.setIfInBounds_toArray, List.set_cons_zero, List.set_cons_succ, i64_w, i32_w]; rfl
      refine pure_ (i := 5) (N := some 51) (v := ?_) (a' := ?_) (V 10 59) rfl rfl (any_of HT_.out (by kernel_rfl)) (fun _ _ _ h => h) (Or.inl ⟨by rfl, ?_⟩) ?_ ?_; rotate_left
      · intro w'; go_simp; with_reducible rfl
      rotate_left
      · simp only [Act.put, List.setIfInBounds_toArray, List.set_cons_zero, List.set_cons_succ, i64_w, i32_w]; rfl
      refine one_ (i := 2) (N := some 48) (V 10 63) rfl rfl (one_of HT_.out (by kernel_rfl)) (by decide) (fun K hK => ?_)
      refine goes_ Tryz.func15 (by kernel_rfl) rfl #[.string x.f5, .int .i64 3, .int .i64 3] (by rfl) rfl rfl (by (try simp only [List.map_toArray, List.map_cons, List.map_nil]); first | done | rfl) ?_
      with_reducible refine (digits_x x.f5 3 3 _ HX.out.s5 (by omega) (by omega) (by omega)).mono ?_
      rintro e w102 ⟨t, rfl, ht, hB⟩
      refine ⟨_, rfl, ?_⟩
      have JD' := Aside0.mk (JD.out.below hB); clear hB JD hHeld; have JD := JD'; clear JD'
      have HT1 : Aside0 (Fit rr.f2 rr.f3 67 (t.size ≠ 0) ∧ (t.size ≠ 0 → rightF t 3 3 = true)) := ⟨fit_yes HWB.out (fun h => by have := (dig_sized ht).1; rw [h] at this; omega), fun _ => ht⟩
      have HT0 : Aside0 (t.size ≠ 0) := ⟨fun h => by have := (dig_sized ht).1; rw [h] at this; omega⟩
      clear ht
      refine hK.out _ _ (⟨(blk_cell JD.out.m 5).trans (by rw [HMC.out]; rfl), (blk_cell JD.out.m 6).trans (by rw [HMC.out]; rfl)⟩) (fun hHeld => ?_)
      clear hK K
      refine norm_ (a' := ?_) ?_ ?_; rotate_left
      · show Act.put _ (some 48) _ = _; simp only [Act.put, List.setIfInBounds_toArray, List.set_cons_zero, List.set_cons_succ, i64_w, i32_w]; rfl
      refine pure_ (i := 6) (N := some 52) (v := ?_) (a' := ?_) (V 10 127) rfl rfl (any_of HT_.out (by kernel_rfl)) (fun _ _ _ h => h) (Or.inl ⟨by rfl, ?_⟩) ?_ ?_; rotate_left
      · intro w'; go_simp; with_reducible rfl
      rotate_left
      · simp only [Act.put, List.setIfInBounds_toArray, List.set_cons_zero, List.set_cons_succ, i64_w, i32_w]; rfl
      have dq := (blk_cell JD.out.o 5).trans (show _ = some (Value.string ⟨#[]⟩) from rfl); have zq := blk_frozen JD.out.o 5
      refine one_ (i := 7) (N := none) (V 10 255) rfl rfl (one_of HT_.out (by kernel_rfl)) (by decide) (fun K hK => ?_)
      refine skip_ (w1 := ?_) (by rfl) rfl ?_ ?_; rotate_left
      · go_simp
        rfl
      have JF := Aside0.mk (MS.set (z' := (zP kd r2 t3 a4 tf4 t 0 ⟨#[]⟩ ⟨#[]⟩ ⟨#[]⟩ ⟨#[]⟩ 0 ⟨#[]⟩ ⟨#[]⟩ 0 ⟨#[]⟩ [])) (v16' := (.slice none 0 0)) JD.out 5 (.string t) rfl)
      refine hK.out _ _ (⟨(blk_cell JF.out.m 5).trans (by rw [HMC.out]; rfl), (blk_cell JF.out.m 6).trans (by rw [HMC.out]; rfl)⟩) (fun hHeld => ?_)
      clear hK K
      refine pure_ (i := 8) (N := some 53) (v := ?_) (a' := ?_) (V 10 511) rfl rfl (any_of HT_.out (by kernel_rfl)) (fun _ _ _ h => h) (Or.inl ⟨by rfl, ?_⟩) ?_ ?_; rotate_left
      · intro w'; go_simp; with_reducible rfl
      rotate_left
      · simp only [Act.put, List.setIfInBounds_toArray, List.set_cons_zero, List.set_cons_succ, i64_w, i32_w]; rfl
      clear dq zq; have dq := (blk_cell JF.out.o 6).trans (show _ = some (Value.int .u64 0) from rfl); have zq := blk_frozen JF.out.o 6
      refine one_ (i := 9) (N := none) (V 10 1023) rfl rfl (one_of HT_.out (by kernel_rfl)) (by decide) (fun K hK => ?_)
      refine skip_ (w1 := ?_) (by rfl) rfl ?_ ?_; rotate_left
      · go_simp
        rfl
      have JG := Aside0.mk (MS.set (z' := (zP kd r2 t3 a4 tf4 t (x.f6.tmod 1000000000000) ⟨#[]⟩ ⟨#[]⟩ ⟨#[]⟩ ⟨#[]⟩ 0 ⟨#[]⟩ ⟨#[]⟩ 0 ⟨#[]⟩ [])) (v16' := (.slice none 0 0)) JF.out 6 (.int .u64 (x.f6.tmod 1000000000000)) rfl)
      refine hK.out _ _ (⟨(blk_cell JG.out.m 5).trans (by rw [HMC.out]; rfl), (blk_cell JG.out.m 6).trans (by rw [HMC.out]; rfl)⟩) (fun hHeld => ?_)
      clear hK K
      refine done_ (done_of HT_.out (by kernel_rfl)) ?_
      try go_wp2
      go_meet
      exact ⟨t, _, ⟨HT1.out.1, HT1.out.2, fun h => absurd h HT0.out, amt_mod HX.out.a6.1⟩, JG⟩
  case rest =>
  obtain ⟨tf5, am, Gf5, MS2⟩ := hcut
  clear hw hb hb' dm MA2 MS1
  obtain ⟨wc2, hwc⟩ : ∃ W, W = wc := ⟨_, rfl⟩; rw [← hwc] at MS2 ⊢; clear hwc
  have dm : wc2.cell? ⟨p, 7, none⟩ = some (.string x.f7) := (blk_cell MS2.out.m 7).trans (by rw [HMC.out]; rfl)
  obtain ⟨b3, hb⟩ : ∃ b, (x.f7.toList != ([] : List UInt8)) = b := ⟨_, rfl⟩
  have hb' : x.f7.toList.isEmpty = !b3 := by rw [← hb]; cases x.f7.toList <;> rfl
  go_wp2_with fail
  refine (HW.out _ _ _ 82 b3 MS2.out).mono ?_
  rintro e wa3 ⟨rfl, hB⟩
  have MA3 := Aside0.mk (MS2.out.below hB); clear hB
  go_upto_if 58 with fail
  generalize hw : wantB rr.f2 rr.f3 82 b3 = wb
  go_cut [] from 54 to 62 (fun wc => ∃ t : ByteArray, Aside0 (Fit rr.f2 rr.f3 82 (t.size ≠ 0) ∧ (t.size ≠ 0 → alnF t 12 12 = true)) ∧ Aside0 (MS w p p5 p6 mc rr (zP kd r2 t3 a4 tf4 tf5 am t ⟨#[]⟩ ⟨#[]⟩ ⟨#[]⟩ 0 ⟨#[]⟩ ⟨#[]⟩ 0 ⟨#[]⟩ []) (.slice none 0 0) wc))
  case first =>
    clear hb hb' dm
    cases wb with
    | false =>
      have HWB := Aside0.mk hw; clear hw
      go_wp2_with fail
      go_meet
      exact ⟨⟨#[]⟩, ⟨fit_no HWB.out (fun h => h rfl), fun h => absurd rfl h⟩, MA3⟩
    | true =>
      have HWB := Aside0.mk hw; clear hw
      have dn : wa3.cell? ⟨p, 7, none⟩ = some (.string x.f7) := (blk_cell MA3.out.m 7).trans (by rw [HMC.out]; rfl)
      go_wp2_with fail
      refine (alnum_x x.f7 12 _ HX.out.s7 (by omega) (by omega)).mono ?_
      rintro e wb3 ⟨t, rfl, ht, hB⟩
      have MB := Aside0.mk (MA3.out.below hB)
      have HT : Aside0 (Fit rr.f2 rr.f3 82 (t.size ≠ 0) ∧ (t.size ≠ 0 → alnF t 12 12 = true)) := ⟨fit_yes HWB.out (fun h => by have := (aln_sized ht); rw [h] at this; omega), fun _ => ht⟩
      have dq : wb3.cell? ⟨p5, 7, none⟩ = some (.string ⟨#[]⟩) := (blk_cell MB.out.o 7).trans rfl
      have zq := blk_frozen MB.out.o 7
      have MC : Aside0 (MS w p p5 p6 mc rr (zP kd r2 t3 a4 tf4 tf5 am t ⟨#[]⟩ ⟨#[]⟩ ⟨#[]⟩ 0 ⟨#[]⟩ ⟨#[]⟩ 0 ⟨#[]⟩ []) (.slice none 0 0) (wb3.setCell ⟨p5, 7, none⟩ (.string t))) := ⟨MB.out.set 7 (.string t) rfl⟩
      clear ht hB dn
      go_wp2_with fail
      go_meet
      exact ⟨t, HT, MC⟩
  case rest =>
  obtain ⟨tf7, Gf7, MS3⟩ := hcut
  clear hw hb hb' dm MA3 MS2
  obtain ⟨wc3, hwc⟩ : ∃ W, W = wc := ⟨_, rfl⟩; rw [← hwc] at MS3 ⊢; clear hwc
  obtain ⟨bs, hbs⟩ : ∃ b, (side == 1) = b := ⟨_, rfl⟩
  go_upto_if 64 with fail
  go_cut [8, 9] from 63 to 64 (fun s8 s9 wc => ∃ tp lw : Int, s8 = .int .i64 tp ∧ s9 = .int .i64 lw ∧ Aside0 (1 ≤ tp ∧ tp ≤ 1000 ∧ 1 ≤ lw ∧ lw ≤ 1000 ∧ (side = 1 → tp = 15 ∧ lw = 8) ∧ (side ≠ 1 → tp = 35 ∧ lw = 35)) ∧ Aside0 (MS w p p5 p6 mc rr (zP kd r2 t3 a4 tf4 tf5 am tf7 ⟨#[]⟩ ⟨#[]⟩ ⟨#[]⟩ 0 ⟨#[]⟩ ⟨#[]⟩ 0 ⟨#[]⟩ []) (.slice none 0 0) wc))
  case first =>
    cases bs with
    | true =>
      have HB0 := Aside0.mk (beq_iff_eq.mp hbs)
      clear hbs
      go_wp2_with fail
      go_meet
      exact ⟨15, 8, rfl, rfl, ⟨by omega, by omega, by omega, by omega, fun _ => ⟨rfl, rfl⟩, fun h => absurd HB0.out h⟩, MS3⟩
    | false =>
      have HB1 := Aside0.mk (beq_eq_false_iff_ne.mp hbs)
      clear hbs
      go_wp2_with fail
      go_meet
      exact ⟨35, 35, rfl, rfl, ⟨by omega, by omega, by omega, by omega, fun h => absurd h HB1.out, fun _ => ⟨rfl, rfl⟩⟩, MS3⟩
  case rest =>
  obtain ⟨tp, lw, rfl, rfl, HTL, MSt⟩ := hcut
  clear hbs MS3
  obtain ⟨wct, hwc⟩ : ∃ W, W = wc := ⟨_, rfl⟩; rw [← hwc] at MSt ⊢; clear hwc
  have dm : wct.cell? ⟨p, 8, none⟩ = some (.string x.f8) := (blk_cell MSt.out.m 8).trans (by rw [HMC.out]; rfl)
  obtain ⟨b4, hb⟩ : ∃ b, (x.f8.toList != ([] : List UInt8)) = b := ⟨_, rfl⟩
  have hb' : x.f8.toList.isEmpty = !b4 := by rw [← hb]; cases x.f8.toList <;> rfl
  go_wp2_with fail
  refine (HW.out _ _ _ 77 b4 MSt.out).mono ?_
  rintro e wa4 ⟨rfl, hB⟩
  have MA4 := Aside0.mk (MSt.out.below hB); clear hB
  go_upto_if 69 with fail
  generalize hw : wantB rr.f2 rr.f3 77 b4 = wb
  go_cut [] from 65 to 75 (fun wc => ∃ t : ByteArray, Aside0 (Fit rr.f2 rr.f3 77 (t.size ≠ 0) ∧ (t.size ≠ 0 → TextOf tp side t)) ∧ Aside0 (MS w p p5 p6 mc rr (zP kd r2 t3 a4 tf4 tf5 am tf7 t ⟨#[]⟩ ⟨#[]⟩ 0 ⟨#[]⟩ ⟨#[]⟩ 0 ⟨#[]⟩ []) (.slice none 0 0) wc))
  case first =>
    clear hb hb' dm
    cases wb with
    | false =>
      have HWB := Aside0.mk hw; clear hw
      go_wp2_with fail
      go_meet
      exact ⟨⟨#[]⟩, ⟨fit_no HWB.out (fun h => h rfl), fun h => absurd rfl h⟩, MA4⟩
    | true =>
      have HWB := Aside0.mk hw; clear hw
      have dn : wa4.cell? ⟨p, 8, none⟩ = some (.string x.f8) := (blk_cell MA4.out.m 8).trans (by rw [HMC.out]; rfl)
      go_wp2_with fail
      refine (text_x x.f8 tp side _ HX.out.s8 HTL.out.1 HTL.out.2.1).mono ?_
      rintro e wb4 ⟨t, rfl, ht, hB⟩
      have MB := Aside0.mk (MA4.out.below hB)
      have HT : Aside0 (Fit rr.f2 rr.f3 77 (t.size ≠ 0) ∧ (t.size ≠ 0 → TextOf tp side t)) := ⟨fit_yes HWB.out (fun h => by have := ht.1; rw [h] at this; omega), fun _ => ht⟩
      have dq : wb4.cell? ⟨p5, 8, none⟩ = some (.string ⟨#[]⟩) := (blk_cell MB.out.o 8).trans rfl
      have zq := blk_frozen MB.out.o 8
      have MC : Aside0 (MS w p p5 p6 mc rr (zP kd r2 t3 a4 tf4 tf5 am tf7 t ⟨#[]⟩ ⟨#[]⟩ 0 ⟨#[]⟩ ⟨#[]⟩ 0 ⟨#[]⟩ []) (.slice none 0 0) (wb4.setCell ⟨p5, 8, none⟩ (.string t))) := ⟨MB.out.set 8 (.string t) rfl⟩
      clear ht hB dn
      go_wp2_with fail
      go_meet
      exact ⟨t, HT, MC⟩
  case rest =>
  obtain ⟨tf8, Gf8, MS4⟩ := hcut
  clear hw hb hb' dm MA4 MSt
  obtain ⟨wc4, hwc⟩ : ∃ W, W = wc := ⟨_, rfl⟩; rw [← hwc] at MS4 ⊢; clear hwc
  have dm : wc4.cell? ⟨p, 9, none⟩ = some (.string x.f9) := (blk_cell MS4.out.m 9).trans (by rw [HMC.out]; rfl)
  obtain ⟨b5, hb⟩ : ∃ b, (x.f9.toList != ([] : List UInt8)) = b := ⟨_, rfl⟩
  have hb' : x.f9.toList.isEmpty = !b5 := by rw [← hb]; cases x.f9.toList <;> rfl
  go_wp2_with fail
  refine (HW.out _ _ _ 84 b5 MS4.out).mono ?_
  rintro e wa5 ⟨rfl, hB⟩
  have MA5 := Aside0.mk (MS4.out.below hB); clear hB
  go_upto_if 80 with fail
  generalize hw : wantB rr.f2 rr.f3 84 b5 = wb
  go_cut [] from 76 to 86 (fun wc => ∃ t : ByteArray, Aside0 (Fit rr.f2 rr.f3 84 (t.size ≠ 0) ∧ (t.size ≠ 0 → TextOf lw side t)) ∧ Aside0 (MS w p p5 p6 mc rr (zP kd r2 t3 a4 tf4 tf5 am tf7 tf8 t ⟨#[]⟩ 0 ⟨#[]⟩ ⟨#[]⟩ 0 ⟨#[]⟩ []) (.slice none 0 0) wc))
  case first =>
    clear hb hb' dm
    cases wb with
    | false =>
      have HWB := Aside0.mk hw; clear hw
      go_wp2_with fail
      go_meet
      exact ⟨⟨#[]⟩, ⟨fit_no HWB.out (fun h => h rfl), fun h => absurd rfl h⟩, MA5⟩
    | true =>
      have HWB := Aside0.mk hw; clear hw
      have dn : wa5.cell? ⟨p, 9, none⟩ = some (.string x.f9) := (blk_cell MA5.out.m 9).trans (by rw [HMC.out]; rfl)
      go_wp2_with fail
      refine (text_x x.f9 lw side _ HX.out.s9 HTL.out.2.2.1 HTL.out.2.2.2.1).mono ?_
      rintro e wb5 ⟨t, rfl, ht, hB⟩
      have MB := Aside0.mk (MA5.out.below hB)
      have HT : Aside0 (Fit rr.f2 rr.f3 84 (t.size ≠ 0) ∧ (t.size ≠ 0 → TextOf lw side t)) := ⟨fit_yes HWB.out (fun h => by have := ht.1; rw [h] at this; omega), fun _ => ht⟩
      have dq : wb5.cell? ⟨p5, 9, none⟩ = some (.string ⟨#[]⟩) := (blk_cell MB.out.o 9).trans rfl
      have zq := blk_frozen MB.out.o 9
      have MC : Aside0 (MS w p p5 p6 mc rr (zP kd r2 t3 a4 tf4 tf5 am tf7 tf8 t ⟨#[]⟩ 0 ⟨#[]⟩ ⟨#[]⟩ 0 ⟨#[]⟩ []) (.slice none 0 0) (wb5.setCell ⟨p5, 9, none⟩ (.string t))) := ⟨MB.out.set 9 (.string t) rfl⟩
      clear ht hB dn
      go_wp2_with fail
      go_meet
      exact ⟨t, HT, MC⟩
  case rest =>
  obtain ⟨tf9, Gf9, MS5⟩ := hcut
  clear hw hb hb' dm MA5 MS4
  obtain ⟨wc5, hwc⟩ : ∃ W, W = wc := ⟨_, rfl⟩; rw [← hwc] at MS5 ⊢; clear hwc
  have dm : wc5.cell? ⟨p, 10, none⟩ = some (.string x.f10) := (blk_cell MS5.out.m 10).trans (by rw [HMC.out]; rfl)
  obtain ⟨b6, hb⟩ : ∃ b, (x.f10.toList != ([] : List UInt8)) = b := ⟨_, rfl⟩
  have hb' : x.f10.toList.isEmpty = !b6 := by rw [← hb]; cases x.f10.toList <;> rfl
  go_wp2_with fail
  refine (HW.out _ _ _ 65 b6 MS5.out).mono ?_
  rintro e wa6 ⟨rfl, hB⟩
  have MA6 := Aside0.mk (MS5.out.below hB); clear hB
  go_upto_if 91 with fail
  generalize hw : wantB rr.f2 rr.f3 65 b6 = wb
  go_cut [] from 87 to 95 (fun wc => ∃ t : ByteArray, Aside0 (Fit rr.f2 rr.f3 65 (t.size ≠ 0) ∧ (t.size ≠ 0 → alnF t 6 6 = true)) ∧ Aside0 (MS w p p5 p6 mc rr (zP kd r2 t3 a4 tf4 tf5 am tf7 tf8 tf9 t 0 ⟨#[]⟩ ⟨#[]⟩ 0 ⟨#[]⟩ []) (.slice none 0 0) wc))
  case first =>
    clear hb hb' dm
    cases wb with
    | false =>
      have HWB := Aside0.mk hw; clear hw
      go_wp2_with fail
      go_meet
      exact ⟨⟨#[]⟩, ⟨fit_no HWB.out (fun h => h rfl), fun h => absurd rfl h⟩, MA6⟩
    | true =>
      have HWB := Aside0.mk hw; clear hw
      have dn : wa6.cell? ⟨p, 10, none⟩ = some (.string x.f10) := (blk_cell MA6.out.m 10).trans (by rw [HMC.out]; rfl)
      go_wp2_with fail
      refine (alnum_x x.f10 6 _ HX.out.s10 (by omega) (by omega)).mono ?_
      rintro e wb6 ⟨t, rfl, ht, hB⟩
      have MB := Aside0.mk (MA6.out.below hB)
      have HT : Aside0 (Fit rr.f2 rr.f3 65 (t.size ≠ 0) ∧ (t.size ≠ 0 → alnF t 6 6 = true)) := ⟨fit_yes HWB.out (fun h => by have := (aln_sized ht); rw [h] at this; omega), fun _ => ht⟩
      have dq : wb6.cell? ⟨p5, 10, none⟩ = some (.string ⟨#[]⟩) := (blk_cell MB.out.o 10).trans rfl
      have zq := blk_frozen MB.out.o 10
      have MC : Aside0 (MS w p p5 p6 mc rr (zP kd r2 t3 a4 tf4 tf5 am tf7 tf8 tf9 t 0 ⟨#[]⟩ ⟨#[]⟩ 0 ⟨#[]⟩ []) (.slice none 0 0) (wb6.setCell ⟨p5, 10, none⟩ (.string t))) := ⟨MB.out.set 10 (.string t) rfl⟩
      clear ht hB dn
      go_wp2_with fail
      go_meet
      exact ⟨t, HT, MC⟩
  case rest =>
  obtain ⟨tf10, Gf10, MS6⟩ := hcut
  clear hw hb hb' dm MA6 MS5
  obtain ⟨wc6, hwc⟩ : ∃ W, W = wc := ⟨_, rfl⟩; rw [← hwc] at MS6 ⊢; clear hwc
  have dm : wc6.cell? ⟨p, 11, none⟩ = some (.int .i64 x.f11) := (blk_cell MS6.out.m 11).trans (by rw [HMC.out]; rfl)
  obtain ⟨b7, hb⟩ : ∃ b, (x.f11 != 0) = b := ⟨_, rfl⟩
  have hb' : True := trivial
  go_wp2_with fail
  refine (HW.out _ _ _ 69 b7 MS6.out).mono ?_
  rintro e wa7 ⟨rfl, hB⟩
  have MA7 := Aside0.mk (MS6.out.below hB); clear hB
  go_upto_if 100 with fail
  generalize hw : wantB rr.f2 rr.f3 69 b7 = wb
  go_cut [] from 96 to 105 (fun wc => ∃ t : Int, Aside0 (Fit rr.f2 rr.f3 69 (t ≠ 0) ∧ 0 ≤ t ∧ t ≤ 999) ∧ Aside0 (MS w p p5 p6 mc rr (zP kd r2 t3 a4 tf4 tf5 am tf7 tf8 tf9 tf10 t ⟨#[]⟩ ⟨#[]⟩ 0 ⟨#[]⟩ []) (.slice none 0 0) wc))
  case first =>
    clear hb hb' dm
    cases wb with
    | false =>
      have HWB := Aside0.mk hw; clear hw
      go_wp2_with fail
      go_meet
      exact ⟨0, ⟨fit_no HWB.out (fun h => h rfl), by decide, by decide⟩, MA7⟩
    | true =>
      have HWB := Aside0.mk hw; clear hw
      have dn : wa7.cell? ⟨p, 11, none⟩ = some (.int .i64 x.f11) := (blk_cell MA7.out.m 11).trans (by rw [HMC.out]; rfl)
      go_wp2_with fail
      refine (mod_x x.f11 999 _ (by omega) (by omega)).mono ?_
      rintro e wb7 ⟨r, rfl, hr, hB⟩
      have hr0 := hr.1; have hr1 := hr.2
      have MB := Aside0.mk (MA7.out.below hB)
      have HT : Aside0 (Fit rr.f2 rr.f3 69 (1 + r ≠ 0) ∧ 0 ≤ 1 + r ∧ 1 + r ≤ 999) := ⟨fit_yes HWB.out (by omega), by omega, by omega⟩
      have dq : wb7.cell? ⟨p5, 11, none⟩ = some (.int .i64 0) := (blk_cell MB.out.o 11).trans rfl
      have zq := blk_frozen MB.out.o 11
      have MC : Aside0 (MS w p p5 p6 mc rr (zP kd r2 t3 a4 tf4 tf5 am tf7 tf8 tf9 tf10 (1 + r) ⟨#[]⟩ ⟨#[]⟩ 0 ⟨#[]⟩ []) (.slice none 0 0) (wb7.setCell ⟨p5, 11, none⟩ (.int .i64 (1 + r)))) := ⟨MB.out.set 11 (.int .i64 (1 + r)) rfl⟩
      clear hr hB dn
      go_wp2_with fail
      go_meet
      exact ⟨1 + r, HT, MC⟩
  case rest =>
  obtain ⟨tf11, Gf11, MS7⟩ := hcut
  clear hw hb hb' dm MA7 MS6
  obtain ⟨wc7, hwc⟩ : ∃ W, W = wc := ⟨_, rfl⟩; rw [← hwc] at MS7 ⊢; clear hwc
  have dm : wc7.cell? ⟨p, 12, none⟩ = some (.string x.f12) := (blk_cell MS7.out.m 12).trans (by rw [HMC.out]; rfl)
  obtain ⟨b8, hb⟩ : ∃ b, (x.f12.toList != ([] : List UInt8)) = b := ⟨_, rfl⟩
  have hb' : x.f12.toList.isEmpty = !b8 := by rw [← hb]; cases x.f12.toList <;> rfl
  go_wp2_with fail
  refine (HW.out _ _ _ 68 b8 MS7.out).mono ?_
  rintro e wa8 ⟨rfl, hB⟩
  have MA8 := Aside0.mk (MS7.out.below hB); clear hB
  go_upto_if 110 with fail
  generalize hw : wantB rr.f2 rr.f3 68 b8 = wb
  go_cut [10] from 106 to 130 (fun s10 wc => ∃ t : ByteArray, Aside0 (Fit rr.f2 rr.f3 68 (t.size ≠ 0) ∧ (t.size ≠ 0 → (wordsF t).2.2 = true)) ∧ Aside0 (MS w p p5 p6 mc rr (zP kd r2 t3 a4 tf4 tf5 am tf7 tf8 tf9 tf10 tf11 t ⟨#[]⟩ 0 ⟨#[]⟩ []) (.slice none 0 0) wc))
  case first =>
    clear hb hb' dm
    cases wb with
    | false =>
      have HWB := Aside0.mk hw; clear hw
      go_wp2_with fail
      go_meet
      exact ⟨⟨#[]⟩, ⟨fit_no HWB.out (fun h => h rfl), fun h => absurd rfl h⟩, MA8⟩
    | true =>
      have HWB := Aside0.mk hw; clear hw
      go_wp2_with fail
      refine (actions_x _).mono ?_
      rintro e wb8 ⟨v, rfl, hR, hB⟩
      have MB := Aside0.mk (MA8.out.below hB)
      obtain ⟨AL, cL, eL, hcL, hC⟩ := Kd.R_reads hR
      subst eL
      have HCL := Aside0.mk hC
      obtain ⟨nl, hnl⟩ : ∃ n, n = actionList.length := ⟨_, rfl⟩
      have HNL := Aside0.mk hnl
      have hn1 : 0 < (nl : Int) := by have := actions_good.1; omega
      have hn2 : (nl : Int) ≤ 1000 := by have := actions_good.2.1; omega
      rw [← hnl] at HCL ⊢
      clear hR hB hC hcL hnl
      have dn : wb8.cell? ⟨p, 12, none⟩ = some (.string x.f12) := (blk_cell MB.out.m 12).trans (by rw [HMC.out]; rfl)
      have dn2 : wb8.cell? ⟨p, 11, none⟩ = some (.int .i64 x.f11) := (blk_cell MB.out.m 11).trans (by rw [HMC.out]; rfl)
      go_wp2_with fail
      refine (mod_x _ (nl : Int) _ hn1 (by omega)).mono ?_
      rintro e wb9 ⟨r, rfl, hr, hB⟩
      have hr0 := hr.1; have hr1 := hr.2
      have MD := Aside0.mk (MB.out.below hB)
      obtain ⟨ad, cc, ea, hcl, hK, hcell⟩ := Kd.C_get (Kd.C_below HCL.out hB) ByteArray.empty r hr0 hr1
      subst ea
      obtain ⟨s, hs⟩ : ∃ s, s = actionList.getD r.toNat ByteArray.empty := ⟨_, rfl⟩
      rw [← hs] at hK
      have hs1 : (wordsF s).2.2 = true := by rw [hs, List.getD_eq_getElem?_getD, List.getElem?_eq_getElem (by have := HNL.out; omega), Option.getD_some]; exact actions_good.2.2 _ (List.getElem_mem _)
      have HS1 := Aside0.mk hs1; clear hs hs1
      have hc0 := hcell 0 (.string s) (by have hk : cc = [.string s] := hK; rw [hk]; rfl)
      have hc1 : wb9.cell? (ad.add r.toNat) = some (.string s) := by have h := hc0; rw [show r.toNat * (Kd.string).sz + 0 = r.toNat from by show r.toNat * 1 + 0 = _; omega] at h; exact h
      have hc2 : wb9.cell? (ad.add (r.toNat * 1)) = some (.string s) := by rw [Nat.mul_one]; exact hc1
      have dq : wb9.cell? ⟨p5, 12, none⟩ = some (.string ⟨#[]⟩) := (blk_cell MD.out.o 12).trans rfl
      have zq := blk_frozen MD.out.o 12
      have ME : Aside0 (MS w p p5 p6 mc rr (zP kd r2 t3 a4 tf4 tf5 am tf7 tf8 tf9 tf10 tf11 s ⟨#[]⟩ 0 ⟨#[]⟩ []) (.slice none 0 0) (wb9.setCell ⟨p5, 12, none⟩ (.string s))) := ⟨MD.out.set 12 (.string s) rfl⟩
      clear hr hB dn dn2 hcell hcl hK hc0
      go_upto_region 24 with fail
      clear hc1 hc2 dq zq hr0 hr1 hn1 hn2
      generalize wb9.setCell ⟨p5, 12, none⟩ (.string s) = wf at ME ⊢
      have dn : wf.cell? ⟨p, 12, none⟩ = some (.string x.f12) := (blk_cell ME.out.m 12).trans (by rw [HMC.out]; rfl)
      have dq : wf.cell? ⟨p5, 12, none⟩ = some (.string s) := (blk_cell ME.out.o 12).trans rfl
      go_wp2_with fail
      refine (known_e x.f12 _).mono ?_
      rintro e wg ⟨rfl, hB⟩
      obtain ⟨kb, hkb'⟩ : ∃ b, b = (wordsF x.f12).2.2 := ⟨_, rfl⟩
      rw [← hkb']
      have hkb : kb = true → (wordsF x.f12).2.2 = true := fun h => hkb'.symm.trans h
      clear hkb'
      have MG := Aside0.mk (ME.out.below hB)
      have HKB := Aside0.mk hkb
      clear hkb hB dn dq
      cases kb with
      | false =>
        go_wp2_with fail
        go_meet
        exact ⟨s, ⟨fit_yes HWB.out (act_ne HS1.out), fun _ => HS1.out⟩, MG⟩
      | true =>
        have dn : wg.cell? ⟨p, 12, none⟩ = some (.string x.f12) := (blk_cell MG.out.m 12).trans (by rw [HMC.out]; rfl)
        have dq : wg.cell? ⟨p5, 12, none⟩ = some (.string s) := (blk_cell MG.out.o 12).trans rfl
        have zq := blk_frozen MG.out.o 12
        have MH : Aside0 (MS w p p5 p6 mc rr (zP kd r2 t3 a4 tf4 tf5 am tf7 tf8 tf9 tf10 tf11 x.f12 ⟨#[]⟩ 0 ⟨#[]⟩ []) (.slice none 0 0) (wg.setCell ⟨p5, 12, none⟩ (.string x.f12))) := ⟨MG.out.set 12 (.string x.f12) rfl⟩
        go_wp2_with fail
        go_meet
        exact ⟨x.f12, ⟨fit_yes HWB.out (act_ne (HKB.out (by first | trivial | rfl))), fun _ => HKB.out (by first | trivial | rfl)⟩, MH⟩
  case rest =>
  obtain ⟨tf12, Gf12, MS8⟩ := hcut
  clear hw hb hb' dm MA8 MS7
  obtain ⟨wc8, hwc⟩ : ∃ W, W = wc := ⟨_, rfl⟩; rw [← hwc] at MS8 ⊢; clear hwc
  have dm : wc8.cell? ⟨p, 13, none⟩ = some (.string x.f13) := (blk_cell MS8.out.m 13).trans (by rw [HMC.out]; rfl)
  obtain ⟨b9, hb⟩ : ∃ b, (x.f13.toList != ([] : List UInt8)) = b := ⟨_, rfl⟩
  have hb' : x.f13.toList.isEmpty = !b9 := by rw [← hb]; cases x.f13.toList <;> rfl
  go_wp2_with fail
  refine (HW.out _ _ _ 78 b9 MS8.out).mono ?_
  rintro e wa9 ⟨rfl, hB⟩
  have MA9 := Aside0.mk (MS8.out.below hB); clear hB
  go_upto_if 135 with fail
  generalize hw : wantB rr.f2 rr.f3 78 b9 = wb
  go_cut [] from 131 to 139 (fun wc => ∃ t : ByteArray, Aside0 (Fit rr.f2 rr.f3 78 (t.size ≠ 0) ∧ (t.size ≠ 0 → rightF t 4 4 = true)) ∧ Aside0 (MS w p p5 p6 mc rr (zP kd r2 t3 a4 tf4 tf5 am tf7 tf8 tf9 tf10 tf11 tf12 t 0 ⟨#[]⟩ []) (.slice none 0 0) wc))
  case first =>
    clear hb hb' dm
    cases wb with
    | false =>
      have HWB := Aside0.mk hw; clear hw
      go_wp2_with fail
      go_meet
      exact ⟨⟨#[]⟩, ⟨fit_no HWB.out (fun h => h rfl), fun h => absurd rfl h⟩, MA9⟩
    | true =>
      have HWB := Aside0.mk hw; clear hw
      have dn : wa9.cell? ⟨p, 13, none⟩ = some (.string x.f13) := (blk_cell MA9.out.m 13).trans (by rw [HMC.out]; rfl)
      go_wp2_with fail
      refine (digits_x x.f13 4 4 _ HX.out.s13 (by omega) (by omega) (by omega)).mono ?_
      rintro e wb9 ⟨t, rfl, ht, hB⟩
      have MB := Aside0.mk (MA9.out.below hB)
      have HT : Aside0 (Fit rr.f2 rr.f3 78 (t.size ≠ 0) ∧ (t.size ≠ 0 → rightF t 4 4 = true)) := ⟨fit_yes HWB.out (fun h => by have := (dig_sized ht).1; rw [h] at this; omega), fun _ => ht⟩
      have dq : wb9.cell? ⟨p5, 13, none⟩ = some (.string ⟨#[]⟩) := (blk_cell MB.out.o 13).trans rfl
      have zq := blk_frozen MB.out.o 13
      have MC : Aside0 (MS w p p5 p6 mc rr (zP kd r2 t3 a4 tf4 tf5 am tf7 tf8 tf9 tf10 tf11 tf12 t 0 ⟨#[]⟩ []) (.slice none 0 0) (wb9.setCell ⟨p5, 13, none⟩ (.string t))) := ⟨MB.out.set 13 (.string t) rfl⟩
      clear ht hB dn
      go_wp2_with fail
      go_meet
      exact ⟨t, HT, MC⟩
  case rest =>
  obtain ⟨tf13, Gf13, MS9⟩ := hcut
  clear hw hb hb' dm MA9 MS8
  obtain ⟨wc9, hwc⟩ : ∃ W, W = wc := ⟨_, rfl⟩; rw [← hwc] at MS9 ⊢; clear hwc
  have dm : wc9.cell? ⟨p, 15, none⟩ = some (.string x.f14.f1) := (blk_cell MS9.out.m 15).trans (by rw [HMC.out]; rfl)
  obtain ⟨b10, hb⟩ : ∃ b, (x.f14.f1.toList != ([] : List UInt8)) = b := ⟨_, rfl⟩
  have hb' : x.f14.f1.toList.isEmpty = !b10 := by rw [← hb]; cases x.f14.f1.toList <;> rfl
  go_wp2_with fail
  refine (HW.out _ _ _ 79 b10 MS9.out).mono ?_
  rintro e wa10 ⟨rfl, hB⟩
  have MA10 := Aside0.mk (MS9.out.below hB); clear hB
  go_upto_if 145 with fail
  generalize hw : wantB rr.f2 rr.f3 79 b10 = wb
  go_cut [] from 140 to 155 (fun wc => ∃ (n : Int) (t : ByteArray), Aside0 (Fit rr.f2 rr.f3 79 (t.size ≠ 0) ∧ (t.size ≠ 0 → timeF t = true) ∧ (t.size = 0 → n = 0) ∧ (0 ≤ n ∧ n < 1000000)) ∧ Aside0 (MS w p p5 p6 mc rr (zP kd r2 t3 a4 tf4 tf5 am tf7 tf8 tf9 tf10 tf11 tf12 tf13 n t []) (.slice none 0 0) wc))
  case first =>
    clear hb hb' dm
    cases wb with
    | false =>
      have HWB := Aside0.mk hw; clear hw
      go_wp2_with fail
      go_meet
      exact ⟨0, ⟨#[]⟩, ⟨fit_no HWB.out (fun h => h rfl), fun h => absurd rfl h, fun _ => rfl, by decide⟩, MA10⟩
    | true =>
      have HWB := Aside0.mk hw; clear hw
      go_upto_region 29 with fail
      have JD := Aside0.mk (MA10.out.below (below_drew1 (Below.refl _ _)))
      refine start_ (n := 11) (ds := []) (S := fun w' => w'.cell? ⟨p, 14, none⟩ = some (.int .i64 x.f14.f0) ∧ w'.cell? ⟨p, 15, none⟩ = some (.string x.f14.f1)) (V 11 0) (by rfl) (by rfl) (by kernel_rfl) (⟨(blk_cell JD.out.m 14).trans (by rw [HMC.out]; rfl), (blk_cell JD.out.m 15).trans (by rw [HMC.out]; rfl)⟩) (fun hHeld => ?_); refine with_tabW tab18_29 bits18_29 (fun HT_ HW_ => ?_)
      generalize World.drew wa10 = wg at JD hHeld ⊢
      refine pure_ (i := 0) (N := some 146) (v := ?_) (a' := ?_) (V 11 1) rfl rfl (any_of HT_.out (by kernel_rfl)) (fun _ _ _ h => h) (Or.inl ⟨by rfl, ?_⟩) ?_ ?_; rotate_left
      · intro w'; go_simp; with_reducible rfl
      rotate_left
      · simp only [Act.put, List.setIfInBounds_toArray, List.set_cons_zero, List.set_cons_succ, i64_w, i32_w]; rfl
      refine pure_ (i := 1) (N := some 147) (v := ?_) (a' := ?_) (V 11 3) rfl rfl (any_of HT_.out (by kernel_rfl)) (fun _ _ _ h => h) (Or.inl ⟨by rfl, ?_⟩) ?_ ?_; rotate_left
      · intro w'; go_simp; with_reducible rfl
      rotate_left
      · simp only [Act.put, List.setIfInBounds_toArray, List.set_cons_zero, List.set_cons_succ, i64_w, i32_w]; rfl
      refine take_ (i := 2) (N := some 148) (v := ?_) (a' := ?_) (V 11 7) rfl rfl (take_ofW HT_.out HW_.out (by kernel_rfl)) (fun _ _ _ h => h) (Or.inl ⟨by rfl, ?_⟩) hHeld ?_ ?_; rotate_left
      · rintro w' ⟨s0, s1⟩; go_simp; with_reducible rfl
      rotate_left
      · simp only [Act.put, List.setIfInBounds_toArray, List.set_cons_zero, List.set_cons_succ, i64_w, i32_w]; rfl
      refine pure_ (i := 4) (N := some 150) (v := ?_) (a' := ?_) (V 11 23) rfl rfl (any_of HT_.out (by kernel_rfl)) (fun _ _ _ h => h) (Or.inl ⟨by rfl, ?_⟩) ?_ ?_; rotate_left
      · intro w'; go_simp; with_reducible rfl
      rotate_left
      · simp only [Act.put, List.setIfInBounds_toArray, List.set_cons_zero, List.set_cons_succ, i64_w, i32_w]; rfl
      refine pure_ (i := 5) (N := some 151) (v := ?_) (a' := ?_) (V 11 55) rfl rfl (any_of HT_.out (by kernel_rfl)) (fun _ _ _ h => h) (Or.inl ⟨by rfl, ?_⟩) ?_ ?_; rotate_left
      · intro w'; go_simp; with_reducible rfl
      rotate_left
      · simp only [Act.put, List.setIfInBounds_toArray, List.set_cons_zero, List.set_cons_succ, i64_w, i32_w]; rfl
      refine take_ (i := 6) (N := some 152) (v := ?_) (a' := ?_) (V 11 119) rfl rfl (take_ofW HT_.out HW_.out (by kernel_rfl)) (fun _ _ _ h => h) (Or.inl ⟨by rfl, ?_⟩) hHeld ?_ ?_; rotate_left
      · rintro w' ⟨s0, s1⟩; go_simp; with_reducible rfl
      rotate_left
      · simp only [Act.put, List.setIfInBounds_toArray, List.set_cons_zero, List.set_cons_succ, i64_w, i32_w]; rfl
      refine one_ (i := 3) (N := some 149) (V 11 127) rfl rfl (one_of HT_.out (by kernel_rfl)) (by decide) (fun K hK => ?_)
      refine goes_ Tryz.func13 (by kernel_rfl) rfl #[.int .i64 x.f14.f0, .int .i64 1000000] (by rfl) rfl rfl (by (try simp only [List.map_toArray, List.map_cons, List.map_nil]); first | done | rfl) ?_
      with_reducible refine (mod_x x.f14.f0 1000000 _ (by omega) (by omega)).mono ?_
      rintro e w103 ⟨r, rfl, hrr, hB⟩
      have HRO := Aside0.mk hrr; clear hrr
      refine ⟨_, rfl, ?_⟩
      have JD' := Aside0.mk (JD.out.below hB); clear hB JD hHeld; have JD := JD'; clear JD'
      refine hK.out _ _ (⟨(blk_cell JD.out.m 14).trans (by rw [HMC.out]; rfl), (blk_cell JD.out.m 15).trans (by rw [HMC.out]; rfl)⟩) (fun hHeld => ?_)
      clear hK K
      refine norm_ (a' := ?_) ?_ ?_; rotate_left
      · show Act.put _ (some 149) _ = _; simp only [Act.put, List.setIfInBounds_toArray, List.set_cons_zero, List.set_cons_succ, i64_w, i32_w]; rfl
      refine one_ (i := 7) (N := some 153) (V 11 255) rfl rfl (one_of HT_.out (by kernel_rfl)) (by decide) (fun K hK => ?_)
      refine goes_ Tryz.func14 (by kernel_rfl) rfl #[.string x.f14.f1] (by rfl) rfl rfl (by (try simp only [List.map_toArray, List.map_cons, List.map_nil]); first | done | rfl) ?_
      with_reducible refine (playTime_x x.f14.f1 _ HX.out.s14).mono ?_
      rintro e w107 ⟨t, rfl, ht, hB⟩
      refine ⟨_, rfl, ?_⟩
      have JD' := Aside0.mk (JD.out.below hB); clear hB JD hHeld; have JD := JD'; clear JD'
      have HT1 : Aside0 (Fit rr.f2 rr.f3 79 (t.size ≠ 0) ∧ (t.size ≠ 0 → timeF t = true) ∧ (t.size = 0 → r = 0) ∧ (0 ≤ r ∧ r < 1000000)) := ⟨fit_yes HWB.out (fun h => by have := time_sized ht; omega), fun _ => ht, fun h => by have := time_sized ht; omega, HRO.out⟩
      clear ht
      refine hK.out _ _ (⟨(blk_cell JD.out.m 14).trans (by rw [HMC.out]; rfl), (blk_cell JD.out.m 15).trans (by rw [HMC.out]; rfl)⟩) (fun hHeld => ?_)
      clear hK K
      refine norm_ (a' := ?_) ?_ ?_; rotate_left
      · show Act.put _ (some 153) _ = _; simp only [Act.put, List.setIfInBounds_toArray, List.set_cons_zero, List.set_cons_succ, i64_w, i32_w]; rfl
      refine pure_ (i := 8) (N := some 154) (v := ?_) (a' := ?_) (V 11 511) rfl rfl (any_of HT_.out (by kernel_rfl)) (fun _ _ _ h => h) (Or.inl ⟨by rfl, ?_⟩) ?_ ?_; rotate_left
      · intro w'; go_simp; with_reducible rfl
      rotate_left
      · simp only [Act.put, List.setIfInBounds_toArray, List.set_cons_zero, List.set_cons_succ, i64_w, i32_w]; rfl
      refine pure_ (i := 9) (N := some 155) (v := ?_) (a' := ?_) (V 11 1023) rfl rfl (any_of HT_.out (by kernel_rfl)) (fun _ _ _ h => h) (Or.inl ⟨by rfl, ?_⟩) ?_ ?_; rotate_left
      · intro w'; go_simp; with_reducible rfl
      rotate_left
      · simp only [Act.put, List.setIfInBounds_toArray, List.set_cons_zero, List.set_cons_succ, i64_w, i32_w]; rfl
      have dq := (blk_cell JD.out.o 14).trans (show _ = some (Value.int .i64 0) from rfl); have zq := blk_frozen JD.out.o 14; have dq2 := (blk_cell JD.out.o 15).trans (show _ = some (Value.string ⟨#[]⟩) from rfl); have zq2 := blk_frozen JD.out.o 15
      refine one_ (i := 10) (N := none) (V 11 2047) rfl rfl (one_of HT_.out (by kernel_rfl)) (by decide) (fun K hK => ?_)
      refine skip_ (w1 := ?_) (by rfl) rfl ?_ ?_; rotate_left
      · go_simp
        rfl
      have JF := Aside0.mk (MS.set (z' := (zP kd r2 t3 a4 tf4 tf5 am tf7 tf8 tf9 tf10 tf11 tf12 tf13 r t [])) (v16' := (.slice none 0 0)) (MS.set (z' := (zP kd r2 t3 a4 tf4 tf5 am tf7 tf8 tf9 tf10 tf11 tf12 tf13 r ⟨#[]⟩ [])) (v16' := (.slice none 0 0)) JD.out 14 (.int .i64 r) rfl) 15 (.string t) rfl)
      refine hK.out _ _ (⟨(blk_cell JF.out.m 14).trans (by rw [HMC.out]; rfl), (blk_cell JF.out.m 15).trans (by rw [HMC.out]; rfl)⟩) (fun hHeld => ?_)
      clear hK K
      refine done_ (done_of HT_.out (by kernel_rfl)) ?_
      try go_wp2
      go_meet
      exact ⟨r, t, HT1, JF⟩
  case rest =>
  obtain ⟨no0, to1, Go1, MS10⟩ := hcut
  clear hw hb hb' dm MA10 MS9
  obtain ⟨wc10, hwc⟩ : ∃ W, W = wc := ⟨_, rfl⟩; rw [← hwc] at MS10 ⊢; clear hwc
  have dm : wc10.cell? ⟨p, 16, none⟩ = some (.slice A16 x.f15.length c16) := (blk_cell MS10.out.m 16).trans (by rw [HMC.out]; rfl)
  obtain ⟨b11, hb⟩ : ∃ b, decide ((0 : Int) < (x.f15.length : Int)) = b := ⟨_, rfl⟩
  have hb' : decide (0 < x.f15.length) = b11 := by rw [← hb]; exact decide_eq_decide.mpr (by omega)
  go_wp2_with fail
  refine (HW.out _ _ _ 71 b11 MS10.out).mono ?_
  rintro e wa11 ⟨rfl, hB⟩
  have MA11 := Aside0.mk (MS10.out.below hB); clear hB
  go_upto_if 161 with fail
  generalize hw : wantB rr.f2 rr.f3 71 b11 = wb
  go_cut [] from 156 to 165 (fun wc => ∃ (l : List S46) (A : Option Addr) (c : Nat), Aside0 (Fit rr.f2 rr.f3 71 (l.length ≠ 0) ∧ FewTags l ∧ l.length ≤ c ∧ (∀ W' : World, (∀ k, p5 < k → k < wc.heap.size → W'.heap[k]? = wc.heap[k]?) → k46.C W' A l.length l)) ∧ Aside0 (MS w p p5 p6 mc rr (zP kd r2 t3 a4 tf4 tf5 am tf7 tf8 tf9 tf10 tf11 tf12 tf13 no0 to1 l) (.slice A l.length c) wc))
  case first =>
    clear hb hb' dm
    cases wb with
    | false =>
      have HWB := Aside0.mk hw; clear hw
      go_wp2_with fail
      go_meet
      exact ⟨[], none, 0, ⟨fit_no HWB.out (fun h => h rfl), few_nil, Nat.le_refl _, fun _ _ => ⟨rfl, by simp, fun h => absurd h (by simp)⟩⟩, MA11⟩
    | true =>
      have HWB := Aside0.mk hw; clear hw
      have dn : wa11.cell? ⟨p, 16, none⟩ = some (.slice A16 x.f15.length c16) := (blk_cell MA11.out.m 16).trans (by rw [HMC.out]; rfl)
      go_wp2_with fail
      refine (tags_x A16 c16 x.f15 _ (Kd.C_below HG.out.2.1 MA11.out.bel) HG.out.1 HX.out.d15 HX.out.l15).mono ?_
      rintro e wb11 ⟨A, c, l, rfl, hC, hlc, hl1, hft, hB⟩
      have MB := Aside0.mk (MA11.out.below hB)
      have dq : wb11.cell? ⟨p5, 16, none⟩ = some (.slice none 0 0) := (blk_cell MB.out.o 16).trans rfl
      have zq := blk_frozen MB.out.o 16
      have MC : Aside0 (MS w p p5 p6 mc rr (zP kd r2 t3 a4 tf4 tf5 am tf7 tf8 tf9 tf10 tf11 tf12 tf13 no0 to1 l) (.slice A l.length c) (wb11.setCell ⟨p5, 16, none⟩ (.slice A l.length c))) := ⟨MB.out.set 16 (.slice A l.length c) rfl⟩
      have HT : Aside0 (Fit rr.f2 rr.f3 71 (l.length ≠ 0) ∧ FewTags l ∧ l.length ≤ c ∧ (∀ W' : World, (∀ k, p5 < k → k < (wb11.setCell ⟨p5, 16, none⟩ (.slice A l.length c)).heap.size → W'.heap[k]? = (wb11.setCell ⟨p5, 16, none⟩ (.slice A l.length c)).heap[k]?) → k46.C W' A l.length l)) := ⟨fit_yes HWB.out (by omega), hft, hlc, fun W' h => hC W' (fun k hk hlt => (h k (by have := blk_lt MA11.out.o; omega) (by rw [show (wb11.setCell ⟨p5, 16, none⟩ (.slice A l.length c)).heap.size = wb11.heap.size by simp [World.setCell]]; exact hlt)).trans (Below.heap_setCell _ _ _ _ (by show k ≠ p5; have := blk_lt MA11.out.o; omega)))⟩
      clear hC hlc hl1 hft hB dn
      go_wp2_with fail
      go_meet
      exact ⟨l, A, c, HT, MC⟩
  case rest =>
  obtain ⟨lG, AG, cG, GG, MS11⟩ := hcut
  clear hw hb hb' dm MA11 MS10
  obtain ⟨wc11, hwc⟩ : ∃ W, W = wc := ⟨_, rfl⟩; rw [← hwc] at MS11 GG ⊢; clear hwc
  have HMO := more_x (zP kd r2 t3 a4 tf4 tf5 am tf7 tf8 tf9 tf10 tf11 tf12 tf13 no0 to1 lG) x side (.slice AG lG.length cG) A16 c16 A19 c19 A20 c20 wc11 HX.out HG.out.2.2.1 (Kd.C_below HG.out.2.2.2.1 MS11.out.bel) HG.out.2.2.2.2.1 (Kd.C_below HG.out.2.2.2.2.2 MS11.out.bel) (by show (⟨#[]⟩ : ByteArray).size ≤ _; decide) (by show (⟨#[]⟩ : ByteArray).size ≤ _; decide) rfl rfl rfl
  rw [← HMC.out] at HMO
  replace HMO := Aside0.mk HMO
  go_wp2_with (first | ((with_reducible refine gate_dst (N := 166) rfl ?_); refine wpList_load_row rfl 29 (.tmp 5) rfl p5 rfl 29 (rowM (zP kd r2 t3 a4 tf4 tf5 am tf7 tf8 tf9 tf10 tf11 tf12 tf13 no0 to1 lG) (.slice AG lG.length cG) (.slice none 0 0) (.slice none 0 0)) (0, 0) _ MS11.out.o hu29.out rfl (by kernel_rfl) ?_) | ((with_reducible refine gate_dst (N := 167) rfl ?_); refine wpList_load_row rfl 29 (.tmp 2) rfl p rfl 29 mc (0, 0) _ MS11.out.m hu29.out rfl (by rw [HMC.out]; kernel_rfl) ?_))
  refine HMO.out.mono ?_
  rintro e w2 ⟨z, B19, d19, B20, d20, rfl, hmo, h18, h19, hst, hB⟩
  have ME := Aside0.mk (MS11.out.below hB)
  have HF := Aside0.mk (And.intro hmo (And.intro h18 (And.intro h19 hst)))
  have HB := Aside0.mk hB
  clear hmo h18 h19 hst hB HMO
  obtain ⟨old, ho, hs⟩ := ME.out.r
  have HOLD := Aside0.mk (And.intro ho hs)
  clear ho hs
  go_wp2_with ((with_reducible refine gate_store (t := 29) (p := 4) rfl ?_); refine Go.Proofs.YthapknnppabdaaaGreat.Fill.store_event rfl 29 _ _ rfl (p + 1) (rowM z (.slice AG lG.length cG) (.slice B19 z.f18.length d19) (.slice B20 z.f19.length d20)) rfl rfl 29 old HOLD.out.1 (by kernel_rfl) (by rw [HOLD.out.2]; rfl) (rowM_one z rfl) ?_; intro w9 ea eb ec; have HE := Aside0.mk (And.intro ea (And.intro eb ec)); clear ea eb ec)
  refine bodyPost_ret (results_cell_row (fn := Tryz.f7) (p := 4) (ty := 29) (by rfl) _ _ (p + 1) 29 (rowM z (.slice AG lG.length cG) (.slice B19 z.f18.length d19) (.slice B20 z.f19.length d20)) (0, 0) _ (by rfl) HE.out.1 hu29.out rfl (by kernel_rfl)) rfl ?_
  have hlt := MS11.out.lt
  have hp5 := blk_lt MS11.out.o
  have keep : ∀ k, p + 1 < k → k < w2.heap.size → w9.heap[k]? = w2.heap[k]? := fun k h1 h2 => HE.out.2.1.2 k h2 (by omega) (by simp)
  have hsz : w2.heap.size ≤ w9.heap.size := HE.out.2.1.1
  have hlo := ME.out.lo
  have cc : ∀ W' : World, (∀ k, w.heap.size ≤ k → k < w9.heap.size → W'.heap[k]? = w9.heap[k]?) → k46.C W' AG lG.length lG ∧ k48.C W' B19 z.f18.length z.f18 ∧ k50.C W' B20 z.f19.length z.f19 := fun W' hW => ⟨GG.out.2.2.2 W' (fun k h1 h2 => (hW k (by omega) (by have := HB.out.size; omega)).trans ((keep k (by omega) (by have := HB.out.size; omega)).trans (HB.out.block k h2))), HF.out.2.2.2 W' (fun k h1 h2 => (hW k (by omega) (by omega)).trans (keep k (by omega) h2))⟩
  obtain ⟨sa, sb, sc, sd, se⟩ := HF.out.1.same
  have e15 : z.f15 = lG := by rw [se]; rfl
  have rd : rr = rd_T56 rowList z.f0 := by rw [se]; exact HRR.out
  refine ⟨z, AG, cG, B19, d19, B20, d20, by rw [e15], ?_, by rw [e15]; exact GG.out.2.2.1, HF.out.2.1, HF.out.2.2.1, by rw [e15]; exact cc, HE.out.2.2 _ _ ME.out.bel (by have := ME.out.lo; omega)⟩
  have hk := HK1.out
  have e0 : z.f0 = kd := by rw [se]; rfl
  have hm : mustOf z.f0 = rr.f2 := by unfold mustOf rowOf; rw [if_pos (by rw [e0]; omega), ← rd]
  have hy : mayOf z.f0 = rr.f3 := by unfold mayOf rowOf; rw [if_pos (by rw [e0]; omega), ← rd]
  have hMO := HF.out.1
  have hT := HTL.out.2.2.2.2
  have hR := HR4.out
  rw [show zP kd r2 t3 a4 tf4 tf5 am tf7 tf8 tf9 tf10 tf11 tf12 tf13 no0 to1 lG = { z with f16 := ⟨#[]⟩, f17 := ⟨#[]⟩, f18 := [], f19 := [] } by rw [se]; rfl] at hMO
  refine ⟨by rw [e0]; exact hk, by rw [se]; exact hR.1.1.2, by rw [se]; exact hR.1.2, by rw [se]; exact hR.2, ?_, ?_, by rw [se]; exact Gf5.out.2.2, ?_, ?_, ?_, ?_, ?_, ?_, ?_, ?_, by rw [se]; exact Go1.out.2.2, ?_, by rw [se]; exact GG.out.2.1, ?_⟩
  all_goals (try rw [hm, hy])
  · rw [se]; exact Gf4.out
  · rw [se]; exact ⟨Gf5.out.1, Gf5.out.2.1⟩
  · rw [se]; exact Gf7.out
  · rw [se]; exact ⟨Gf8.out.1, fun q => ⟨fun h => by rw [← (hT.1 h).1]; exact Gf8.out.2 q, fun h => by rw [← (hT.2 h).1]; exact Gf8.out.2 q⟩⟩
  · rw [se]; exact ⟨Gf9.out.1, fun q => ⟨fun h => by rw [← (hT.1 h).2]; exact Gf9.out.2 q, fun h => by rw [← (hT.2 h).2]; exact Gf9.out.2 q⟩⟩
  · rw [se]; exact Gf10.out
  · rw [se]; exact Gf11.out
  · rw [se]; exact Gf12.out
  · rw [se]; exact Gf13.out
  · rw [se]; exact ⟨Go1.out.1, Go1.out.2.1⟩
  · rw [se]; exact GG.out.1
  · exact hMO
end Go.Proofs.YthapknnppabdaaaGreat.MQ
