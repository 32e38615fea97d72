/- pile.Swap walked: two items change places, and the map tells where they are. -/
import Derived.Test.YthjcdjanadeobaaHMapIs
import Derived.BigRegion
namespace Go.Proofs.Ythjcdjanadeobaa.MH
open Go.RowKit Go.Proofs.YthjcdjanadeobaaW.PrintWords Go.Proofs.YthjcdjanadeobaaW.PrintLast Go.Proofs.YthjcdjanadeobaaW.PrintMore Go.Proofs.Ythjcdjanadeobaa.Heap
set_option linter.unusedVariables false
set_option linter.unusedSimpArgs false

/-- The map tells of each id its place. -/
def Pl (f : Int → Option Int) (l : List Heap.Item) : Prop := ∀ id v : Int, f id = some v ↔ ∃ i : Nat, i < l.length ∧ v = (i : Int) ∧ (at_ l i).1 = id
theorem Pl.here {f : Int → Option Int} {l : List Heap.Item} (h : Pl f l) (i : Nat) (hi : i < l.length) : f (at_ l i).1 = some (i : Int) := (h _ _).2 ⟨i, hi, rfl, rfl⟩
theorem Pl.one {f : Int → Option Int} {l : List Heap.Item} (h : Pl f l) {i k : Nat} (hi : i < l.length) (hk : k < l.length) (e : (at_ l i).1 = (at_ l k).1) : i = k := by
  have a := h.here i hi
  have b := h.here k hk
  rw [e, b] at a
  injection a with a
  omega
theorem Pl.swap {f : Int → Option Int} {l : List Heap.Item} (h : Pl f l) {i k : Nat} (hi : i < l.length) (hk : k < l.length) : Pl (upd (upd f (at_ l k).1 i) (at_ l i).1 k) (Heap.swap l i k) := by
  intro id v
  have A : ∀ j, at_ (Heap.swap l i k) j = if j = k then at_ l i else if j = i then at_ l k else at_ l j := fun j => at_swap l i k j hi hk
  rw [swap_len]
  unfold upd
  by_cases c1 : id = (at_ l i).1
  · rw [if_pos c1]
    constructor
    · intro e
      injection e with e
      exact ⟨k, hk, e.symm, by rw [A, if_pos rfl, c1]⟩
    · rintro ⟨j, hj, rfl, hid⟩
      rw [A] at hid
      by_cases cj : j = k
      · rw [cj]
      · rw [if_neg cj] at hid
        by_cases ci : j = i
        · rw [if_pos ci, c1] at hid
          have := h.one hk hi hid
          omega
        · rw [if_neg ci, c1] at hid
          exact absurd (h.one hj hi hid) ci
  · rw [if_neg c1]
    by_cases c2 : id = (at_ l k).1
    · rw [if_pos c2]
      have hik : i ≠ k := by rintro rfl; exact c1 c2
      constructor
      · intro e
        injection e with e
        exact ⟨i, hi, e.symm, by rw [A, if_neg hik, if_pos rfl, c2]⟩
      · rintro ⟨j, hj, rfl, hid⟩
        rw [A] at hid
        by_cases cj : j = k
        · rw [if_pos cj] at hid
          exact absurd hid.symm c1
        · rw [if_neg cj] at hid
          by_cases ci : j = i
          · rw [ci]
          · rw [if_neg ci, c2] at hid
            exact absurd (h.one hj hk hid) cj
    · rw [if_neg c2, h id v]
      constructor
      · rintro ⟨j, hj, rfl, hid⟩
        refine ⟨j, hj, rfl, ?_⟩
        rw [A, if_neg (by rintro rfl; exact c2 hid.symm), if_neg (by rintro rfl; exact c1 hid.symm)]
        exact hid
      · rintro ⟨j, hj, rfl, hid⟩
        rw [A] at hid
        by_cases cj : j = k
        · rw [if_pos cj] at hid; exact absurd hid.symm c1
        · rw [if_neg cj] at hid
          by_cases ci : j = i
          · rw [if_pos ci] at hid; exact absurd hid.symm c2
          · rw [if_neg ci] at hid
            exact ⟨j, hj, rfl, hid⟩
/-- Only blocks of S may have turned. -/
def Foot (S : Nat → Prop) (w w' : World) : Prop := w'.os = w.os ∧ w'.tape = w.tape ∧ w'.output = w.output ∧ w.heap.size ≤ w'.heap.size ∧ ∀ b, b < w.heap.size → ¬ S b → w'.heap[b]? = w.heap[b]?
theorem Foot.refl (S : Nat → Prop) (w : World) : Foot S w w := ⟨rfl, rfl, rfl, Nat.le_refl _, fun _ _ _ => rfl⟩
theorem Foot.trans {S S' : Nat → Prop} {w w1 w2 : World} (h : Foot S w w1) (k : Foot S' w1 w2) (hS : ∀ b, b < w.heap.size → S' b → S b) : Foot S w w2 :=
  ⟨k.1.trans h.1, k.2.1.trans h.2.1, k.2.2.1.trans h.2.2.1, Nat.le_trans h.2.2.2.1 k.2.2.2.1, fun b hb hn => (k.2.2.2.2 b (Nat.lt_of_lt_of_le hb h.2.2.2.1) (fun g => hn (hS b hb g))).trans (h.2.2.2.2 b hb hn)⟩
theorem Foot.mono {S S' : Nat → Prop} {w w1 : World} (h : Foot S w w1) (hS : ∀ b, S b → S' b) : Foot S' w w1 := ⟨h.1, h.2.1, h.2.2.1, h.2.2.2.1, fun b hb hn => h.2.2.2.2 b hb (fun g => hn (hS b g))⟩
theorem Foot.grown {S : Nat → Prop} {w w1 : World} {b : Nat} (h : w.grownBy w1 (some b)) (hS : S b) : Foot S w w1 :=
  ⟨h.os, h.tape, h.output, h.size, fun k hk hn => h.block k hk (fun e => hn (by injection e with e; rw [e]; exact hS))⟩
theorem Foot.below {S : Nat → Prop} {w w1 : World} (h : Below w.heap.size w w1) : Foot S w w1 := ⟨h.os, h.tape, h.output, h.size, fun k hk _ => h.block k hk⟩
theorem Foot.blk {S : Nat → Prop} {w w1 : World} (h : Foot S w w1) {g : Nat} {o : Obj} (hb : w.heap[g]? = some o) (hn : ¬ S g) : w1.heap[g]? = some o := (h.2.2.2.2 g (blk_lt hb) hn).trans hb
/-- The row behind an exchange. -/
theorem row_swap {w : World} {sb cap i k : Nat} {l : List Heap.Item} (h : RowW w sb cap l) (hi : i < l.length) (hk : k < l.length) :
    RowW ((((w.setCell ⟨sb, i * 2, none⟩ (.int .i64 (at_ l k).1)).setCell ⟨sb, i * 2 + 1, none⟩ (.int .u64 (at_ l k).2)).setCell ⟨sb, k * 2, none⟩ (.int .i64 (at_ l i).1)).setCell ⟨sb, k * 2 + 1, none⟩ (.int .u64 (at_ l i).2)) sb cap (Heap.swap l i k) ∧
    Foot (fun b => b = sb) w ((((w.setCell ⟨sb, i * 2, none⟩ (.int .i64 (at_ l k).1)).setCell ⟨sb, i * 2 + 1, none⟩ (.int .u64 (at_ l k).2)).setCell ⟨sb, k * 2, none⟩ (.int .i64 (at_ l i).1)).setCell ⟨sb, k * 2 + 1, none⟩ (.int .u64 (at_ l i).2)) := by
  obtain ⟨cur, a, b, c, d, e⟩ := h
  refine ⟨⟨_, blk_set (blk_set (blk_set (blk_set a _ _) _ _) _ _) _ _, by rw [swap_len]; exact b, by rw [swap_len]; exact c, by simp only [Array.size_setIfInBounds]; exact d, fun j hj => ?_⟩, rfl, rfl, rfl, by simp [World.setCell], fun q hq hn => ?_⟩
  · rw [swap_len] at hj
    have hv := at_swap l i k j hi hk
    simp only [Array.getElem?_setIfInBounds, Array.size_setIfInBounds]
    obtain ⟨e1, e2⟩ := e j hj
    by_cases cj : j = k
    · subst cj
      rw [if_pos rfl] at hv
      rw [hv]
      refine ⟨?_, ?_⟩
      · rw [if_neg (by omega), if_pos rfl, if_pos (by omega)]
      · rw [if_pos rfl, if_pos (by omega)]
    · rw [if_neg cj] at hv
      by_cases ci : j = i
      · subst ci
        rw [if_pos rfl] at hv
        rw [hv]
        refine ⟨?_, ?_⟩
        · rw [if_neg (by omega), if_neg (by omega), if_neg (by omega), if_pos rfl, if_pos (by omega)]
        · rw [if_neg (by omega), if_neg (by omega), if_pos rfl, if_pos (by omega)]
      · rw [if_neg ci] at hv
        rw [hv]
        refine ⟨?_, ?_⟩
        · rw [if_neg (by omega), if_neg (by omega), if_neg (by omega), if_neg (by omega)]; exact e1
        · rw [if_neg (by omega), if_neg (by omega), if_neg (by omega), if_neg (by omega)]; exact e2
  · rw [Below.heap_setCell _ _ _ _ hn, Below.heap_setCell _ _ _ _ hn, Below.heap_setCell _ _ _ _ hn, Below.heap_setCell _ _ _ _ hn]
set_option maxHeartbeats 8000000 in
set_option maxRecDepth 100000 in
theorem swap48 (pb mb sb cap i k : Nat) (l : List Heap.Item) (f : Int → Option Int) (w : World) (h : HeadW w pb mb (.slice (some ⟨sb, 0, none⟩) l.length cap)) (hr : RowW w sb cap l) (hm : MapIs w mb f) (hp : Pl f l)
    (hi : i < l.length) (hk : k < l.length) (hne : i ≠ k) (n1 : pb ≠ sb) (n2 : mb ≠ sb) (n3 : pb ≠ mb) :
    Calls Try.prog 48 #[.pointer (some ⟨pb, 0, none⟩), .int .i64 i, .int .i64 k] w fun e w' => e = .returned (.tuple #[]) ∧ HeadW w' pb mb (.slice (some ⟨sb, 0, none⟩) l.length cap) ∧ RowW w' sb cap (Heap.swap l i k) ∧ (∃ f', MapIs w' mb f' ∧ Pl f' (Heap.swap l i k)) ∧ Foot (fun b => b = sb ∨ b = mb) w w' := by
  obtain ⟨h0, h1, _, _⟩ := h.at_
  obtain ⟨a0, a1, fa0, fa1⟩ := hr.at_ i hi
  obtain ⟨b0, b1, fb0, fb1⟩ := hr.at_ k hk
  have hpl := hp.swap hi hk
  have hfk := hp.here k hk
  have hfi := hp.here i hi
  obtain ⟨hrow, hfoot⟩ := row_swap hr hi hk
  have HR := Aside0.mk hrow
  have hxy : (at_ l i).1 ≠ (at_ l k).1 := fun e => hne (hp.one hi hk e)
  have HP := Aside0.mk hpl
  -- the world behind the exchange, drawn
  obtain ⟨W0, hW0⟩ : ∃ W0, W0 = ((((w.setCell ⟨sb, i * 2, none⟩ (.int .i64 (at_ l k).1)).setCell ⟨sb, i * 2 + 1, none⟩ (.int .u64 (at_ l k).2)).setCell ⟨sb, k * 2, none⟩ (.int .i64 (at_ l i).1)).setCell ⟨sb, k * 2 + 1, none⟩ (.int .u64 (at_ l i).2)).drew := ⟨_, rfl⟩
  have hF0 : Foot (fun b => b = sb) w W0 := by rw [hW0]; exact hfoot
  have hR0 : RowW W0 sb cap (Heap.swap l i k) := by rw [hW0]; exact hrow
  have hH0 : HeadW W0 pb mb (.slice (some ⟨sb, 0, none⟩) l.length cap) := hF0.blk h n1
  have hM0 : MapIs W0.drew mb f := by obtain ⟨es, cl, x, y⟩ := hm; exact ⟨es, cl, hF0.blk x n2, y⟩
  obtain ⟨s1, E1, hst1⟩ := hM0.entry hfk
  obtain ⟨W2, E2, hM2, hg2⟩ := hst1 i
  have hf2 : upd f (at_ l k).1 i (at_ l i).1 = some (i : Int) := by unfold upd; rw [if_neg hxy]; exact hfi
  obtain ⟨s2, E3, hst2⟩ := hM2.entry hf2
  obtain ⟨W3, E4, hM3, hg3⟩ := hst2 k
  have hF : Foot (fun b => b = sb ∨ b = mb) w W3 := by
    have q1 : Foot (fun b => b = sb ∨ b = mb) w W0.drew := hF0.mono (fun b hb => .inl hb)
    have q2 := q1.trans (Foot.grown (S := fun b => b = sb ∨ b = mb) hg2 (.inr rfl)) (fun _ _ h => h)
    exact q2.trans (Foot.grown (S := fun b => b = sb ∨ b = mb) hg3 (.inr rfl)) (fun _ _ h => h)
  have hg23 : ∀ b, b < W0.heap.size → b ≠ mb → W3.heap[b]? = W0.heap[b]? := fun b hb hn =>
    (hg3.block b (Nat.lt_of_lt_of_le hb hg2.size) (fun e => hn (by injection e))).trans (hg2.block b hb (fun e => hn (by injection e)))
  have HZ : Aside0 (HeadW W3 pb mb (.slice (some ⟨sb, 0, none⟩) l.length cap) ∧ RowW W3 sb cap (Heap.swap l i k) ∧ (∃ f', MapIs W3 mb f' ∧ Pl f' (Heap.swap l i k)) ∧ Foot (fun b => b = sb ∨ b = mb) w W3) := by
    refine ⟨?_, ?_, ⟨_, hM3, hpl⟩, hF⟩
    · have := hg23 pb (blk_lt hH0) n3
      exact this.trans hH0
    · obtain ⟨cur, x, y⟩ := hR0
      exact ⟨cur, (hg23 sb (blk_lt x) (fun e => n2 e.symm)).trans x, y⟩
  have n1' : sb ≠ pb := fun e => n1 e.symm
  have q1 : (i : Int) < (l.length : Int) := by omega
  have q2 : (k : Int) < (l.length : Int) := by omega
  have m1 : i * 2 ≠ k * 2 := by omega
  have m2 : i * 2 ≠ k * 2 + 1 := by omega
  have m3 : i * 2 + 1 ≠ k * 2 := by omega
  have m4 : i * 2 + 1 ≠ k * 2 + 1 := by omega
  have m1' : k * 2 ≠ i * 2 := by omega
  have m2' : k * 2 ≠ i * 2 + 1 := by omega
  have m3' : k * 2 + 1 ≠ i * 2 := by omega
  have m4' : k * 2 + 1 ≠ i * 2 + 1 := by omega
  obtain ⟨c0, c1, _, _⟩ := hH0.at_
  have e1 := (hR0.at_ i (by rw [swap_len]; exact hi)).1
  have e2 := (hR0.at_ k (by rw [swap_len]; exact hk)).1
  rw [at_swap l i k i hi hk, if_neg hne, if_pos rfl] at e1
  rw [at_swap l i k k hi hk, if_pos rfl] at e2
  generalize at_ l i = x at *
  generalize at_ l k = y at *
  obtain ⟨xi, xa⟩ := x
  obtain ⟨yi, ya⟩ := y
  simp only at a0 a1 b0 b1 E1 E2 E3 E4 hW0 e1 e2
  have HC := Aside0.mk (And.intro c0 (And.intro c1 (And.intro e1 e2)))
  have HE := Aside0.mk (And.intro E1 (And.intro E2 (And.intro E3 E4)))
  clear h hr hm hp hi hk hpl hfk hfi hrow hfoot hF0 hR0 hH0 hM0 hst1 hM2 hg2 hf2 hst2 hM3 hg3 hF hg23 c0 c1 e1 e2 E1 E2 E3 E4 HR HP hxy
  go_enter Try.func48, Try.ntmps48
  go_wp2_with fail
  go_region
  rw [← hW0]
  obtain ⟨c0, c1, e1, e2⟩ := HC.out
  obtain ⟨E1, E2, E3, E4⟩ := HE.out
  clear hW0 h0 h1 a0 a1 b0 b1 fa0 fa1 fb0 fb1 m1 m2 m3 m4 m1' m2' m3' m4' HC HE
  go_wp2_with fail
  go_region
  go_wp2
  go_end0
  exact ⟨rfl, HZ.out⟩
end Go.Proofs.Ythjcdjanadeobaa.MH
