/- pile.Len, pile.Less walked: a pile behind a pointer. -/
import Derived.Test.YthjcdjanadeobaaHCmp
import Derived.BigRegion
namespace Go.Proofs.Ythjcdjanadeobaa.MH
open Go.RowKit Go.Proofs.YthjcdjanadeobaaW.PrintWords Go.Proofs.YthjcdjanadeobaaW.PrintLast Go.Proofs.YthjcdjanadeobaaW.PrintMore Go.Proofs.Ythjcdjanadeobaa.Heap
set_option linter.unusedVariables false
set_option linter.unusedSimpArgs false

/-- Block sb: a row of items, l at its head. -/
def RowW (w : World) (sb cap : Nat) (l : List Heap.Item) : Prop :=
  ∃ cur : Array Value, w.heap[sb]? = some (.cells cur 62 (0, 0)) ∧ l.length ≤ cap ∧ (l.length ≤ 1000000000 ∧ cap ≤ Go.maxLen) ∧ cur.size = cap * 2 ∧ ∀ i, i < l.length → cur[i * 2]? = some (.int .i64 (at_ l i).1) ∧ cur[i * 2 + 1]? = some (.int .u64 (at_ l i).2)
theorem RowW.at_ {w : World} {sb cap : Nat} {l : List Heap.Item} (h : RowW w sb cap l) (i : Nat) (hi : i < l.length) :
    w.cell? ⟨sb, i * 2, none⟩ = some (.int .i64 (Heap.at_ l i).1) ∧ w.cell? ⟨sb, i * 2 + 1, none⟩ = some (.int .u64 (Heap.at_ l i).2) ∧ w.frozen? ⟨sb, i * 2, none⟩ = false ∧ w.frozen? ⟨sb, i * 2 + 1, none⟩ = false := by
  obtain ⟨cur, a, b, c, d, e⟩ := h
  obtain ⟨e1, e2⟩ := e i hi
  exact ⟨(blk_cell a _).trans e1, (blk_cell a _).trans e2, blk_frozen a _, blk_frozen a _⟩
theorem RowW.size {w : World} {sb cap : Nat} {l : List Heap.Item} (h : RowW w sb cap l) : l.length ≤ 1000000000 := by
  obtain ⟨cur, a, b, c, d, e⟩ := h
  omega
/-- The pile's own two cells. -/
def HeadW (w : World) (pb mb : Nat) (sv : Value) : Prop := w.heap[pb]? = some (.cells #[sv, .map (some mb)] 51 (0, 0))
theorem HeadW.at_ {w : World} {pb mb : Nat} {sv : Value} (h : HeadW w pb mb sv) : w.cell? ⟨pb, 0, none⟩ = some sv ∧ w.cell? ⟨pb, 1, none⟩ = some (.map (some mb)) ∧ w.frozen? ⟨pb, 0, none⟩ = false ∧ w.frozen? ⟨pb, 1, none⟩ = false :=
  ⟨(blk_cell h 0).trans rfl, (blk_cell h 1).trans rfl, blk_frozen h 0, blk_frozen h 1⟩
set_option maxHeartbeats 4000000 in
theorem len26 (pb mb : Nat) (A : Option Addr) (n c : Nat) (w : World) (h : HeadW w pb mb (.slice A n c)) : Calls Try.prog 26 #[.pointer (some ⟨pb, 0, none⟩)] w fun e w' => e = .returned (.int .i64 n) ∧ w' = w := by
  obtain ⟨h0, h1, h2, h3⟩ := h.at_
  clear h
  go_enter Try.func26, Try.ntmps26
  go_wp2
  go_ret
  exact ⟨rfl, rfl⟩
theorem two_blocks (w : World) (A B : Obj) : ((w.alloc A).alloc B).drew.heap[w.heap.size]? = some A ∧ ((w.alloc A).alloc B).drew.heap[w.heap.size + 1]? = some B ∧ Below w.heap.size w ((w.alloc A).alloc B).drew := by
  have hsz : (w.alloc A).heap.size = w.heap.size + 1 := by simp
  refine ⟨blk_drew (blk_alloc (blk_new w _) _), ?_, below_drew1 (below_alloc (below_alloc (Below.refl _ w) _) _)⟩
  rw [← hsz]
  exact blk_drew (blk_new _ _)
theorem less_is (a b : Heap.Item) : decide (orI (cmpI a.2 b.2) (cmpI a.1 b.1) < 0) = less a b := by
  rw [Bool.eq_iff_iff, less_iff, decide_eq_true_eq]
  unfold orI cmpI
  by_cases c1 : a.2 < b.2
  · simp [c1]
  · by_cases c2 : b.2 < a.2
    · simp [c1, c2]; omega
    · have e : a.2 = b.2 := by omega
      by_cases c3 : a.1 < b.1
      · simp [e, c3]
      · by_cases c4 : b.1 < a.1
        · simp [e, c3, c4]
        · simp [e, c3, c4]
set_option maxHeartbeats 8000000 in
set_option maxRecDepth 100000 in
theorem less45 (pb mb sb cap i k : Nat) (l : List Heap.Item) (w : World) (h : HeadW w pb mb (.slice (some ⟨sb, 0, none⟩) l.length cap)) (hr : RowW w sb cap l) (hi : i < l.length) (hk : k < l.length) :
    Calls Try.prog 45 #[.pointer (some ⟨pb, 0, none⟩), .int .i64 i, .int .i64 k] w fun e w' => e = .returned (.bool (less (at_ l i) (at_ l k))) ∧ Below w.heap.size w w' := by
  obtain ⟨h0, h1, h2, h3⟩ := h.at_
  obtain ⟨a0, a1, _, _⟩ := hr.at_ i hi
  obtain ⟨b0, b1, _, _⟩ := hr.at_ k hk
  have HB := Aside0.mk (Below.refl w.heap.size w)
  have q1 : (i : Int) < (l.length : Int) := by omega
  have q2 : (k : Int) < (l.length : Int) := by omega
  have HE := Aside0.mk (less_is (at_ l i) (at_ l k))
  generalize at_ l i = x at a0 a1 HE ⊢
  generalize at_ l k = y at b0 b1 HE ⊢
  obtain ⟨xi, xa⟩ := x
  obtain ⟨yi, ya⟩ := y
  simp only at a0 a1 b0 b1
  clear h hr hi hk
  go_enter Try.func45, Try.ntmps45
  have old : ∀ (b i : Nat) (v : Value), w.cell? ⟨b, i, none⟩ = some v → (∀ o, (w.alloc o).cell? ⟨b, i, none⟩ = some v) ∧ (∀ o o', ((w.alloc o).alloc o').cell? ⟨b, i, none⟩ = some v) ∧ b ≠ w.heap.size ∧ b ≠ w.heap.size + 1 ∧ w.heap.size ≠ b ∧ w.heap.size + 1 ≠ b := by
    intro b i v h
    have hb := World.block_lt_of_cell? w _ h
    simp only at hb
    refine ⟨fun o => ?_, fun o o' => ?_, by omega, by omega, by omega, by omega⟩
    · rw [← h]; exact World.cell?_of_block (w := w) (Below.heap_alloc w o b hb)
    · rw [← h]; exact World.cell?_of_block (w := w) ((Below.heap_alloc _ o' b (by simp; omega)).trans (Below.heap_alloc w o b hb))
  obtain ⟨p1, p2, p3, p4, p5, p6⟩ := old _ _ _ h0
  obtain ⟨e1, e2, e3, e4, e5, e6⟩ := old _ _ _ a0
  obtain ⟨e1', e2', _, _, _, _⟩ := old _ _ _ a1
  obtain ⟨f1, f2, _, _, _, _⟩ := old _ _ _ b0
  obtain ⟨f1', f2', _, _, _, _⟩ := old _ _ _ b1
  clear old
  go_wp2_with fail
  go_cut [7, 8] (fun v7 v8 wc => ∃ p q : Nat, v7 = .pointer (some ⟨p, 0, none⟩) ∧ v8 = .pointer (some ⟨q, 0, none⟩) ∧ Aside0 (wc.heap[p]? = some (.cells #[.int .i64 xi, .int .u64 xa] 62 (0, 0))) ∧ Aside0 (wc.heap[q]? = some (.cells #[.int .i64 yi, .int .u64 ya] 62 (0, 0))) ∧ Aside0 (Below w.heap.size w wc))
  case first =>
    go_region
    all_goals go_wp2
    all_goals go_meet
    all_goals (case rel => first | exact ⟨_, _, rfl, rfl, ⟨(two_blocks w _ _).1⟩, ⟨(two_blocks w _ _).2.1⟩, ⟨(two_blocks w _ _).2.2⟩⟩ | exact ⟨_, _, rfl, rfl, ⟨(two_blocks w _ _).2.1⟩, ⟨(two_blocks w _ _).1⟩, ⟨(two_blocks w _ _).2.2⟩⟩)
  case rest =>
    obtain ⟨p, q, rfl, rfl, P1, P2, HB1⟩ := hcut
    have d0 : wc.cell? ⟨p, 0, none⟩ = some (.int .i64 xi) := (blk_cell P1.out 0).trans rfl
    have d1 : wc.cell? ⟨p, 1, none⟩ = some (.int .u64 xa) := (blk_cell P1.out 1).trans rfl
    have d2 : wc.cell? ⟨q, 0, none⟩ = some (.int .i64 yi) := (blk_cell P2.out 0).trans rfl
    have d3 : wc.cell? ⟨q, 1, none⟩ = some (.int .u64 ya) := (blk_cell P2.out 1).trans rfl
    go_wp2_with fail
    go_still_tail 10, (by kernel_rfl)
    still_call (cmp50 _ _ _)
    repeat still_step
    still_call (cmp51 _ _ _)
    refine wpStill_nil ?_
    change wpList _ _ _ _ _ wc.drew
    clear d0 d1 d2 d3
    go_wp2_with fail
    refine (or49 _ (cmpI xa ya) (cmpI xi yi) _ (blk_drew (blk_new wc _))).mono ?_
    rintro e w' ⟨rfl, rfl⟩
    go_wp2
    go_ret
    refine ⟨by rw [← HE.out]; rfl, ?_⟩
    exact below_drew1 (below_alloc HB1.out _)
end Go.Proofs.Ythjcdjanadeobaa.MH
