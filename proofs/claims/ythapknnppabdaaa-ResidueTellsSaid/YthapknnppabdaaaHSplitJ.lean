/- comptoirref16.Split: where its walk stands. -/
import Derived.Test.YthapknnppabdaaaHSplitP
namespace Go.Proofs.Ythapknnppabdaaa.MR
open Go.RowKit Go.Proofs.YthapknnppabdaaaW.PrintWords Go.Proofs.YthapknnppabdaaaW.PrintLast Go.Proofs.YthapknnppabdaaaW.PrintMore
set_option linter.unusedVariables false
set_option linter.unusedSimpArgs false

/-- The message in block p2, the residue in p2 + 3, the answers' places between. -/
structure JT (w : World) (p2 : Nat) (x : S29) (v16 v19 v20 : Value) (y : S31) (v3 v4 : Value) (W : World) : Prop where
  b2 : W.heap[p2]? = some (.cells (row29 x v16 v19 v20) 29 (0, 0))
  b6 : W.heap[p2 + 3]? = some (.cells (row31 y v3 v4) 31 (0, 0))
  b4 : ∃ old, W.heap[p2 + 1]? = some (.cells old 29 (0, 0)) ∧ old.size = 21
  b5 : ∃ old, W.heap[p2 + 2]? = some (.cells old 31 (0, 0)) ∧ old.size = 5
  bel : Below w.heap.size w W
  lo : w.heap.size ≤ p2
theorem JT.below {w : World} {p2 : Nat} {x : S29} {v16 v19 v20 : Value} {y : S31} {v3 v4 : Value} {W W' : World} (h : JT w p2 x v16 v19 v20 y v3 v4 W) (hb : Below W.heap.size W W') : JT w p2 x v16 v19 v20 y v3 v4 W' := by
  obtain ⟨old, ho, hs⟩ := h.b4
  obtain ⟨old5, ho5, hs5⟩ := h.b5
  exact ⟨blk_below h.b2 hb, blk_below h.b6 hb, ⟨old, blk_below ho hb, hs⟩, ⟨old5, blk_below ho5 hb, hs5⟩, below_step h.bel hb, h.lo⟩
theorem JT.set2 {w : World} {p2 : Nat} {x x' : S29} {v16 v19 v20 v19' v20' : Value} {y : S31} {v3 v4 : Value} {W : World} (h : JT w p2 x v16 v19 v20 y v3 v4 W) (i : Nat) (v : Value)
    (hr : (row29 x v16 v19 v20).setIfInBounds i v = row29 x' v16 v19' v20') : JT w p2 x' v16 v19' v20' y v3 v4 (W.setCell ⟨p2, i, none⟩ v) := by
  obtain ⟨old, ho, hs⟩ := h.b4
  obtain ⟨old5, ho5, hs5⟩ := h.b5
  have f : ∀ n, (W.setCell ⟨p2, i, none⟩ v).heap[p2 + (n + 1)]? = W.heap[p2 + (n + 1)]? := fun n => Below.heap_setCell _ _ _ _ (by show p2 + (n + 1) ≠ p2; omega)
  exact ⟨by rw [← hr]; exact blk_set h.b2 _ _, (f 2).trans h.b6, ⟨old, (f 0).trans ho, hs⟩, ⟨old5, (f 1).trans ho5, hs5⟩, below_set h.bel h.lo, h.lo⟩
theorem JT.set6 {w : World} {p2 : Nat} {x : S29} {v16 v19 v20 : Value} {y y' : S31} {v3 v4 v3' v4' : Value} {W : World} (h : JT w p2 x v16 v19 v20 y v3 v4 W) (i : Nat) (v : Value)
    (hr : (row31 y v3 v4).setIfInBounds i v = row31 y' v3' v4') : JT w p2 x v16 v19 v20 y' v3' v4' (W.setCell ⟨p2 + 3, i, none⟩ v) := by
  obtain ⟨old, ho, hs⟩ := h.b4
  obtain ⟨old5, ho5, hs5⟩ := h.b5
  have f : ∀ n, n < 3 → (W.setCell ⟨p2 + 3, i, none⟩ v).heap[p2 + n]? = W.heap[p2 + n]? := fun n hn => Below.heap_setCell _ _ _ _ (by show p2 + n ≠ p2 + 3; omega)
  exact ⟨(f 0 (by omega)).trans h.b2, by rw [← hr]; exact blk_set h.b6 _ _, ⟨old, (f 1 (by omega)).trans ho, hs⟩, ⟨old5, (f 2 (by omega)).trans ho5, hs5⟩, below_set h.bel (Nat.le_trans h.lo (Nat.le_add_right _ _)), h.lo⟩
end Go.Proofs.Ythapknnppabdaaa.MR
