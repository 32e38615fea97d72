/- TimersOrder walked: two heaps, and an order beside them. -/
import Derived.Test.YthjcdjanadeobaaHOrder
namespace Go.Proofs.Ythjcdjanadeobaa.MH
open Go.RowKit Go.Proofs.YthjcdjanadeobaaW.PrintWords Go.Proofs.YthjcdjanadeobaaW.PrintLast Go.Proofs.YthjcdjanadeobaaW.PrintMore Go.Proofs.Ythjcdjanadeobaa.Heap
set_option linter.unusedVariables false
set_option linter.unusedSimpArgs false

/-- An order in a row of one's own. -/
def RowL (w : World) (g : Nat) (ol : List Nat) : Prop := ∃ cur : Array Value, w.heap[g]? = some (.cells cur 3 (0, 0)) ∧ ∀ j, j < ol.length → cur[j]? = some (.int .i64 ((ol.getD j 0 : Nat) : Int))
theorem RowL.cell {w : World} {g : Nat} {ol : List Nat} (h : RowL w g ol) (j : Nat) (hj : j < ol.length) : w.cell? ⟨g, j, none⟩ = some (.int .i64 ((ol.getD j 0 : Nat) : Int)) ∧ w.frozen? ⟨g, j, none⟩ = false := by
  obtain ⟨cur, a, b⟩ := h
  exact ⟨(blk_cell a j).trans (b j hj), blk_frozen a j⟩
theorem RowL.lt {w : World} {g : Nat} {ol : List Nat} (h : RowL w g ol) : g < w.heap.size := by
  obtain ⟨cur, a, b⟩ := h
  exact blk_lt a
theorem RowL.keep {w w' : World} {g : Nat} {ol : List Nat} {S : Nat → Prop} (h : RowL w g ol) (hf : Foot S w w') (hS : ¬ S g) : RowL w' g ol := by
  obtain ⟨cur, a, b⟩ := h
  exact ⟨cur, hf.blk a hS, b⟩
theorem getD_set (l : List Nat) (i j v : Nat) (hi : i < l.length) : (l.set i v).getD j 0 = if j = i then v else l.getD j 0 := by
  rw [List.getD_eq_getElem?_getD, List.getElem?_set]
  by_cases e : i = j
  · subst e; simp [hi]
  · rw [if_neg e, if_neg (fun h' => e h'.symm), List.getD_eq_getElem?_getD]
theorem RowL.set {w : World} {g : Nat} {ol : List Nat} (h : RowL w g ol) {i : Nat} (hi : i < ol.length) (v : Nat) : RowL (w.setCell ⟨g, i, none⟩ (.int .i64 (v : Int))) g (ol.set i v) := by
  obtain ⟨cur, a, b⟩ := h
  refine ⟨_, blk_set a _ _, fun j hj => ?_⟩
  rw [List.length_set] at hj
  rw [Array.getElem?_setIfInBounds, getD_set ol i j v hi]
  by_cases c : i = j
  · subst c
    have : i < cur.size := (Array.getElem?_eq_some_iff.1 (b i hi)).1
    rw [if_pos rfl, if_pos this, if_pos rfl]
  · rw [if_neg c, if_neg (fun e => c e.symm)]
    exact b j hj
/-- Two heaps and an order. -/
structure Tw (w0 w : World) (ha hb : Nat) (Sa Sb : Nat → Prop) (ma mb : List Heap.Item) (g : Nat) (ol : List Nat) : Prop where
  a : Hp w ha Sa ma
  b : Hp w hb Sb mb
  na : Now w0 w Sa
  nb : Now w0 w Sb
  dis : ∀ x, Sa x → ¬ Sb x
  row : RowL w g ol
  offa : ¬ Sa g
  offb : ¬ Sb g
  new : w0.heap.size ≤ g
theorem Tw.turnA {w0 w w' : World} {ha hb g : Nat} {Sa Sb Sa' : Nat → Prop} {ma mb ma' : List Heap.Item} {ol : List Nat} (h : Tw w0 w ha hb Sa Sb ma mb g ol) (k : Hp w' ha Sa' ma') (t : Turn w w' Sa Sa') : Tw w0 w' ha hb Sa' Sb ma' mb g ol := by
  have n1 := h.na.turn t
  refine ⟨k, h.b.keep t.foot (fun x _ hb' ha' => h.dis x ha' hb'), n1, h.nb.other n1, fun x hx hy => ?_, h.row.keep t.foot h.offa, fun hs => ?_, h.offb, h.new⟩
  · rcases t.new x hx with h1 | h1
    · exact h.dis x h1 hy
    · have := h.b.lt x hy; omega
  · rcases t.new g hs with h1 | h1
    · exact h.offa h1
    · have := h.row.lt; omega
theorem Tw.turnB {w0 w w' : World} {ha hb g : Nat} {Sa Sb Sb' : Nat → Prop} {ma mb mb' : List Heap.Item} {ol : List Nat} (h : Tw w0 w ha hb Sa Sb ma mb g ol) (k : Hp w' hb Sb' mb') (t : Turn w w' Sb Sb') : Tw w0 w' ha hb Sa Sb' ma mb' g ol := by
  have n1 := h.nb.turn t
  refine ⟨h.a.keep t.foot (fun x _ ha' hb' => h.dis x ha' hb'), k, h.na.other n1, n1, fun x hx hy => ?_, h.row.keep t.foot h.offb, h.offa, fun hs => ?_, h.new⟩
  · rcases t.new x hy with h1 | h1
    · exact h.dis x hx h1
    · have := h.a.lt x hx; omega
  · rcases t.new g hs with h1 | h1
    · exact h.offb h1
    · have := h.row.lt; omega
theorem Tw.below {w0 w w' : World} {ha hb g : Nat} {Sa Sb : Nat → Prop} {ma mb : List Heap.Item} {ol : List Nat} (h : Tw w0 w ha hb Sa Sb ma mb g ol) (k : Below w.heap.size w w') : Tw w0 w' ha hb Sa Sb ma mb g ol := h.turnA (h.a.still k) (Turn.below k)
theorem Tw.permA {w0 w : World} {ha hb g : Nat} {Sa Sb : Nat → Prop} {ma mb ma' : List Heap.Item} {ol : List Nat} (h : Tw w0 w ha hb Sa Sb ma mb g ol) (p : ma.Perm ma') : Tw w0 w ha hb Sa Sb ma' mb g ol := ⟨h.a.perm p, h.b, h.na, h.nb, h.dis, h.row, h.offa, h.offb, h.new⟩
theorem Tw.permB {w0 w : World} {ha hb g : Nat} {Sa Sb : Nat → Prop} {ma mb mb' : List Heap.Item} {ol : List Nat} (h : Tw w0 w ha hb Sa Sb ma mb g ol) (p : mb.Perm mb') : Tw w0 w ha hb Sa Sb ma mb' g ol := ⟨h.a, h.b.perm p, h.na, h.nb, h.dis, h.row, h.offa, h.offb, h.new⟩
theorem Tw.set {w0 w : World} {ha hb g : Nat} {Sa Sb : Nat → Prop} {ma mb : List Heap.Item} {ol : List Nat} (h : Tw w0 w ha hb Sa Sb ma mb g ol) {i : Nat} (hi : i < ol.length) (v : Nat) : Tw w0 (w.setCell ⟨g, i, none⟩ (.int .i64 (v : Int))) ha hb Sa Sb ma mb g (ol.set i v) := by
  have hF : Foot (fun b => b = g) w (w.setCell ⟨g, i, none⟩ (.int .i64 (v : Int))) := ⟨rfl, rfl, rfl, by simp [World.setCell], fun b hb hn => Below.heap_setCell _ _ _ _ hn⟩
  have hbel : Below w0.heap.size w0 (w.setCell ⟨g, i, none⟩ (.int .i64 (v : Int))) := ⟨h.na.bel.os, h.na.bel.tape, h.na.bel.output, Nat.le_trans h.na.bel.size hF.2.2.2.1, fun b hb => (hF.2.2.2.2 b (Nat.lt_of_lt_of_le hb h.na.bel.size) (fun e => by have := h.new; omega)).trans (h.na.bel.block b hb)⟩
  exact ⟨h.a.keep hF (fun b _ hs e => h.offa (e ▸ hs)), h.b.keep hF (fun b _ hs e => h.offb (e ▸ hs)), ⟨hbel, h.na.new⟩, ⟨hbel, h.nb.new⟩, h.dis, h.row.set hi v, h.offa, h.offb, h.new⟩
/-- What is set, out of a list of ids. -/
def itemsOf (V : Nat → Int) (ol : List Nat) : List Heap.Item := ol.map (fun j : Nat => ((j : Int), V j))
theorem itemsOf_perm (V : Nat → Int) {ol ol' : List Nat} (h : ol.Perm ol') : (itemsOf V ol).Perm (itemsOf V ol') := h.map _
theorem itemsOf_add (V : Nat → Int) (ol : List Nat) (i : Nat) (h : i ∉ ol) : without (itemsOf V ol) (i : Int) ++ [((i : Int), V i)] = itemsOf V (ol ++ [i]) := by
  have e : without (itemsOf V ol) (i : Int) = itemsOf V ol := without_none (fun x hx ex => by
    obtain ⟨j, hj, rfl⟩ := List.mem_map.1 hx
    have : j = i := by simp only at ex; omega
    subst this
    exact h hj)
  rw [e]
  simp [itemsOf]
theorem itemsOf_length (V : Nat → Int) (ol : List Nat) : (itemsOf V ol).length = ol.length := by simp [itemsOf]
theorem range_of (ol : List Nat) (n : Nat) (hl : ol.length = n) (h : ∀ j, j < n → ol.getD j 0 = j) : ol = List.range n := by
  apply List.ext_getElem
  · rw [hl, List.length_range]
  · intro i h1 h2
    have := h i (by omega)
    rw [List.getD_eq_getElem?_getD, List.getElem?_eq_getElem h1] at this
    rw [List.getElem_range]
    exact this
theorem swap_perm_nat (l : List Nat) (i j : Nat) (hi : i < l.length) (hj : j < l.length) : ((l.set i (l.getD j 0)).set j (l.getD i 0)).Perm l := by
  have e1 : l.getD i 0 = l[i] := by rw [List.getD_eq_getElem?_getD, List.getElem?_eq_getElem hi]; rfl
  have e2 : l.getD j 0 = l[j] := by rw [List.getD_eq_getElem?_getD, List.getElem?_eq_getElem hj]; rfl
  rw [e1, e2]
  exact List.set_set_perm hi hj
end Go.Proofs.Ythjcdjanadeobaa.MH
