/- A store of a whole struct into a variable of its own: the world behind it as one name. -/
import Derived.Test.YthdjodamdakjbaaWWords
import Derived.Test.YthdjodamdakjbaaWLast
import Derived.Laws.Tables
namespace Go.Proofs.Ythdjodamdakjbaa.Fill
open Go.RowKit Go.Proofs.YthdjodamdakjbaaW.PrintWords
theorem keep_setRow {w : World} {g t : Nat} {old : Array Value} (hg : w.heap[g]? = some (.cells old t (0, 0))) (cells : Array Value) : (w.setRow g cells).heap[g]? = some (.cells cells t (0, 0)) ∧ KeepBut w (w.setRow g cells) g none ∧ (∀ B w0, Below B w0 w → B ≤ g → Below B w0 (w.setRow g cells)) := by
  have hsz : (w.setRow g cells).heap.size = w.heap.size := by simp [World.setRow]
  have hoth : ∀ i, i ≠ g → (w.setRow g cells).heap[i]? = w.heap[i]? := fun i hi => by simp [World.setRow, Array.getElem?_modify, Ne.symm hi]
  refine ⟨setRow_heap w g old cells t (0, 0) hg, ⟨by omega, fun i _ hi _ => hoth i hi⟩, fun B w0 h hB => ⟨h.os, h.tape, h.output, by rw [hsz]; exact h.size, fun i hi => (hoth i (by omega)).trans (h.block i hi)⟩⟩
section
variable {P : Program} {ops : Array Oper} {rest : List Oper} {o : Oper} {a : Act} {w : World} {Q : Exit → Act → World → Prop}
theorem store_event (hgd : o.guard = none) (ty : TypeId) (x y : Operand) (ho : o.op = .store ty x y)
    (g : Nat) (cells : Array Value) (hx : a.eval x = .pointer (some ⟨g, 0, none⟩)) (hy : a.eval y = .agg cells)
    (t : TypeId) (old : Array Value) (hg : w.heap[g]? = some (.cells old t (0, 0))) (hi : (P.info? ty).map (·.size) = some cells.size)
    (hold : old.size = cells.size) (h1 : cells.all (·.oneCell') = true)
    (h : ∀ w', w'.heap[g]? = some (.cells cells t (0, 0)) → KeepBut w w' g none → (∀ B w0, Below B w0 w → B ≤ g → Below B w0 w') → wpList P ops Q rest (a.put o.dst undef) w') : wpList P ops Q (o :: rest) a w :=
  wpList_store_row hgd ty x y ho g cells hx hy t old hg hi hold h1 (h _ (keep_setRow hg cells).1 (keep_setRow hg cells).2.1 (keep_setRow hg cells).2.2)
/-- A whole struct, read. -/
theorem row_yields (ty : TypeId) (x : Operand) (ho : o.op = .load ty x) (g : Nat) (hx : a.eval x = .pointer (some ⟨g, 0, none⟩)) (t : TypeId) (cs : Array Value) (fr : Nat × Nat) (d : TypeDesc)
    (hg : w.heap[g]? = some (.cells cs t fr)) (hu : P.underlying ty = some d) (hd : (match d with | .struct _ | .array _ _ => true | _ => false) = true) (hi : (P.info? ty).map (·.size) = some cs.size) :
    (execOp a.eval o).run P w = .ok (.value (.agg cs)) w := by
  unfold execOp
  simp only [ho, hx, Instr.loadAt, Instr.sureAddr, Sem.run_bind, Sem.run_pure, Result.andThen_ok, run_loadVar_row w g t ty cs fr d hg hu hd hi]
/-- The same in a region that draws its order. -/
theorem skip_event {oi : Oper} {K : Act → World → Prop} (hw : Region.wanted oi (yielded ops a.tmps) = true) (hN : oi.dst = none) (ty : TypeId) (x y : Operand) (ho : oi.op = .store ty x y)
    (g : Nat) (cells : Array Value) (hx : a.eval x = .pointer (some ⟨g, 0, none⟩)) (hy : a.eval y = .agg cells)
    (t : TypeId) (old : Array Value) (hg : w.heap[g]? = some (.cells old t (0, 0))) (hi : (P.info? ty).map (·.size) = some cells.size)
    (hold : old.size = cells.size) (h1 : cells.all (·.oneCell') = true)
    (h : ∀ w', w'.heap[g]? = some (.cells cells t (0, 0)) → KeepBut w w' g none → (∀ B w0, Below B w0 w → B ≤ g → Below B w0 w') → K a w') : if Region.wanted oi (yielded ops a.tmps) = true then Oper.wp P oi a w K Q else K (a.put none undef) w := by
  rw [if_pos hw]
  refine wp_store_row ty x y ho g cells hx hy t old hg hi hold h1 ?_
  rw [hN]
  exact h _ (keep_setRow hg cells).1 (keep_setRow hg cells).2.1 (keep_setRow hg cells).2.2
end
end Go.Proofs.Ythdjodamdakjbaa.Fill
