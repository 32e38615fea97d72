/- A load of a whole variable of many cells, told at once: plain, over any program. -/
import Derived.Laws.Rows
import Derived.WalkKit
namespace Go.Proofs.Ythdjodamdakjbaa.Loads
/-- The cells of block g, from j on. -/
def HoldsAt (w : World) (g : Nat) : Nat → List Value → Prop
  | _, [] => True
  | j, [v] => w.cell? ⟨g, j, none⟩ = some v
  | j, v :: u :: vs => w.cell? ⟨g, j, none⟩ = some v ∧ HoldsAt w g (j + 1) (u :: vs)
theorem HoldsAt.get {w : World} {g : Nat} : ∀ {cs : List Value} {j : Nat}, HoldsAt w g j cs → ∀ i v, cs[i]? = some v → w.cell? ⟨g, j + i, none⟩ = some v
  | [], _, _, i, v, h => by simp at h
  | [u], j, hS, i, v, h => by
    cases i with
    | zero => simp at h; subst h; exact hS
    | succ i => simp at h
  | u :: u' :: us, j, hS, i, v, h => by
    cases i with
    | zero => simp at h; subst h; exact hS.1
    | succ i =>
      have h' : (u' :: us)[i]? = some v := by simpa using h
      have := HoldsAt.get hS.2 i v h'
      rwa [show j + 1 + i = j + (i + 1) by omega] at this
theorem run_execOp_load {P : Program} {a : Act} {o : Oper} {w : World} {g ty : Nat} {d : TypeDesc} (cs : List Value) (x : Operand) (ho : o.op = .load ty x) (hx : a.eval x = .pointer (some ⟨g, 0, none⟩))
    (hc : HoldsAt w g 0 cs) (hu : P.underlying ty = some d) (hd : (match d with | .struct _ | .array _ _ => true | _ => false) = true) (hi : (P.info? ty).map (·.size) = some cs.length) :
    (execOp a.eval o).run P w = .ok (.value (.agg cs.toArray)) w := by
  have hl : (loadCells ⟨g, 0, none⟩ cs.length).run P w = .ok cs.toArray w :=
    run_loadCells_list (P := P) w ⟨g, 0, none⟩ cs (fun j v hv => by
      have hadd : (⟨g, 0, none⟩ : Addr).add j = ⟨g, j, none⟩ := by unfold Addr.add; split <;> simp_all
      rw [hadd]
      have := hc.get j v hv
      rwa [Nat.zero_add] at this)
  have hload : (loadVar ty ⟨g, 0, none⟩).run P w = .ok (.agg cs.toArray) w := by
    cases hq : P.info? ty with
    | none => simp [hq] at hi
    | some i =>
      have hs : i.size = cs.length := by simpa [hq] using hi
      have hagg : (isAgg ty).run P w = .ok true w := by
        unfold isAgg
        rw [Sem.run_bind, run_underlying hu w]
        cases d <;> simp_all
      simp [loadVar, Sem.run_bind, hagg, sizeOf, typeInfo, hq, hs, hl]
  unfold execOp
  simp only [ho, hx, Instr.loadAt, Instr.sureAddr, Sem.run_bind, Sem.run_pure, Result.andThen_ok, hload]
end Go.Proofs.Ythdjodamdakjbaa.Loads
