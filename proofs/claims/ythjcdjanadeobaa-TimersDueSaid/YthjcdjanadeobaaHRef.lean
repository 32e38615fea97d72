/- The reference's timers: two slices behind a pointer; place walked. -/
import Derived.Test.YthjcdjanadeobaaHUp
import Derived.Test.YthjcdjanadeobaaHMany
import Derived.Deep.AppendLies
import Derived.Deep.RegionHeld3
namespace Go.Proofs.Ythjcdjanadeobaa.MH
open Go.RowKit Go.Proofs.YthjcdjanadeobaaW.PrintWords Go.Proofs.YthjcdjanadeobaaW.PrintLast Go.Proofs.YthjcdjanadeobaaW.PrintMore Go.Proofs.Ythjcdjanadeobaa.Heap
set_option linter.unusedVariables false
set_option linter.unusedSimpArgs false

def idsOf (m : List Heap.Item) : List Value := m.map (fun x => .int .i64 x.1)
def atsOf (m : List Heap.Item) : List Value := m.map (fun x => .int .u64 x.2)
theorem idsOf_length (m : List Heap.Item) : (idsOf m).length = m.length := by simp [idsOf]
theorem atsOf_length (m : List Heap.Item) : (atsOf m).length = m.length := by simp [atsOf]
theorem idsOf_at (m : List Heap.Item) (i : Nat) (h : i < m.length) : (idsOf m)[i]? = some (.int .i64 (at_ m i).1) := by
  simp [idsOf, List.getElem?_map, at_some m i h]
theorem atsOf_at (m : List Heap.Item) (i : Nat) (h : i < m.length) : (atsOf m)[i]? = some (.int .u64 (at_ m i).2) := by
  simp [atsOf, List.getElem?_map, at_some m i h]
/-- Ids and whens behind a pointer, in the order in which they were set. -/
structure RefO (w : World) (rb : Nat) (iv av : Value) (m : List Heap.Item) : Prop where
  head : w.heap[rb]? = some (.cells #[iv, av] 29 (0, 0))
  own1 : w.ownsRow 0 3 1 iv m.length (idsOf m)
  own2 : w.ownsRow 0 31 1 av m.length (atsOf m)
  small : m.length ≤ 1000000000
  n1 : iv.ownBlock ≠ some rb
  n2 : av.ownBlock ≠ some rb
  n3 : ∀ b, iv.ownBlock = some b → av.ownBlock ≠ some b
theorem own_len {w : World} {e : TypeId} {sv : Value} {n s : Nat} {xs : List Value} (h : w.ownsRow 0 e s sv n xs) : ∃ A c, sv = .slice A n c := by
  rcases h.2 with ⟨rfl, rfl⟩ | ⟨g, cap, cur, rfl, _⟩
  · exact ⟨none, 0, rfl⟩
  · exact ⟨_, _, rfl⟩
theorem own_cell {w : World} {e : TypeId} {sv : Value} {n : Nat} {xs : List Value} (h : w.ownsRow 0 e 1 sv n xs) {g cap : Nat} (hv : sv = .slice (some ⟨g, 0, none⟩) n cap) {i : Nat} {v : Value} (hi : xs[i]? = some v) : w.cell? ⟨g, i, none⟩ = some v := by
  have := h.cells (g := g) (by rw [hv]; rfl) i v hi
  have hadd : (⟨g, 0, none⟩ : Addr).add i = ⟨g, i, none⟩ := by unfold Addr.add; split <;> simp_all
  rwa [hadd] at this
theorem own_frozen {w : World} {e : TypeId} {sv : Value} {n : Nat} {xs : List Value} (h : w.ownsRow 0 e 1 sv n xs) {g cap : Nat} (hv : sv = .slice (some ⟨g, 0, none⟩) n cap) (i : Nat) : w.frozen? ⟨g, i, none⟩ = false := by
  rcases h.2 with ⟨e', _⟩ | ⟨g', cap', cur, e', _, hg, _⟩
  · rw [hv] at e'; cases e'
  · rw [hv] at e'
    injection e' with e1 _ _
    injection e1 with e1
    injection e1 with e1
    subst e1
    exact blk_frozen hg i
theorem RefO.at_ {w : World} {rb : Nat} {iv av : Value} {m : List Heap.Item} (h : RefO w rb iv av m) : w.cell? ⟨rb, 0, none⟩ = some iv ∧ w.cell? ⟨rb, 1, none⟩ = some av ∧ w.frozen? ⟨rb, 0, none⟩ = false ∧ w.frozen? ⟨rb, 1, none⟩ = false :=
  ⟨(blk_cell h.head 0).trans rfl, (blk_cell h.head 1).trans rfl, blk_frozen h.head 0, blk_frozen h.head 1⟩
/-- Where an id stands, or -1. -/
def Place (m : List Heap.Item) (id k : Int) : Prop := (k = -1 ∧ ∀ i, i < m.length → (at_ m i).1 ≠ id) ∨ ∃ i : Nat, i < m.length ∧ k = (i : Int) ∧ (at_ m i).1 = id
set_option maxHeartbeats 8000000 in
set_option maxRecDepth 100000 in
theorem place20 (rb : Nat) (iv av : Value) (m : List Heap.Item) (w : World) (id : Int) (h : RefO w rb iv av m) :
    Calls Try.prog 20 #[.pointer (some ⟨rb, 0, none⟩), .int .i64 id] w fun e w' => ∃ k, e = .returned (.int .i64 k) ∧ Place m id k ∧ w' = w := by
  obtain ⟨h0, _, _, _⟩ := h.at_
  obtain ⟨A, c, hiv⟩ := own_len h.own1
  have hs := h.small
  have hA : ∀ i, i < m.length → ∃ g, A = some ⟨g, 0, none⟩ ∧ w.cell? ⟨g, i, none⟩ = some (.int .i64 (Heap.at_ m i).1) := by
    intro i hi
    obtain ⟨g, cap, hg, _, _⟩ := h.own1.form (by omega)
    refine ⟨g, ?_, own_cell h.own1 hg (idsOf_at m i hi)⟩
    rw [hiv] at hg
    injection hg
  have HA := Aside0.mk hA
  subst hiv
  clear h hA
  go_enter Try.func20, Try.ntmps20
  go_wp2
  go_loopg [5] m.length (fun gg s5 wr => ∃ i : Nat, s5 = .int .i64 i ∧ i ≤ m.length ∧ i + gg = m.length ∧ wr = w ∧ Aside0 (∀ j, j < i → (Heap.at_ m j).1 ≠ id))
  case atStart => exact ⟨0, rfl, Nat.zero_le _, by omega, rfl, ⟨fun j hj => by omega⟩⟩
  case round =>
    obtain ⟨i, rfl, hi, hgg, rfl, HN⟩ := hrel
    by_cases c0 : i < m.length
    · obtain ⟨g, rfl, hc⟩ := HA.out i c0
      have q1 : (i : Int) < (m.length : Int) := by omega
      by_cases c1 : (Heap.at_ m i).1 = id
      · rw [c1] at hc
        have HC := Aside0.mk c1
        clear c1
        go_wp2
        go_ret
        exact ⟨_, rfl, .inr ⟨i, c0, rfl, HC.out⟩, rfl⟩
      · have c2 : ((Heap.at_ m i).1 == id) = false := beq_eq_false_iff_ne.2 c1
        have HN2 : Aside0 (∀ j, j < i + 1 → (Heap.at_ m j).1 ≠ id) := ⟨fun j hj => by
          rcases Nat.lt_or_ge j i with h | h
          · exact HN.out j h
          · obtain rfl : j = i := by omega
            exact c1⟩
        generalize (Heap.at_ m i).1 = x at hc c1 c2
        go_wp2
        go_roundg (m.length - (i + 1))
        case measure => omega
        case rel => exact ⟨i + 1, rfl, by omega, by omega, rfl, HN2⟩
    · obtain rfl : i = m.length := by omega
      go_wp2
      go_ret
      exact ⟨_, rfl, .inl ⟨rfl, HN.out⟩, rfl⟩
end Go.Proofs.Ythjcdjanadeobaa.MH
