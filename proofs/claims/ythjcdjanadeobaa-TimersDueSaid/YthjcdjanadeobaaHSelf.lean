/- pile.Swap of one item with itself, walked: nothing turns but the map's entry, which says what it said. -/
import Derived.Test.YthjcdjanadeobaaHUp
import Derived.BigRegion
namespace Go.Proofs.Ythjcdjanadeobaa.MH
open Go.RowKit Go.Proofs.YthjcdjanadeobaaW.PrintWords Go.Proofs.YthjcdjanadeobaaW.PrintLast Go.Proofs.YthjcdjanadeobaaW.PrintMore Go.Proofs.Ythjcdjanadeobaa.Heap
set_option linter.unusedVariables false
set_option linter.unusedSimpArgs false

theorem upd_self {f : Int → Option Int} {k v : Int} (h : f k = some v) : upd (upd f k v) k v = f := by
  funext x
  unfold upd
  by_cases c : x = k
  · rw [if_pos c, c, h]
  · rw [if_neg c, if_neg c]
set_option maxHeartbeats 8000000 in
set_option maxRecDepth 100000 in
theorem swap48_self (pb mb sb cap i : Nat) (l : List Heap.Item) (f : Int → Option Int) (w : World) (h : HeadW w pb mb (.slice (some ⟨sb, 0, none⟩) l.length cap)) (hr : RowW w sb cap l) (hm : MapIs w mb f) (hp : Pl f l)
    (hi : i < l.length) (n1 : pb ≠ sb) (n2 : mb ≠ sb) (n3 : pb ≠ mb) :
    Calls Try.prog 48 #[.pointer (some ⟨pb, 0, none⟩), .int .i64 i, .int .i64 i] w fun e w' => e = .returned (.tuple #[]) ∧ HeadW w' pb mb (.slice (some ⟨sb, 0, none⟩) l.length cap) ∧ RowW w' sb cap (l) ∧ (∃ f', MapIs w' mb f' ∧ Pl f' (l)) ∧ Foot (fun b => b = sb ∨ b = mb) w w' := by
  obtain ⟨h0, h1, _, _⟩ := h.at_
  obtain ⟨a0, a1, fa0, fa1⟩ := hr.at_ i hi
  have hfi := hp.here i hi
  have hsw : Heap.swap l i i = l := by
    unfold Heap.swap
    rw [List.set_set, at_get l i hi, List.set_getElem_self]
  obtain ⟨hrow, hfoot⟩ := row_swap hr hi hi
  rw [hsw] at hrow
  have HR := Aside0.mk hrow
  -- the world behind the exchange, drawn
  obtain ⟨W0, hW0⟩ : ∃ W0, W0 = ((((w.setCell ⟨sb, i * 2, none⟩ (.int .i64 (at_ l i).1)).setCell ⟨sb, i * 2 + 1, none⟩ (.int .u64 (at_ l i).2)).setCell ⟨sb, i * 2, none⟩ (.int .i64 (at_ l i).1)).setCell ⟨sb, i * 2 + 1, none⟩ (.int .u64 (at_ l i).2)).drew := ⟨_, rfl⟩
  have hF0 : Foot (fun b => b = sb) w W0 := by rw [hW0]; exact hfoot
  have hR0 : RowW W0 sb cap (l) := by rw [hW0]; exact hrow
  have hH0 : HeadW W0 pb mb (.slice (some ⟨sb, 0, none⟩) l.length cap) := hF0.blk h n1
  have hM0 : MapIs W0.drew mb f := by obtain ⟨es, cl, x, y⟩ := hm; exact ⟨es, cl, hF0.blk x n2, y⟩
  obtain ⟨s1, E1, hst1⟩ := hM0.entry hfi
  obtain ⟨W2, E2, hM2, hg2⟩ := hst1 i
  have hf2 : upd f (at_ l i).1 i (at_ l i).1 = some (i : Int) := by unfold upd; rw [if_pos rfl]
  obtain ⟨s2, E3, hst2⟩ := hM2.entry hf2
  obtain ⟨W3, E4, hM3, hg3⟩ := hst2 i
  have hF : Foot (fun b => b = sb ∨ b = mb) w W3 := by
    have q1 : Foot (fun b => b = sb ∨ b = mb) w W0.drew := hF0.mono (fun b hb => .inl hb)
    have q2 := q1.trans (Foot.grown (S := fun b => b = sb ∨ b = mb) hg2 (.inr rfl)) (fun _ _ h => h)
    exact q2.trans (Foot.grown (S := fun b => b = sb ∨ b = mb) hg3 (.inr rfl)) (fun _ _ h => h)
  have hg23 : ∀ b, b < W0.heap.size → b ≠ mb → W3.heap[b]? = W0.heap[b]? := fun b hb hn =>
    (hg3.block b (Nat.lt_of_lt_of_le hb hg2.size) (fun e => hn (by injection e))).trans (hg2.block b hb (fun e => hn (by injection e)))
  have HZ : Aside0 (HeadW W3 pb mb (.slice (some ⟨sb, 0, none⟩) l.length cap) ∧ RowW W3 sb cap (l) ∧ (∃ f', MapIs W3 mb f' ∧ Pl f' (l)) ∧ Foot (fun b => b = sb ∨ b = mb) w W3) := by
    refine ⟨?_, ?_, ⟨_, hM3, by rw [upd_self hfi]; exact hp⟩, hF⟩
    · have := hg23 pb (blk_lt hH0) n3
      exact this.trans hH0
    · obtain ⟨cur, x, y⟩ := hR0
      exact ⟨cur, (hg23 sb (blk_lt x) (fun e => n2 e.symm)).trans x, y⟩
  have n1' : sb ≠ pb := fun e => n1 e.symm
  have q1 : (i : Int) < (l.length : Int) := by omega
  obtain ⟨c0, c1, _, _⟩ := hH0.at_
  have e1 := (hR0.at_ i hi).1
  generalize at_ l i = x at *
  obtain ⟨xi, xa⟩ := x
  simp only at a0 a1 E1 E2 E3 E4 hW0 e1
  have HC := Aside0.mk (And.intro c0 (And.intro c1 e1))
  have HE := Aside0.mk (And.intro E1 (And.intro E2 (And.intro E3 E4)))
  clear h hr hm hp hi hfi hsw hrow hfoot hF0 hR0 hH0 hM0 hst1 hM2 hg2 hf2 hst2 hM3 hg3 hF hg23 c0 c1 e1 E1 E2 E3 E4 HR
  go_enter Try.func48, Try.ntmps48
  go_wp2_with fail
  go_region
  rw [← hW0]
  obtain ⟨c0, c1, e1⟩ := HC.out
  obtain ⟨E1, E2, E3, E4⟩ := HE.out
  clear hW0 h0 h1 a0 a1 fa0 fa1 HC HE
  go_wp2_with fail
  go_region
  go_wp2
  go_end0
  exact ⟨rfl, HZ.out⟩
end Go.Proofs.Ythjcdjanadeobaa.MH
