/- pile.Pop walked: the last item goes. -/
import Derived.Test.YthjcdjanadeobaaHUp
import Derived.BigRegion
namespace Go.Proofs.Ythjcdjanadeobaa.MH
open Go.RowKit Go.Proofs.YthjcdjanadeobaaW.PrintWords Go.Proofs.YthjcdjanadeobaaW.PrintLast Go.Proofs.YthjcdjanadeobaaW.PrintMore Go.Proofs.Ythjcdjanadeobaa.Heap
set_option linter.unusedVariables false
set_option linter.unusedSimpArgs false

theorem Pl.drop {f : Int → Option Int} {l : List Heap.Item} (h : Pl f l) (h0 : 0 < l.length) : Pl (drp f (at_ l (l.length - 1)).1) l.dropLast := by
  intro id v
  have hl : l.dropLast.length = l.length - 1 := List.length_dropLast
  unfold drp
  by_cases c : id = (at_ l (l.length - 1)).1
  · rw [if_pos c]
    constructor
    · intro e; cases e
    · rintro ⟨i, hi, rfl, hid⟩
      rw [at_dropLast l i (by omega), c] at hid
      have := h.one (by omega) (by omega) hid
      omega
  · rw [if_neg c, h id v]
    constructor
    · rintro ⟨i, hi, rfl, hid⟩
      have : i ≠ l.length - 1 := by rintro rfl; exact c hid.symm
      exact ⟨i, by omega, rfl, by rw [at_dropLast l i (by omega)]; exact hid⟩
    · rintro ⟨i, hi, rfl, hid⟩
      rw [at_dropLast l i (by omega)] at hid
      exact ⟨i, by omega, rfl, hid⟩
theorem row_drop {w : World} {sb cap : Nat} {l : List Heap.Item} (h : RowW w sb cap l) : RowW w sb cap l.dropLast := by
  obtain ⟨cur, a, b, c, d, e⟩ := h
  have hl : l.dropLast.length = l.length - 1 := List.length_dropLast
  refine ⟨cur, a, by omega, ⟨by omega, c.2⟩, d, fun i hi => ?_⟩
  rw [at_dropLast l i (by omega)]
  exact e i (by omega)
theorem pop_mid {pb mb sb cap n p : Nat} {x : Heap.Item} {l : List Heap.Item} {w wc : World} (h : Pile w pb mb sb cap l) (hn : l.length = n + 1) (hx : at_ l n = x) (hb : Below w.heap.size w wc) (hp : wc.heap[p]? = some (.cells #[.int .i64 x.1, .int .u64 x.2] 62 (0, 0))) (np : pb ≠ p) (mp : w.heap.size ≤ p) :
    HeadW (wc.setCell ⟨pb, 0, none⟩ (.slice (some ⟨sb, 0, none⟩) n cap)).drew pb mb (.slice (some ⟨sb, 0, none⟩) n cap) ∧
    (wc.setCell ⟨pb, 0, none⟩ (.slice (some ⟨sb, 0, none⟩) n cap)).drew.heap[p]? = some (.cells #[.int .i64 x.1, .int .u64 x.2] 62 (0, 0)) ∧
    ∃ W3, ((Builtin.delete_ #[48, 3] 0 #[.map (some mb), .int .i64 x.1]).run Try.prog (wc.setCell ⟨pb, 0, none⟩ (.slice (some ⟨sb, 0, none⟩) n cap)).drew.drew = .ok (.tuple #[]) W3) ∧
      W3.heap[p]? = some (.cells #[.int .i64 x.1, .int .u64 x.2] 62 (0, 0)) ∧ Pile W3 pb mb sb cap l.dropLast ∧ Foot (fun b => b = pb ∨ b = mb) w W3 := by
  obtain ⟨f, hm, hpl⟩ := h.map
  have hw1 := h.head
  obtain ⟨W, hW⟩ : ∃ W, W = (wc.setCell ⟨pb, 0, none⟩ (.slice (some ⟨sb, 0, none⟩) n cap)).drew := ⟨_, rfl⟩
  have hF0 : Foot (fun b => b = pb) w W := by
    rw [hW]
    refine ⟨hb.os, hb.tape, hb.output, ?_, fun b hlt hne => ?_⟩
    · have := hb.size
      simpa [World.setCell, World.drew] using this
    · have h1 : (wc.setCell ⟨pb, 0, none⟩ (.slice (some ⟨sb, 0, none⟩) n cap)).drew.heap[b]? = wc.heap[b]? := Below.heap_setCell _ _ _ _ hne
      rw [h1]
      exact hb.block b hlt
  have hH : HeadW W pb mb (.slice (some ⟨sb, 0, none⟩) n cap) := by
    rw [hW]
    have hq : wc.heap[pb]? = _ := (hb.block pb (blk_lt hw1)).trans hw1
    exact blk_drew (blk_set hq _ _)
  have hP : W.heap[p]? = some (.cells #[.int .i64 x.1, .int .u64 x.2] 62 (0, 0)) := by
    rw [hW]
    have h1 : (wc.setCell ⟨pb, 0, none⟩ (.slice (some ⟨sb, 0, none⟩) n cap)).drew.heap[p]? = wc.heap[p]? := Below.heap_setCell _ _ _ _ (fun e => np e.symm)
    exact h1.trans hp
  have hM : MapIs W mb f := by
    obtain ⟨es, cl, a, b⟩ := hm
    exact ⟨es, cl, hF0.blk a (fun e => h.n3 e.symm), b⟩
  have hR : RowW W sb cap l := by
    obtain ⟨cur, a, b⟩ := h.row
    exact ⟨cur, hF0.blk a (fun e => h.n1 e.symm), b⟩
  rw [← hW]
  have hwf : (Lit.int .i64 x.1).wf = true := by
    obtain ⟨es, cl, a, b⟩ := hm
    have := (b.all _ _ (hpl.here n (by omega))).1
    rwa [hx] at this
  have hM' : MapIs W.drew mb f := hM
  obtain ⟨W3, hE, hM3, hg⟩ := hM'.del hwf 0
  have hne : p ≠ mb := by have := hm.lt; omega
  refine ⟨hH, hP, W3, hE, (hg.block p (blk_lt hP) (fun e => hne (by injection e))).trans hP, ⟨?_, ?_, ⟨_, hM3, ?_⟩, h.n1, h.n2, h.n3⟩, ?_⟩
  · have hl : l.dropLast.length = n := by rw [List.length_dropLast, hn]; rfl
    rw [hl]
    exact (hg.block pb (blk_lt hH) (fun e => h.n3 (by injection e))).trans hH
  · obtain ⟨cur, a, b⟩ := row_drop hR
    exact ⟨cur, (hg.block sb (blk_lt a) (fun e => h.n2 (by injection e with e; exact e.symm))).trans a, b⟩
  · have := hpl.drop (by omega)
    rw [hn, Nat.add_sub_cancel, hx] at this
    exact this
  · exact (show Foot (fun b => b = pb ∨ b = mb) w W.drew from hF0.mono (fun b hb => .inl hb)).trans (Foot.grown (S := fun b => b = pb ∨ b = mb) hg (.inr rfl)) (fun _ _ h => h)
set_option maxHeartbeats 8000000 in
set_option maxRecDepth 100000 in
theorem pop46 (pb mb sb cap : Nat) (l : List Heap.Item) (w : World) (h : Pile w pb mb sb cap l) (hl : 0 < l.length) :
    Calls Try.prog 46 #[.pointer (some ⟨pb, 0, none⟩)] w fun e w' => e = .returned (.iface 62 (.agg #[.int .i64 (at_ l (l.length - 1)).1, .int .u64 (at_ l (l.length - 1)).2])) ∧ Pile w' pb mb sb cap l.dropLast ∧ Foot (fun b => b = pb ∨ b = mb) w w' := by
  obtain ⟨h0, h1, h2, h3⟩ := h.head.at_
  obtain ⟨a0, a1, _, _⟩ := h.row.at_ (l.length - 1) (by omega)
  have hs := pile_size h
  obtain ⟨n, hn⟩ : ∃ n, l.length = n + 1 := ⟨l.length - 1, by omega⟩
  rw [hn, Nat.add_sub_cancel] at a0 a1
  rw [hn] at h0
  have hcap : n + 1 ≤ cap := by obtain ⟨cur, _, hc, _⟩ := h.row; omega
  have s1 : (n : Int) ≤ (cap : Int) := by omega
  have s2 : n ≤ cap := by omega
  have r1 : ((n + 1 : Nat) : Int) - 1 = (n : Int) := by omega
  have r2 : wrap64 (((n + 1 : Nat) : Int) - 1) = (n : Int) := by rw [w64_in _ ⟨by omega, by omega⟩]; exact r1
  have r3 : (n : Int) < ((n + 1 : Nat) : Int) := by omega
  have r4 : IntKind.i64.wrap (n : Int) = (n : Int) := by rw [IntKind.wrap_i64]; omega
  have r5 : (n : Int) < (n : Int) + 1 := by omega
  have r6 : (0 : Int) ≤ (n : Int) := by omega
  have r7 : IntKind.i64.wrap ((n : Int) + 1 - 1) = (n : Int) := by rw [IntKind.wrap_i64]; omega
  rw [hn, Nat.add_sub_cancel]
  have old : ∀ (b i : Nat) (v : Value), w.cell? ⟨b, i, none⟩ = some v → (∀ o, (w.alloc o).cell? ⟨b, i, none⟩ = some v) ∧ b ≠ w.heap.size ∧ w.heap.size ≠ b := by
    intro b i v h
    have hb := World.block_lt_of_cell? w _ h
    simp only at hb
    exact ⟨fun o => by rw [← h]; exact World.cell?_of_block (w := w) (Below.heap_alloc w o b hb), by omega, by omega⟩
  obtain ⟨p1, p2, p3⟩ := old _ _ _ h0
  obtain ⟨e1, e2, e3⟩ := old _ _ _ a0
  obtain ⟨f1, _, _⟩ := old _ _ _ a1
  clear old
  obtain ⟨x, hx⟩ : ∃ x, at_ l n = x := ⟨_, rfl⟩
  rw [hx] at a0 a1 e1 f1 ⊢
  obtain ⟨xi, xa⟩ := x
  have HZ := Aside0.mk (And.intro h (And.intro hn hx))
  simp only at a0 a1 e1 f1
  clear h hl hs hn hx
  go_enter Try.func46, Try.ntmps46
  go_wp2_with fail
  go_cut [3] (fun v3 wc => ∃ p : Nat, v3 = .pointer (some ⟨p, 0, none⟩) ∧ Aside0 (wc.heap[p]? = some (.cells #[.int .i64 xi, .int .u64 xa] 62 (0, 0))) ∧ Aside0 (w.heap.size ≤ p) ∧ Aside0 (Below w.heap.size w wc))
  case first =>
    go_region
    all_goals go_wp2
    all_goals go_meet
    all_goals (case rel => exact ⟨_, rfl, ⟨blk_drew (blk_new w _)⟩, ⟨Nat.le_refl _⟩, ⟨below_drew1 (below_alloc (Below.refl _ w) _)⟩⟩)
  case rest =>
    obtain ⟨p, rfl, P1, P2, HB⟩ := hcut
    have lt0 : pb < w.heap.size := World.block_lt_of_cell? w _ h0
    have c0 : wc.cell? ⟨pb, 0, none⟩ = some (.slice (some ⟨sb, 0, none⟩) (n + 1) cap) := (HB.out.cell lt0).trans h0
    have c1 : wc.cell? ⟨pb, 1, none⟩ = some (.map (some mb)) := (HB.out.cell lt0).trans h1
    have f0 : wc.frozen? ⟨pb, 0, none⟩ = false := (HB.out.frozen lt0).trans h2
    have np : pb ≠ p := by have := P2.out; omega
    obtain ⟨k1, k2, W3, E1, k3, k4, k5⟩ := pop_mid HZ.out.1 HZ.out.2.1 HZ.out.2.2 HB.out P1.out np P2.out
    obtain ⟨W2, hW2⟩ : ∃ W2, W2 = (wc.setCell ⟨pb, 0, none⟩ (.slice (some ⟨sb, 0, none⟩) n cap)).drew := ⟨_, rfl⟩
    rw [← hW2] at k1 k2 E1
    have HK := Aside0.mk (And.intro k1 (And.intro k2 (And.intro E1 (And.intro k3 (And.intro k4 k5)))))
    have np' : p ≠ pb := fun e => np e.symm
    clear h0 h1 h2 h3 a0 a1 p1 p2 p3 e1 e2 e3 f1 k1 k2 E1 k3 k4 k5
    go_wp2_with fail
    go_still_tail 14, (by kernel_rfl)
    change wpList _ _ _ _ _ wc.drew
    go_wp2_with fail
    rw [← hW2]
    clear hW2 c0 c1 f0
    obtain ⟨k1, k2, E1, k3, k4⟩ := HK.out
    obtain ⟨c0, c1, _, _⟩ := k1.at_
    have d0 : W2.cell? ⟨p, 0, none⟩ = some (.int .i64 xi) := (blk_cell k2 0).trans rfl
    have d1 : W3.cell? ⟨p, 0, none⟩ = some (.int .i64 xi) := (blk_cell k3 0).trans rfl
    have d2 : W3.cell? ⟨p, 1, none⟩ = some (.int .u64 xa) := (blk_cell k3 1).trans rfl
    have HK2 := Aside0.mk k4
    clear k1 k2 k3 k4 HK
    go_wp2_with fail
    go_still_tail 6, (by kernel_rfl)
    change wpList _ _ _ _ _ W2.drew
    go_wp2_with fail
    go_ret
    exact ⟨rfl, HK2.out⟩
end Go.Proofs.Ythjcdjanadeobaa.MH
