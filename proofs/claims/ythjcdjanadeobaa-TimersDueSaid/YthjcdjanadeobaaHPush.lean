/- pile.Push walked: the item goes to the end, the map tells its place; whether the row is nil, has room, or moves. -/
import Derived.Test.YthjcdjanadeobaaHPop
import Derived.Test.YthjcdjanadeobaaHRef
import Derived.Deep.AppendLies
import Derived.Deep.RegionLaw
namespace Go.Proofs.Ythjcdjanadeobaa.MH
open Go.RowKit Go.Proofs.YthjcdjanadeobaaW.PrintWords Go.Proofs.YthjcdjanadeobaaW.PrintLast Go.Proofs.YthjcdjanadeobaaW.PrintMore Go.Proofs.Ythjcdjanadeobaa.Heap
set_option linter.unusedVariables false
set_option linter.unusedSimpArgs false

def cellsOf : List Heap.Item → List Value
  | [] => []
  | x :: l => .int .i64 x.1 :: .int .u64 x.2 :: cellsOf l
theorem cellsOf_length : ∀ l : List Heap.Item, (cellsOf l).length = l.length * 2
  | [] => rfl
  | x :: l => by simp only [cellsOf, List.length_cons, cellsOf_length l]; omega
theorem cellsOf_append : ∀ l m : List Heap.Item, cellsOf (l ++ m) = cellsOf l ++ cellsOf m
  | [], m => rfl
  | x :: l, m => by simp only [List.cons_append, cellsOf, cellsOf_append l m]
theorem cellsOf_at : ∀ (l : List Heap.Item) (i : Nat), i < l.length → (cellsOf l)[i * 2]? = some (.int .i64 (at_ l i).1) ∧ (cellsOf l)[i * 2 + 1]? = some (.int .u64 (at_ l i).2)
  | [], i, h => by simp at h
  | x :: l, 0, h => by simp [cellsOf, at_]
  | x :: l, i + 1, h => by
    obtain ⟨a, b⟩ := cellsOf_at l i (by simpa using h)
    have e : at_ (x :: l) (i + 1) = at_ l i := by simp [at_]
    rw [e]
    refine ⟨?_, ?_⟩
    · have : (i + 1) * 2 = i * 2 + 1 + 1 := by omega
      rw [this, cellsOf, List.getElem?_cons_succ, List.getElem?_cons_succ]; exact a
    · have : (i + 1) * 2 + 1 = i * 2 + 1 + 1 + 1 := by omega
      rw [this, cellsOf, List.getElem?_cons_succ, List.getElem?_cons_succ]; exact b
theorem row_own {w : World} {sb cap : Nat} {l : List Heap.Item} (h : RowW w sb cap l) : w.ownsRow 0 62 2 (.slice (some ⟨sb, 0, none⟩) l.length cap) l.length (cellsOf l) := by
  obtain ⟨cur, a, b, c, d, e⟩ := h
  refine ⟨cellsOf_length l, .inr ⟨sb, cap, cur, rfl, Nat.zero_le _, a, b, c.2, d, ?_⟩⟩
  apply List.ext_getElem?
  intro i
  by_cases hi : i < l.length * 2
  · rw [List.getElem?_take, if_pos hi, Array.getElem?_toList]
    obtain ⟨q, r, hq, hr⟩ : ∃ q r, i = q * 2 + r ∧ r < 2 := ⟨i / 2, i % 2, by omega, by omega⟩
    obtain ⟨e1, e2⟩ := e q (by omega)
    obtain ⟨f1, f2⟩ := cellsOf_at l q (by omega)
    have : r = 0 ∨ r = 1 := by omega
    rcases this with rfl | rfl
    · rw [hq, Nat.add_zero, e1, f1]
    · rw [hq, e2, f2]
  · rw [List.getElem?_take, if_neg hi, List.getElem?_eq_none (by rw [cellsOf_length]; omega)]
theorem own_row {w : World} {g cap n : Nat} {l : List Heap.Item} (h : w.ownsRow 0 62 2 (.slice (some ⟨g, 0, none⟩) n cap) n (cellsOf l)) (hn : l.length = n) (hs : n ≤ 1000000000) : RowW w g cap l := by
  subst hn
  obtain ⟨h1, h2⟩ := h
  rcases h2 with ⟨hv, _⟩ | ⟨g', cap', cur, hv, hb, hg, hc, hm, hsz, ht⟩
  · cases hv
  · injection hv with hv1 hv2 hv3
    injection hv1 with hv1
    injection hv1 with hv1
    subst hv1 hv3
    refine ⟨cur, hg, hc, ⟨hs, hm⟩, hsz, fun i hi => ?_⟩
    obtain ⟨f1, f2⟩ := cellsOf_at l i hi
    rw [← ht, List.getElem?_take, if_pos (by omega), Array.getElem?_toList] at f1
    rw [← ht, List.getElem?_take, if_pos (by omega), Array.getElem?_toList] at f2
    exact ⟨f1, f2⟩
theorem Pl.push {f : Int → Option Int} {l : List Heap.Item} (h : Pl f l) {id a : Int} (hf : f id = none) : Pl (upd f id l.length) (l ++ [(id, a)]) := by
  intro x v
  unfold upd
  have hlen : (l ++ [(id, a)]).length = l.length + 1 := by simp
  by_cases c : x = id
  · rw [if_pos c]
    constructor
    · intro e
      injection e with e
      exact ⟨l.length, by omega, e.symm, by rw [at_last]; exact c.symm⟩
    · rintro ⟨i, hi, rfl, hid⟩
      rcases Nat.lt_or_ge i l.length with hlt | hge
      · rw [at_append _ _ _ hlt] at hid
        have := h.here i hlt
        rw [hid, c, hf] at this
        cases this
      · obtain rfl : i = l.length := by omega
        rfl
  · rw [if_neg c, h x v]
    constructor
    · rintro ⟨i, hi, rfl, hid⟩
      exact ⟨i, by omega, rfl, by rw [at_append _ _ _ hi]; exact hid⟩
    · rintro ⟨i, hi, rfl, hid⟩
      rcases Nat.lt_or_ge i l.length with hlt | hge
      · rw [at_append _ _ _ hlt] at hid
        exact ⟨i, hlt, rfl, hid⟩
      · obtain rfl : i = l.length := by omega
        rw [at_last] at hid
        exact absurd hid.symm c
/-- A pile, its row nil or a row. -/
structure PileO (w : World) (pb mb : Nat) (sv : Value) (l : List Heap.Item) : Prop where
  head : HeadW w pb mb sv
  own : w.ownsRow 0 62 2 sv l.length (cellsOf l)
  small : l.length ≤ 1000000000
  map : ∃ f, MapIs w mb f ∧ Pl f l
  n1 : sv.ownBlock ≠ some pb
  n2 : sv.ownBlock ≠ some mb
  n3 : pb ≠ mb
theorem Pile.o {w : World} {pb mb sb cap : Nat} {l : List Heap.Item} (h : Pile w pb mb sb cap l) : PileO w pb mb (.slice (some ⟨sb, 0, none⟩) l.length cap) l :=
  ⟨h.head, row_own h.row, h.row.size, h.map, fun e => h.n1 (by injection e with e; exact e.symm), fun e => h.n2 (by injection e with e; exact e.symm), h.n3⟩
theorem PileO.pile {w : World} {pb mb : Nat} {sv : Value} {l : List Heap.Item} (h : PileO w pb mb sv l) (h0 : 0 < l.length) : ∃ sb cap, sv = .slice (some ⟨sb, 0, none⟩) l.length cap ∧ Pile w pb mb sb cap l := by
  obtain ⟨sb, cap, rfl, _, _⟩ := h.own.form h0
  exact ⟨sb, cap, rfl, ⟨h.head, own_row h.own rfl h.small, h.map, fun e => h.n1 (by rw [e]; rfl), fun e => h.n2 (by rw [e]; rfl), h.n3⟩⟩
/-- Behind the map's entry: the pile but for the row's length. -/
theorem push_mid {pb mb p : Nat} {sv : Value} {l : List Heap.Item} {w W1 : World} {id a : Int} (h : PileO w pb mb sv l) (hwf : (Lit.int .i64 id).wf = true) (hno : ∀ i, i < l.length → (at_ l i).1 ≠ id) (hp : p = w.heap.size) (hW : W1 = w.alloc (.cells #[.int .i64 id, .int .u64 a] 62)) :
    HeadW W1 pb mb sv ∧ W1.heap[p]? = some (.cells #[.int .i64 id, .int .u64 a] 62 (0, 0)) ∧ ∃ W2, (Instr.mapUpdate 48 (.map (some mb)) (.int .i64 id) (.int .i64 l.length)).run Try.prog W1.drew = .ok () W2 ∧
      HeadW W2 pb mb sv ∧ W2.heap[p]? = some (.cells #[.int .i64 id, .int .u64 a] 62 (0, 0)) ∧ W2.ownsRow 0 62 2 sv l.length (cellsOf l) ∧ p < W2.heap.size ∧ (∃ f, MapIs W2 mb f ∧ Pl f (l ++ [(id, a)])) ∧ Foot (fun b => b = mb) w W2 := by
  obtain ⟨f, hm, hpl⟩ := h.map
  have hF1 : Foot (fun _ => False) w W1 := by
    rw [hW]
    exact Foot.below (below_alloc (Below.refl _ w) _)
  have hP1 : W1.heap[p]? = some (.cells #[.int .i64 id, .int .u64 a] 62 (0, 0)) := by rw [hW, hp]; exact blk_new w _
  have hH1 : HeadW W1 pb mb sv := hF1.blk h.head (fun h => h)
  have hM1 : MapIs W1.drew mb f := by
    obtain ⟨es, cl, x, y⟩ := hm
    exact ⟨es, cl, hF1.blk x (fun h => h), y⟩
  have hO1 : W1.ownsRow 0 62 2 sv l.length (cellsOf l) := by
    obtain ⟨q1, q2⟩ := h.own
    refine ⟨q1, ?_⟩
    rcases q2 with q2 | ⟨g, cap, cur, e1, e2, e3, e4⟩
    · exact .inl q2
    · exact .inr ⟨g, cap, cur, e1, e2, hF1.blk e3 (fun h => h), e4⟩
  have hfn : f id = none := by
    cases hq : f id with
    | none => rfl
    | some v =>
      obtain ⟨i, hi, _, e⟩ := (hpl id v).1 hq
      exact absurd e (hno i hi)
  obtain ⟨W2, hE, hM2, hg⟩ := hM1.put hwf (v := (l.length : Int))
  have hlt := hm.lt
  have hpm : p ≠ mb := by omega
  refine ⟨hH1, hP1, W2, hE, (hg.block pb (blk_lt hH1) (fun e => h.n3 (by injection e))).trans hH1, (hg.block p (blk_lt hP1) (fun e => hpm (by injection e))).trans hP1, ?_, Nat.lt_of_lt_of_le (blk_lt hP1) hg.size, ⟨_, hM2, hpl.push hfn⟩, ?_⟩
  · have hO1' : W1.drew.ownsRow 0 62 2 sv l.length (cellsOf l) := hO1
    refine hO1'.kept hg ?_
    rcases hq : sv.ownBlock with _ | b
    · exact .inl rfl
    · right; rw [← hq]; exact h.n2
  · exact (show Foot (fun b => b = mb) w W1.drew from hF1.mono (fun _ h => h.elim)).trans (Foot.grown (S := fun b => b = mb) hg rfl) (fun _ _ h => h)
theorem push_end {pb mb p g cap : Nat} {sv : Value} {l : List Heap.Item} {w W2 w1 : World} {id a : Int} (h : PileO w pb mb sv l) (hs : l.length < 1000000000) (hp : p = w.heap.size) (hH : HeadW W2 pb mb sv) (hlt : p < W2.heap.size) (hM : ∃ f, MapIs W2 mb f ∧ Pl f (l ++ [(id, a)])) (hF : Foot (fun b => b = mb) w W2)
    (hown : w1.ownsRow 0 62 2 (.slice (some ⟨g, 0, none⟩) (l.length + 1) cap) (l.length + 1) (cellsOf l ++ [.int .i64 id, .int .u64 a])) (hg : (W2.drew.alloc (.cells #[.int .i64 id, .int .u64 a] 62)).grownBy w1 sv.ownBlock) (hat : sv.ownBlock = some g ∨ g = W2.heap.size + 1) :
    Pile (w1.setCell ⟨pb, 0, none⟩ (.slice (some ⟨g, 0, none⟩) (l.length + 1) cap)) pb mb g cap (l ++ [(id, a)]) ∧ (sv.ownBlock = some g ∨ w.heap.size ≤ g) ∧ Foot (fun b => b = pb ∨ b = mb ∨ sv.ownBlock = some b) w (w1.setCell ⟨pb, 0, none⟩ (.slice (some ⟨g, 0, none⟩) (l.length + 1) cap)) := by
  have hF2 : Foot (fun b => sv.ownBlock = some b) W2 w1 := by
    have q1 : Foot (fun b => sv.ownBlock = some b) W2 (W2.drew.alloc (.cells #[.int .i64 id, .int .u64 a] 62)) := Foot.below (below_alloc (show Below W2.heap.size W2 W2.drew from below_drew1 (Below.refl _ W2)) _)
    have q2 : Foot (fun b => sv.ownBlock = some b) (W2.drew.alloc (.cells #[.int .i64 id, .int .u64 a] 62)) w1 := ⟨hg.os, hg.tape, hg.output, hg.size, fun k hk hn => hg.block k hk (fun e => hn e.symm)⟩
    exact q1.trans q2 (fun _ _ h => h)
  have hH1 : HeadW w1 pb mb sv := hF2.blk hH h.n1
  have hgp : g ≠ pb := by
    rcases hat with hat | hat
    · rintro rfl; exact h.n1 hat
    · have := blk_lt hH; omega
  have hgm : g ≠ mb := by
    obtain ⟨f, hm, _⟩ := hM
    rcases hat with hat | hat
    · rintro rfl; exact h.n2 hat
    · have := hm.lt; omega
  have hF3 : Foot (fun b => b = pb) w1 (w1.setCell ⟨pb, 0, none⟩ (.slice (some ⟨g, 0, none⟩) (l.length + 1) cap)) :=
    ⟨rfl, rfl, rfl, by simp [World.setCell], fun b hb hn => Below.heap_setCell _ _ _ _ hn⟩
  have hlen : (l ++ [(id, a)]).length = l.length + 1 := by simp
  have hcs : cellsOf (l ++ [(id, a)]) = cellsOf l ++ [.int .i64 id, .int .u64 a] := by rw [cellsOf_append]; rfl
  have hpw : pb < w.heap.size := blk_lt h.head
  refine ⟨⟨?_, ?_, ?_, fun e => hgp e.symm, fun e => hgm e.symm, h.n3⟩, ?_, ?_⟩
  · rw [hlen]
    exact blk_set hH1 _ _
  · have := own_row (l := l ++ [(id, a)]) (n := l.length + 1) (cap := cap) (g := g) (w := w1) (by rw [hcs]; exact hown) hlen (by omega)
    obtain ⟨cur, x, y⟩ := this
    exact ⟨cur, hF3.blk x hgp, y⟩
  · obtain ⟨f, ⟨es, cl, x, y⟩, z⟩ := hM
    exact ⟨f, ⟨es, cl, hF3.blk (hF2.blk x h.n2) (fun e => h.n3 e.symm), y⟩, z⟩
  · rcases hat with hat | hat
    · exact .inl hat
    · right; have := hF.2.2.2.1; omega
  · refine Foot.trans (S' := fun b => b = pb ∨ sv.ownBlock = some b) (hF.mono (fun b hb => .inr (.inl hb))) ?_ (fun b hb h => ?_)
    · exact (hF2.mono (fun b hb => .inr hb)).trans hF3 (fun b _ h => .inl h)
    · rcases h with h | h
      · exact .inl h
      · exact .inr (.inr h)
set_option maxHeartbeats 8000000 in
set_option maxRecDepth 100000 in
theorem push47 (pb mb : Nat) (sv : Value) (l : List Heap.Item) (w : World) (id a : Int) (h : PileO w pb mb sv l) (hwf : (Lit.int .i64 id).wf = true) (hno : ∀ i, i < l.length → (at_ l i).1 ≠ id) (hs : l.length < 1000000000) :
    Calls Try.prog 47 #[.pointer (some ⟨pb, 0, none⟩), .iface 62 (.agg #[.int .i64 id, .int .u64 a])] w fun e w' => e = .returned (.tuple #[]) ∧ ∃ sb cap, Pile w' pb mb sb cap (l ++ [(id, a)]) ∧ (sv.ownBlock = some sb ∨ w.heap.size ≤ sb) ∧ Foot (fun b => b = pb ∨ b = mb ∨ sv.ownBlock = some b) w w' := by
  obtain ⟨A, c, hsv⟩ := own_len h.own
  have et : ∀ w : World, (Instr.typeAssert (.iface 62 (.agg #[.int .i64 id, .int .u64 a])) 20 62 true).run Try.prog w = .ok (.tuple #[.agg #[.int .i64 id, .int .u64 a], .bool true]) w := fun _ => by kernel_rfl
  obtain ⟨p, hp⟩ : ∃ p, p = w.heap.size := ⟨_, rfl⟩
  obtain ⟨W1, hW1⟩ : ∃ W1, W1 = w.alloc (.cells #[.int .i64 id, .int .u64 a] 62) := ⟨_, rfl⟩
  obtain ⟨k1, k2, W2, E1, k3, k4, k5, k6, k7, k8⟩ := push_mid h hwf hno hp hW1
  have HZ := Aside0.mk (And.intro h (And.intro hs (And.intro hp (And.intro k3 (And.intro k6 (And.intro k7 k8))))))
  have HE := Aside0.mk (And.intro k3 (And.intro k4 (And.intro k5 E1)))
  have hbig : (l.length + 1) ≤ Go.maxLen ∧ (l.length + 1) * 16 ≤ 140737488355328 := ⟨by unfold Go.maxLen; omega, by omega⟩
  have HB := Aside0.mk hbig
  have h0 : W1.cell? ⟨pb, 0, none⟩ = some sv := (blk_cell k1 0).trans rfl
  have h1 : W1.cell? ⟨pb, 1, none⟩ = some (.map (some mb)) := (blk_cell k1 1).trans rfl
  have d0 : W1.cell? ⟨p, 0, none⟩ = some (.int .i64 id) := (blk_cell k2 0).trans rfl
  clear h hno hs hwf k1 k2 k3 k4 k5 k6 k7 k8 E1 hbig
  subst hsv
  go_enter Try.func47, Try.ntmps47
  go_wp2
  rw [← hW1, ← hp]
  clear hW1 hp et
  go_still_tail 11, (by kernel_rfl)
  change wpList _ _ _ _ _ W1.drew
  obtain ⟨k3, k4, k5, E1⟩ := HE.out
  have HKeep : Aside0 (∀ w1, ((W2.alloc (.cells #[.int .i64 id, .int .u64 a] 62)).drew).grownBy w1 (Value.slice A l.length c).ownBlock → w1.cell? ⟨pb, 0, none⟩ = some (.slice A l.length c) ∧ w1.frozen? ⟨pb, 0, none⟩ = false ∧ w1.cell? ⟨p, 0, none⟩ = some (.int .i64 id) ∧ w1.cell? ⟨p, 1, none⟩ = some (.int .u64 a)) := ⟨fun w1 hg => by
    have hP : w1.heap[pb]? = some (.cells #[.slice A l.length c, .map (some mb)] 51 (0, 0)) := (hg.block pb (by have := blk_lt k3; simp; omega) (fun e => HZ.out.1.n1 e.symm)).trans ((Below.heap_alloc W2 _ pb (blk_lt k3)).trans k3)
    have hQ : w1.heap[p]? = some (.cells #[.int .i64 id, .int .u64 a] 62 (0, 0)) := (hg.block p (by have := blk_lt k4; simp; omega) (fun e => by
      have := (HZ.out.1.own.lt p e.symm).2
      have := HZ.out.2.2.1
      omega)).trans ((Below.heap_alloc W2 _ p (blk_lt k4)).trans k4)
    exact ⟨(blk_cell hP 0).trans rfl, blk_frozen hP 0, (blk_cell hQ 0).trans rfl, (blk_cell hQ 1).trans rfl⟩⟩
  have f0' : ∀ o, (W2.alloc o).frozen? ⟨pb, 0, none⟩ = false := fun o => (World.frozen?_of_block (w := W2) (Below.heap_alloc W2 o pb (blk_lt k3))).trans (blk_frozen k3 0)
  have k5 := Aside0.mk k5
  clear h0 h1 d0 HE
  go_wp2_with fail
  clear E1
  have h0 : W2.cell? ⟨pb, 0, none⟩ = some (.slice A l.length c) := (blk_cell k3 0).trans rfl
  have f0 : W2.frozen? ⟨pb, 0, none⟩ = false := blk_frozen k3 0
  have d0 : W2.cell? ⟨p, 0, none⟩ = some (.int .i64 id) := (blk_cell k4 0).trans rfl
  have d1 : W2.cell? ⟨p, 1, none⟩ = some (.int .u64 a) := (blk_cell k4 1).trans rfl
  clear k3 k4
  have hsz : W2.heap.size + 1 = (W2.drew.alloc (.cells #[.int .i64 id, .int .u64 a] 62)).heap.size := by simp
  have hal : ∀ o, (W2.alloc o).cell? ⟨pb, 0, none⟩ = some (.slice A l.length c) := fun o => (World.cell?_of_block (w := W2) (Below.heap_alloc W2 o pb (World.block_lt_of_cell? W2 _ h0))).trans h0
  go_region_law ((refine step_append_lies _ (by rfl) _ _ _ (by rfl) 0 62 _ (.agg #[.int .i64 0, .int .u64 0]) 2 16 Try.underlying49 (by rfl) (by rfl) (by rfl) (by rfl) (by rfl) (by decide) _ l.length _ (by rfl) (World.ownsRow.alloc (k5.out) _) ⟨W2.heap.size, 0, none⟩ 1 1 [.int .i64 id, .int .u64 a] (by rfl) (by rfl) (World.news_of_block (blk_new W2.drew _)) (by intro u hu; simp only [List.mem_cons, List.mem_nil_iff, or_false] at hu; rcases hu with rfl | rfl <;> rfl) (by decide) HB.out.1 HB.out.2 (Nat.zero_le _) _ rfl ?_; intro g cap w1 hown hgrow hat hlt; obtain ⟨hk1, hk2, hk3, hk4⟩ := HKeep.out w1 hgrow))
  all_goals go_wp2
  all_goals go_end0
  all_goals
    obtain ⟨z1, z2, z3, z4, z5, z6, z7⟩ := HZ.out
    exact ⟨rfl, _, _, push_end z1 z2 z3 z4 z5 z6 z7 hown hgrow (by simpa using hat)⟩
end Go.Proofs.Ythjcdjanadeobaa.MH
