/- A row copied by append([]T(nil), xs...): its cells one by one, whatever the elements share. -/
import Derived.Test.YthapknnppabdaaaMRx0
import Derived.Shelf.Abstract
namespace Go.Proofs.Ythapknnppabdaaa.MR
open Go.RowKit Go.Proofs.YthapknnppabdaaaW.PrintWords Go.Proofs.YthapknnppabdaaaW.PrintLast Go.Proofs.YthapknnppabdaaaW.PrintMore
set_option linter.unusedVariables false
set_option linter.unusedSimpArgs false

/-- Cells as they are. -/
def kraw (n : Nat) : Kd (List Value) where
  sz := n
  E := []
  K := fun _ x cs => cs = x ∧ x.length = n ∧ ∀ u ∈ x, u.oneCell' = true
  M := fun _ _ _ x cs => cs = x ∧ x.length = n ∧ ∀ u ∈ x, u.oneCell' = true
  K_len := fun h => by rw [h.1]; exact h.2.1
  K_one := fun h u hu => h.2.2 u (h.1 ▸ hu)
  K_below := fun _ h => h
  K_of_M := fun h => h
  M_mono := fun _ h => h
  M_bound := fun h => h
  M_move := fun _ h => h
  M_lower := fun _ h => h
theorem raw_of {α : Type} {d : Kd α} {w : World} {A : Option Addr} {n : Nat} {xs : List α} (h : d.C w A n xs) :
    ∃ zs : List (List Value), (kraw d.sz).C w A n zs ∧ ∀ (j : Nat) (x : α) (z : List Value), xs[j]? = some x → zs[j]? = some z → d.K w x z := by
  obtain ⟨h1, h2, h3⟩ := h
  rcases Nat.eq_zero_or_pos n with h0 | h0
  · refine ⟨[], ⟨h0.symm, h2, fun hn => absurd hn (by omega)⟩, fun j x z hx hz => by simp at hz⟩
  · obtain ⟨ad, e, hc⟩ := h3 h0
    have key : ∀ m, m ≤ xs.length → ∃ zs : List (List Value), zs.length = m ∧ ∀ j z, zs[j]? = some z → ∃ x, xs[j]? = some x ∧ z.length = d.sz ∧ d.K w x z ∧ ∀ i u, z[i]? = some u → w.cell? (ad.add (j * d.sz + i)) = some u := by
      intro m
      induction m with
      | zero => exact fun _ => ⟨[], rfl, fun j z hz => by simp at hz⟩
      | succ m ih =>
        intro hm
        obtain ⟨zs, hl, hz⟩ := ih (by omega)
        have hx : xs[m]? = some xs[m] := List.getElem?_eq_getElem (by omega)
        obtain ⟨c, hs, hk, hcell⟩ := hc m _ hx
        refine ⟨zs ++ [c], by simp [hl], fun j z hj => ?_⟩
        rcases Nat.lt_or_ge j m with hjm | hjm
        · rw [List.getElem?_append_left (by omega)] at hj
          exact hz j z hj
        · rw [List.getElem?_append_right (by omega)] at hj
          have hj0 : j = m := by
            rcases Nat.eq_zero_or_pos (j - zs.length) with q | q
            · omega
            · rw [List.getElem?_eq_none (by simp; omega)] at hj; cases hj
          subst hj0
          rw [show j - zs.length = 0 by omega] at hj
          simp only [List.getElem?_cons_zero, Option.some.injEq] at hj
          subst hj
          exact ⟨_, hx, hs, hk, hcell⟩
    obtain ⟨zs, hl, hz⟩ := key xs.length (Nat.le_refl _)
    refine ⟨zs, ⟨by omega, h2, fun _ => ⟨ad, e, fun j z hj => ?_⟩⟩, fun j x z hx hj => ?_⟩
    · obtain ⟨x, hx, hs, hk, hcell⟩ := hz j z hj
      exact ⟨z, hs, ⟨rfl, hs, d.K_one hk⟩, hcell⟩
    · obtain ⟨x', hx', hs, hk, hcell⟩ := hz j z hj
      rw [hx] at hx'
      obtain rfl := Option.some.inj hx'
      exact hk
theorem raw_back {α : Type} {d : Kd α} {w : World} {A : Option Addr} {n : Nat} {xs : List α} {zs : List (List Value)} (h : (kraw d.sz).C w A n zs) (hl : xs.length = n) (hk : ∀ (j : Nat) (x : α) (z : List Value), xs[j]? = some x → zs[j]? = some z → d.K w x z) : d.C w A n xs := by
  obtain ⟨h1, h2, h3⟩ := h
  refine ⟨hl, h2, fun hn => ?_⟩
  obtain ⟨ad, e, hc⟩ := h3 hn
  refine ⟨ad, e, fun j x hx => ?_⟩
  have hj : j < zs.length := by
    have := (List.getElem?_eq_some_iff.1 hx).1
    omega
  obtain ⟨c, hs, ⟨hcz, _, _⟩, hcell⟩ := hc j _ (List.getElem?_eq_getElem hj)
  subst hcz
  exact ⟨_, hs, hk j x _ hx (List.getElem?_eq_getElem hj), hcell⟩
/-- A later world: what lies above p is as it was. -/
structure Later (p : Nat) (W W' : World) : Prop where
  size : W.heap.size ≤ W'.heap.size
  same : ∀ k, p < k → k < W.heap.size → W'.heap[k]? = W.heap[k]?
theorem copy_row {α : Type} {P : Program} {ops : Array Oper} {Q : Exit → Act → World → Prop} {rest : List Oper} {o : Oper} {a : Act} (d : Kd α) {w W : World} (p : Nat) (hgd : o.guard = none) (s x : Operand) (t e : TypeId) (z : Value) (bytes : Nat)
    (ho : o.op = .call { callee := .builtin .append, args := #[s, x], argTypes := #[t, t] })
    (ht : P.underlying t = some (.slice e)) (hinfo : (P.info? e).map (fun i => (i.zero, i.size, i.bytes)) = some (some z, d.sz, bytes)) (hz : z.cells.size = d.sz) (hs0 : 0 < d.sz) (hb0 : 0 < bytes)
    (xs : List α) (A : Option Addr) (c : Nat) (hs : a.eval s = .slice none 0 0) (hx : a.eval x = .slice A xs.length c)
    (HR : d.C w A xs.length xs) (HB : Below w.heap.size w W) (hp : p < W.heap.size) (hl : xs.length * bytes ≤ 140737488355328)
    (h : ∀ A1 c1 w1, xs.length ≤ c1 → (∀ W', Later p w1 W' → Below w.heap.size w W' → d.C W' A1 xs.length xs) → Below W.heap.size W w1 → wpList P ops Q rest (a.put o.dst (.slice A1 xs.length c1)) w1) :
    wpList P ops Q (o :: rest) a W := by
  obtain ⟨zs, hC, hK⟩ := raw_of HR
  have hzl : zs.length = xs.length := hC.1
  refine Kd.R_append_rows (kraw d.sz) (w0 := W) W.heap.size hgd s x t e z bytes ho ht hinfo hz hs0 hb0 (.slice none 0 0) [] zs A xs.length c (fun k => W.heap.size ≤ k) (fun _ => False) hs hx (Kd.R_nil _ _ _ _ _) (Kd.C_below hC HB) (fun x cs h => h) (fun _ h => h.elim) (fun _ hk => hk) (Below.refl _ _) (Nat.le_refl _) (by simpa using hl) ?_
  intro v1 w1 ho1 hb1 _ _
  rw [List.nil_append] at ho1
  obtain ⟨A1, c1, e1, e2, _⟩ := ho1.2.reads
  rw [hzl] at e1 e2
  subst e1
  refine h A1 c1 w1 e2 (fun W' hl' hb' => ?_) hb1
  have ho2 := Kd.R_step ho1 (fun k hk hlt => hl'.same k (Nat.lt_of_lt_of_le hp hk) hlt)
  obtain ⟨A2, c2, e3, _, e4⟩ := ho2.2.reads
  rw [hzl] at e3 e4
  injection e3 with e3 _ _
  subst e3
  exact raw_back e4 rfl fun j x z hx hz => d.K_below hb' (hK j x z hx hz)
end Go.Proofs.Ythapknnppabdaaa.MR
