/- comptoirref16.Join walked: what the document says of a join, over whole messages. -/
import Derived.Test.YthapknnppabdaaaHCopy
import Derived.Test.YthapknnppabdaaaMRx3
import Derived.Test.YthapknnppabdaaaHRow
import Derived.Test.YthapknnppabdaaaHElseW
namespace Go.Proofs.Ythapknnppabdaaa.MR
open Go.RowKit Go.Proofs.YthapknnppabdaaaW.PrintWords Go.Proofs.YthapknnppabdaaaW.PrintLast Go.Proofs.YthapknnppabdaaaW.PrintMore
set_option linter.unusedVariables false
set_option linter.unusedSimpArgs false

/-- The first, unless it is empty. -/
def pickB (a b : ByteArray) : ByteArray := if a.toList = [] then b else a
theorem or33 (a b : ByteArray) (w : World) : Calls Try.prog 33 #[.string a, .string b] w fun e w' => e = .returned (.string (pickB a b)) ∧ Drawn0 w w' :=
  comptoirref16_or.calls a b _ w (by unfold comptoirref16_or.f pickB; split <;> rfl)
def row29 (x : S29) (v16 v19 v20 : Value) : Array Value := #[.int .i64 x.f0, .int .i64 x.f1, .string x.f2, .string x.f3, .string x.f4, .string x.f5, .int .u64 x.f6, .string x.f7, .string x.f8, .string x.f9, .string x.f10, .int .i64 x.f11, .string x.f12, .string x.f13, .int .i64 x.f14.f0, .string x.f14.f1, v16, .string x.f16, .string x.f17, v19, v20]
def row31 (y : S31) (v3 v4 : Value) : Array Value := #[.string y.f0, .string y.f1, .string y.f2, v3, v4]
theorem Later.refl (p : Nat) (W : World) : Later p W W := ⟨Nat.le_refl _, fun _ _ _ => rfl⟩
theorem Later.trans {p : Nat} {A B C : World} (h : Later p A B) (g : Later p B C) : Later p A C :=
  ⟨Nat.le_trans h.size g.size, fun k h1 h2 => (g.same k h1 (Nat.lt_of_lt_of_le h2 h.size)).trans (h.same k h1 h2)⟩
theorem Later.below {p : Nat} {W W' : World} (h : Below W.heap.size W W') : Later p W W' := ⟨h.size, fun k _ h2 => h.block k h2⟩
theorem Later.set {p : Nat} {W : World} {g i : Nat} {v : Value} (hg : g ≤ p) : Later p W (W.setCell ⟨g, i, none⟩ v) :=
  ⟨by simp [World.setCell], fun k h1 _ => Below.heap_setCell _ _ _ _ (by show k ≠ g; omega)⟩
/-- Where the walk stands: the message in block p2, the residue in p3, the answer's place in p4; the message's lists hold in every later world. -/
structure JS (w : World) (p2 : Nat) (x : S29) (v16 v19 v20 : Value) (y : S31) (v3 v4 : Value) (W : World) : Prop where
  b2 : W.heap[p2]? = some (.cells (row29 x v16 v19 v20) 29 (0, 0))
  b3 : W.heap[p2 + 1]? = some (.cells (row31 y v3 v4) 31 (0, 0))
  b4 : ∃ old, W.heap[p2 + 2]? = some (.cells old 29 (0, 0)) ∧ old.size = 21
  bel : Below w.heap.size w W
  lo : w.heap.size ≤ p2
  k29' : ∀ W', Later (p2 + 2) W W' → Below w.heap.size w W' → k29.K W' x (row29 x v16 v19 v20).toList
theorem JS.below {w : World} {p2 : Nat} {x : S29} {v16 v19 v20 : Value} {y : S31} {v3 v4 : Value} {W W' : World} (h : JS w p2 x v16 v19 v20 y v3 v4 W) (hb : Below W.heap.size W W') : JS w p2 x v16 v19 v20 y v3 v4 W' := by
  obtain ⟨old, ho, hs⟩ := h.b4
  exact ⟨blk_below h.b2 hb, blk_below h.b3 hb, ⟨old, blk_below ho hb, hs⟩, below_step h.bel hb, h.lo, fun W'' hl hb' => h.k29' W'' ((Later.below hb).trans hl) hb'⟩
theorem JS.set {w : World} {p2 : Nat} {x x' : S29} {v16 v19 v20 v19' v20' : Value} {y : S31} {v3 v4 : Value} {W : World} (h : JS w p2 x v16 v19 v20 y v3 v4 W) (i : Nat) (v : Value)
    (hr : (row29 x v16 v19 v20).setIfInBounds i v = row29 x' v16 v19' v20') (hk : ∀ W', Later (p2 + 2) W W' → Below w.heap.size w W' → k29.K W' x (row29 x v16 v19 v20).toList → k29.K W' x' (row29 x' v16 v19' v20').toList) : JS w p2 x' v16 v19' v20' y v3 v4 (W.setCell ⟨p2, i, none⟩ v) := by
  obtain ⟨old, ho, hs⟩ := h.b4
  have hL : Later (p2 + 2) W (W.setCell ⟨p2, i, none⟩ v) := Later.set (by omega)
  refine ⟨by rw [← hr]; exact blk_set h.b2 _ _, (Below.heap_setCell _ _ _ _ (by show p2 + 1 ≠ p2; omega)).trans h.b3, ⟨old, (Below.heap_setCell _ _ _ _ (by show p2 + 2 ≠ p2; omega)).trans ho, hs⟩, below_set h.bel h.lo, h.lo, fun W' hl hb => ?_⟩
  exact hk W' (hL.trans hl) hb (h.k29' W' (hL.trans hl) hb)
theorem K_text {W : World} {x x' : S29} {v16 v19 v20 : Value} (h : k29.K W x (row29 x v16 v19 v20).toList) (e15 : x'.f15 = x.f15) (e18 : x'.f18 = x.f18) (e19 : x'.f19 = x.f19) : k29.K W x' (row29 x' v16 v19 v20).toList := by
  obtain ⟨A16, c16, A19, c19, A20, c20, e, l16, g16, l19, g19, l20, g20⟩ := k29_open h
  simp only [row29, List.cons.injEq] at e
  obtain ⟨_, _, _, _, _, _, _, _, _, _, _, _, _, _, _, _, rfl, _, _, rfl, rfl, _⟩ := e
  rw [← e15] at l16 g16 ⊢
  rw [← e18] at l19 g19 ⊢
  rw [← e19] at l20 g20 ⊢
  exact k29_mk W x' l16 g16 l19 g19 l20 g20
theorem K_extra {W : World} {x : S29} {v16 v19 v20 : Value} {xs : List S48} {A : Option Addr} {c : Nat} (h : k29.K W x (row29 x v16 v19 v20).toList) (hc : xs.length ≤ c) (hC : k48.C W A xs.length xs) : k29.K W { x with f18 := xs } (row29 { x with f18 := xs } v16 (.slice A xs.length c) v20).toList := by
  obtain ⟨A16, c16, A19, c19, A20, c20, e, l16, g16, l19, g19, l20, g20⟩ := k29_open h
  simp only [row29, List.cons.injEq] at e
  obtain ⟨_, _, _, _, _, _, _, _, _, _, _, _, _, _, _, _, rfl, _, _, rfl, rfl, _⟩ := e
  exact k29_mk W { x with f18 := xs } l16 g16 hc hC l20 g20
theorem K_other {W : World} {x : S29} {v16 v19 v20 : Value} {xs : List S52} {A : Option Addr} {c : Nat} (h : k29.K W x (row29 x v16 v19 v20).toList) (hc : xs.length ≤ c) (hC : k52.C W A xs.length xs) : k29.K W { x with f19 := xs } (row29 { x with f19 := xs } v16 v19 (.slice A xs.length c)).toList := by
  obtain ⟨A16, c16, A19, c19, A20, c20, e, l16, g16, l19, g19, l20, g20⟩ := k29_open h
  simp only [row29, List.cons.injEq] at e
  obtain ⟨_, _, _, _, _, _, _, _, _, _, _, _, _, _, _, _, rfl, _, _, rfl, rfl, _⟩ := e
  exact k29_mk W { x with f19 := xs } l16 g16 l19 g19 hc hC
/-- What the document says of a join, step by step. -/
def jN (x : S29) (y : S31) : S29 := { x with f17 := pickB y.f0 x.f17 }
def jM (a : S29) (y : S31) : S29 := if a.f8.toList = [] then a else { a with f8 := pickB y.f1 a.f8 }
def jT (b : S29) (y : S31) : S29 := if b.f9.toList = [] then b else { b with f9 := pickB y.f2 b.f9 }
def jE (c : S29) (y : S31) : S29 := if y.f3.length > 0 then { c with f18 := y.f3 } else c
def jO (d : S29) (y : S31) : S29 := if y.f4.length > 0 then { d with f19 := y.f4 } else d
def joinG (x : S29) (y : S31) : S29 := jO (jE (jT (jM (jN x y) y) y) y) y
theorem jM_pos {a : S29} (y : S31) (h : a.f8.toList = []) : jM a y = a := if_pos h
theorem jM_neg {a : S29} (y : S31) (h : ¬ a.f8.toList = []) : jM a y = { a with f8 := pickB y.f1 a.f8 } := if_neg h
theorem jT_pos {a : S29} (y : S31) (h : a.f9.toList = []) : jT a y = a := if_pos h
theorem jT_neg {a : S29} (y : S31) (h : ¬ a.f9.toList = []) : jT a y = { a with f9 := pickB y.f2 a.f9 } := if_neg h
theorem jE_pos (a : S29) {y : S31} (h : y.f3.length > 0) : jE a y = { a with f18 := y.f3 } := if_pos h
theorem jE_neg (a : S29) {y : S31} (h : ¬ y.f3.length > 0) : jE a y = a := if_neg h
theorem jO_pos (a : S29) {y : S31} (h : y.f4.length > 0) : jO a y = { a with f19 := y.f4 } := if_pos h
theorem jO_neg (a : S29) {y : S31} (h : ¬ y.f4.length > 0) : jO a y = a := if_neg h
end Go.Proofs.Ythapknnppabdaaa.MR
