/- The pure statement of comptoirlaw03.BitmapBoth: what stands in one part alone is the same with the other part beside. No condition beyond the reach of its arguments. -/
import Derived.Test.YtfjfmlajnamlpaaStBitmapBoth
import Derived.Test.YtfjfmlajnamlpaaHMap
namespace Go.Proofs.Ytfjfmlajnamlpaa.Pure
open Go.RowKit Go.Proofs.Ytfjfmlajnamlpaa.MB Go.Proofs.YtfjfmlajnamlpaaW.PrintWords Go.Proofs.YtfjfmlajnamlpaaW.PrintLast

theorem both_l2 (x6 x9 x11 : List Int) (h9 : 8 ≤ x9.length) (h11 : 8 ≤ x11.length) (he : ∀ i : Int, 0 ≤ i → i < 8 → rd x9 i = rd x11 i) (hd : decide (rd x11 0 ≥ 128) = decide ((x6.length : Int) > 0)) (d : Nat) :
    ∀ i : Int, 0 ≤ i → i + d = 8 → Ev (fun k => comptoirlaw03_BitmapBoth.l2 k x6 x9 x11 i) true := by
  induction d with
  | zero =>
    intro i h0 hi
    refine Ev.step (f := fun _ => some true) (fun k => ?_) (Ev.now true)
    simp only [comptoirlaw03_BitmapBoth.l2]
    rw [if_neg (by omega), if_pos (by omega), hd, beq_self_eq_true]
  | succ d ih =>
    intro i h0 hi
    refine Ev.step (f := fun k => comptoirlaw03_BitmapBoth.l2 k x6 x9 x11 (i + 1)) (fun k => ?_) (ih (i + 1) (by omega) (by omega))
    simp only [comptoirlaw03_BitmapBoth.l2]
    rw [if_pos (by omega), if_pos h0, if_pos (by omega), if_pos (by omega), if_pos (he i h0 (by omega)), show wrap64 (i + 1) = i + 1 from by unfold wrap64; omega]

theorem top_bit : ∀ x : Fin 256, decide ((x.val : Int) ≥ 128) = x.val.testBit 7 := by decide +kernel
theorem top_of (x : Int) (h : 0 ≤ x ∧ x < 256) : decide (x ≥ 128) = x.toNat.testBit 7 := by
  have := top_bit ⟨x.toNat, by omega⟩
  simp only at this
  rw [← this, Int.toNat_of_nonneg h.1]
theorem or_top (x y : Int) (hx : 0 ≤ x ∧ x < 256) (hy : 0 ≤ y ∧ y < 256) : (0 ≤ Go.bits .or .u8 x (Go.bits .and .u8 y 128) ∧ Go.bits .or .u8 x (Go.bits .and .u8 y 128) < 256) ∧
    ∀ j, (Go.bits .or .u8 x (Go.bits .and .u8 y 128)).toNat.testBit j = (x.toNat.testBit j || (y.toNat.testBit j && decide (7 = j))) := by
  have h1 : Go.bits .and .u8 y 128 = ((y.toNat &&& 128 : Nat) : Int) := by rw [u8_and y 128 hy.1 hy.2 (by decide) (by decide)]; rfl
  have h2 : y.toNat &&& 128 < 256 := Nat.lt_of_le_of_lt Nat.and_le_right (by decide)
  rw [h1, u8_or x _ hx.1 hx.2 (by omega) (by omega), Int.toNat_natCast]
  have hlt : x.toNat ||| (y.toNat &&& 128) < 2 ^ 8 := Nat.or_lt_two_pow (by omega) (by omega)
  refine ⟨⟨by omega, by omega⟩, fun j => ?_⟩
  rw [Int.toNat_natCast, Nat.testBit_or, Nat.testBit_and, show (128 : Nat) = 2 ^ 7 from rfl, Nat.testBit_two_pow]

theorem awake_both : comptoirlaw03_awake.f = some true := by kernel_rfl
/-- Behind both loops. -/
theorem both_end (l h : List Int) (z z' x8 : Int) (x1 : List Bool) (hz : scanL 1 l = some z) (hz64 : z ≤ 64) (hz' : scanL z h = some z') (hh : (h = [] ∧ z' = z) ∨ (h ≠ [] ∧ 65 < z' ∧ ∀ x ∈ h, 65 < x))
    (hl1 : l.length ≤ 200) (hl2 : h.length ≤ 200) : Ev (fun k => comptoirlaw03_BitmapBoth.j3 k x1 l h x8 false) true := by
  have hs : scanL 1 (l ++ h) = some z' := by rw [scan_append, hz]; exact hz'
  have hb1 := scan_bounds l 1 z hz
  have w1 := write_some l z hz
  have w2 := write_some (l ++ h) z' hs
  have B1 := bitsOf_bytes z l
  have B2 := bitsOf_bytes z' (l ++ h)
  have L1 : (bitsOf z l).length = 8 := by rw [bitsOf_length, if_neg (by omega)]
  have L2 := bitsOf_length z' (l ++ h)
  have hn1 : (1 : Int) ∉ l := fun hm => by have := hb1.2 _ hm; omega
  have hn2 : (1 : Int) ∉ l ++ h := fun hm => by have := (scan_bounds _ 1 z' hs).2 _ hm; omega
  have T2 : hasBit (bitsOf z' (l ++ h)) 1 = decide (64 < z') := by rw [bitsOf_has _ _ hs 1 (by decide)]; simp [hn2]
  have Tl : ∀ m : Int, 2 ≤ m → m ≤ 64 → hasBit (bitsOf z' (l ++ h)) m = hasBit (bitsOf z l) m := by
    intro m m1 m2
    rw [bitsOf_has _ _ hs m (by omega), bitsOf_has _ _ hz m (by omega)]
    have e1 : ¬ m = 1 := by omega
    have e2 : m ∉ h := by
      rcases hh with ⟨rfl, _⟩ | ⟨_, _, hx⟩
      · simp
      · intro hm; have := hx m hm; omega
    simp [e1, e2]
  have T1 : hasBit (bitsOf z l) 1 = false := by rw [bitsOf_has _ _ hz 1 (by decide)]; simp [hn1]; omega
  generalize hc1 : bitsOf z l = b1 at *
  generalize hc2 : bitsOf z' (l ++ h) = b2 at *
  have hlen : 8 ≤ b2.length := by rw [L2]; split <;> omega
  have OT := or_top (rd b1 0) (rd b2 0) (bytes_rd B1 0) (bytes_rd B2 0)
  have hd : decide (rd b2 0 ≥ 128) = decide ((h.length : Int) > 0) := by
    rw [top_of _ (bytes_rd B2 0), ← has_bit b2 0 7 (by decide)]
    show hasBit b2 1 = _
    rw [T2, decide_eq_decide]
    rcases hh with ⟨rfl, rfl⟩ | ⟨hne, h65, _⟩
    · simp; omega
    · have := List.length_pos_iff.2 hne
      constructor <;> intro _ <;> omega
  have he : ∀ i : Int, 0 ≤ i → i < 8 → rd (b1.set (0 : Int).toNat (Go.bits .or .u8 (rd b1 0) (Go.bits .and .u8 (rd b2 0) 128))) i = rd b2 i := by
    intro i h0 h8
    rw [rd_set _ _ _ _ h0 (by show 0 < b1.length; omega)]
    by_cases e : (((0 : Int).toNat : Nat) : Int) = i
    · have e0 : i = 0 := by rw [← e]; rfl
      rw [if_pos e, e0]
      refine byte_ext _ _ OT.1 (bytes_rd B2 0) fun j hj => ?_
      rw [OT.2 j, ← has_bit b1 0 j hj, ← has_bit b2 0 j hj]
      by_cases e7 : 7 = j
      · subst e7
        show (hasBit b1 1 || (hasBit b2 1 && true)) = hasBit b2 1
        rw [T1]; simp
      · rw [Tl (8 * 0 + 8 - j) (by omega) (by omega)]
        simp [e7]
    · rw [if_neg e]
      have i1 : 1 ≤ i := by
        rcases Int.lt_or_le i 1 with h | h
        · exact absurd (show (((0 : Int).toNat : Nat) : Int) = i from by show (0 : Int) = i; omega) e
        · exact h
      refine byte_ext _ _ (bytes_rd B1 _) (bytes_rd B2 _) fun j hj => ?_
      have q1 := has_bit b1 i j hj
      have q2 := has_bit b2 i j hj
      rw [← q1, ← q2, Tl (8 * i + 8 - j) (by omega) (by omega)]
  have hloop := both_l2 h (b1.set (0 : Int).toNat (Go.bits .or .u8 (rd b1 0) (Go.bits .and .u8 (rd b2 0) 128))) b2 (by rw [List.length_set]; omega) hlen he hd 8 0 (by decide) (by decide)
  have hj4 : Ev (fun k => comptoirlaw03_BitmapBoth.j4 k h b1 b2 false) true := by
    refine Ev.step (fun k => ?_) hloop
    simp only [comptoirlaw03_BitmapBoth.j4, Bool.false_eq_true, if_false]
    rw [if_pos (by omega), if_pos (by omega)]
  refine Ev.step (fun k => ?_) hj4
  simp only [comptoirlaw03_BitmapBoth.j3, Bool.false_eq_true, if_false, w1, Option.bind_some, List.length_nil, List.nil_append]
  rw [if_pos (by omega), if_pos (by omega), w2, awake_both]
  simp only [Option.bind_some, if_true]
  rw [if_pos (by omega)]
  rcases hh with ⟨rfl, rfl⟩ | ⟨hne, h65, _⟩
  · rw [if_neg (by omega)] at L2
    rw [if_pos (by omega), if_neg (by omega)]
    rfl
  · rw [if_pos (by omega)] at L2
    have := List.length_pos_iff.2 hne
    rw [if_neg (by omega), if_neg (by omega), if_pos (by omega)]

theorem both_l1 (l : List Int) (z : Int) (x1 : List Bool) (hx1 : x1.length ≤ 140737488351232) (hz : scanL 1 l = some z) (hz64 : z ≤ 64) (hl1 : l.length ≤ 200) (d : Nat) :
    ∀ (h : List Int) (i z' : Int), 66 ≤ i → i + d = 129 → scanL z h = some z' → z' < i → ((h = [] ∧ z' = z) ∨ (h ≠ [] ∧ 65 < z' ∧ ∀ x ∈ h, 65 < x)) → (h.length : Int) ≤ i - 66 → Ev (fun k => comptoirlaw03_BitmapBoth.l1 k x1 l h i) true := by
  induction d with
  | zero =>
    intro h i z' hi hd hs hlt hh hl
    refine Ev.step (fun k => ?_) (both_end l h z z' i x1 hz hz64 hs hh hl1 (by omega))
    simp only [comptoirlaw03_BitmapBoth.l1]
    rw [if_neg (by omega)]
  | succ d ih =>
    intro h i z' hi hd hs hlt hh hl
    by_cases c : i < wrap64 ((x1.length : Int) + 66)
    · have cw : wrap64 ((x1.length : Int) + 66) = (x1.length : Int) + 66 := by unfold wrap64; omega
      have c66 : wrap64 (i - 66) = i - 66 := by unfold wrap64; omega
      have ci : wrap64 (i + 1) = i + 1 := by unfold wrap64; omega
      rw [cw] at c
      have st : ∀ k, comptoirlaw03_BitmapBoth.l1 (k + 1) x1 l h i = comptoirlaw03_BitmapBoth.j3 k x1 l h i true := by
        intro k
        simp only [comptoirlaw03_BitmapBoth.l1]
        rw [if_pos (by omega), cw, decide_eq_true c]
      cases hb : rdOf false x1 (i - 66) with
      | true =>
        refine Ev.step st (Ev.step (fun k => ?_) (ih (h ++ [i]) (i + 1) i (by omega) (by omega) (scan_snoc h z z' i hs hlt (by omega) (by omega)) (by omega) (.inr ⟨by simp, by omega, ?_⟩) (by simp; omega)))
        · simp only [comptoirlaw03_BitmapBoth.j3, if_true]
          rw [c66, if_pos (by omega), if_pos (by omega), hb, if_pos rfl, if_pos (by omega), ci]
        · intro x hx
          rcases List.mem_append.1 hx with hx | hx
          · rcases hh with ⟨rfl, _⟩ | ⟨_, _, h3⟩
            · cases hx
            · exact h3 x hx
          · rw [List.mem_singleton.1 hx]; omega
      | false =>
        refine Ev.step st (Ev.step (fun k => ?_) (ih h (i + 1) z' (by omega) (by omega) hs (by omega) hh (by omega)))
        simp only [comptoirlaw03_BitmapBoth.j3, if_true]
        rw [c66, if_pos (by omega), if_pos (by omega), hb, if_neg (by simp), ci]
    · refine Ev.step (fun k => ?_) (both_end l h z z' i x1 hz hz64 hs hh hl1 (by omega))
      simp only [comptoirlaw03_BitmapBoth.l1]
      rw [if_pos (by omega), decide_eq_false c]

theorem both_l0 (x0 x1 : List Bool) (hx0 : x0.length ≤ 140737488351232) (hx1 : x1.length ≤ 140737488351232) (d : Nat) :
    ∀ (l : List Int) (i z : Int), 2 ≤ i → i + d = 65 → scanL 1 l = some z → z < i → (l.length : Int) ≤ i - 2 → Ev (fun k => comptoirlaw03_BitmapBoth.l0 k x0 x1 l i) true := by
  have next : ∀ (l : List Int) (i z : Int), scanL 1 l = some z → z ≤ 64 → l.length ≤ 200 → Ev (fun k => comptoirlaw03_BitmapBoth.j1 k x0 x1 l [] i false) true := by
    intro l i z hs hz hl
    refine Ev.step (fun k => ?_) (both_l1 l z x1 hx1 hs hz hl 63 [] 66 z (by decide) (by decide) rfl (by omega) (.inl ⟨rfl, rfl⟩) (by decide))
    simp only [comptoirlaw03_BitmapBoth.j1, Bool.false_eq_true, if_false]
  induction d with
  | zero =>
    intro l i z hi hd hs hlt hl
    refine Ev.step (fun k => ?_) (next l i z hs (by omega) (by omega))
    simp only [comptoirlaw03_BitmapBoth.l0]
    rw [if_neg (by omega)]
  | succ d ih =>
    intro l i z hi hd hs hlt hl
    by_cases c : i < wrap64 ((x0.length : Int) + 2)
    · have cw : wrap64 ((x0.length : Int) + 2) = (x0.length : Int) + 2 := by unfold wrap64; omega
      have c2 : wrap64 (i - 2) = i - 2 := by unfold wrap64; omega
      have ci : wrap64 (i + 1) = i + 1 := by unfold wrap64; omega
      rw [cw] at c
      have st : ∀ k, comptoirlaw03_BitmapBoth.l0 (k + 1) x0 x1 l i = comptoirlaw03_BitmapBoth.j1 k x0 x1 l [] i true := by
        intro k
        simp only [comptoirlaw03_BitmapBoth.l0]
        rw [if_pos (by omega), cw, decide_eq_true c]
      cases hb : rdOf false x0 (i - 2) with
      | true =>
        refine Ev.step st (Ev.step (fun k => ?_) (ih (l ++ [i]) (i + 1) i (by omega) (by omega) (scan_snoc l 1 z i hs hlt (by omega) (by omega)) (by omega) (by simp; omega)))
        simp only [comptoirlaw03_BitmapBoth.j1, if_true]
        rw [c2, if_pos (by omega), if_pos (by omega), hb, if_pos rfl, if_pos (by omega), ci]
      | false =>
        refine Ev.step st (Ev.step (fun k => ?_) (ih l (i + 1) z (by omega) (by omega) hs (by omega) (by omega)))
        simp only [comptoirlaw03_BitmapBoth.j1, if_true]
        rw [c2, if_pos (by omega), if_pos (by omega), hb, if_neg (by simp), ci]
    · refine Ev.step (fun k => ?_) (next l i z hs (by omega) (by omega))
      simp only [comptoirlaw03_BitmapBoth.l0]
      rw [if_pos (by omega), decide_eq_false c]

theorem BitmapBoth : comptoirlaw03_BitmapBoth.Pure := by
  intro x0 x1 h0 h1
  have e0 : x0.length ≤ 140737488351232 := by have := h0.2.1; omega
  have e1 : x1.length ≤ 140737488351232 := by have := h1.2.1; omega
  exact (both_l0 x0 x1 e0 e1 63 [] 2 1 (by decide) (by decide) rfl (by decide) (by decide)).rounds

end Go.Proofs.Ytfjfmlajnamlpaa.Pure
