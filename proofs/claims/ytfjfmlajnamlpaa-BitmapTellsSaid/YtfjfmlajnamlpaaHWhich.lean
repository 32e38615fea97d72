/- Plain: the numbers from one up to another one whose bits are set, and what bitmap.Parse comes to. No program in sight. -/
import Derived.Test.YtfjfmlajnamlpaaHMap
namespace Go.Proofs.Ytfjfmlajnamlpaa.MB
open Go.RowKit Go.Proofs.YtfjfmlajnamlpaaW.PrintWords Go.Proofs.YtfjfmlajnamlpaaW.PrintLast Go.Proofs.YtfjfmlajnamlpaaW.PrintMore

/-- The numbers of n from a on whose bits are set. -/
def whichL (xs : List Int) (a : Int) (n : Nat) : List Int := ((List.range n).map fun i : Nat => a + (i : Int)).filter (hasBit xs)
theorem whichL_zero (xs : List Int) (a : Int) : whichL xs a 0 = [] := rfl
theorem whichL_succ (xs : List Int) (a : Int) (n : Nat) : whichL xs a (n + 1) = whichL xs a n ++ (if hasBit xs (a + n) then [a + (n : Int)] else []) := by
  unfold whichL
  rw [List.range_succ, List.map_append, List.filter_append]
  congr 1
  simp only [List.map_cons, List.map_nil, List.filter_cons, List.filter_nil]
theorem whichL_mem (xs : List Int) (a : Int) (n : Nat) (m : Int) : m ∈ whichL xs a n ↔ (a ≤ m ∧ m < a + n) ∧ hasBit xs m = true := by
  unfold whichL
  rw [List.mem_filter, List.mem_map]
  constructor
  · rintro ⟨⟨i, hi, rfl⟩, h⟩
    have := List.mem_range.1 hi
    exact ⟨⟨by omega, by omega⟩, h⟩
  · rintro ⟨⟨h1, h2⟩, h⟩
    exact ⟨⟨(m - a).toNat, List.mem_range.2 (by omega), by omega⟩, h⟩
theorem whichL_sorted (xs : List Int) (a : Int) (n : Nat) : (whichL xs a n).Pairwise (· < ·) := by
  unfold whichL
  apply List.Pairwise.filter
  rw [List.pairwise_map]
  exact List.Pairwise.imp (fun h => by omega) List.pairwise_lt_range
theorem whichL_length (xs : List Int) (a : Int) (n : Nat) : (whichL xs a n).length ≤ n := by
  unfold whichL
  exact Nat.le_trans (List.length_filter_le _ _) (by simp)
theorem sorted_ext : ∀ (l k : List Int), l.Pairwise (· < ·) → k.Pairwise (· < ·) → (∀ m, m ∈ l ↔ m ∈ k) → l = k := by
  intro l
  induction l with
  | nil =>
    intro k _ _ h
    cases k with
    | nil => rfl
    | cons b k => exact absurd ((h b).2 (List.mem_cons_self ..)) (by simp)
  | cons a l ih =>
    intro k h1 h2 h
    cases k with
    | nil => exact absurd ((h a).1 (List.mem_cons_self ..)) (by simp)
    | cons b k =>
      rw [List.pairwise_cons] at h1 h2
      have hab : a = b := by
        rcases List.mem_cons.1 ((h a).1 (List.mem_cons_self ..)) with e | e
        · exact e
        · rcases List.mem_cons.1 ((h b).2 (List.mem_cons_self ..)) with e' | e'
          · exact e'.symm
          · have := h2.1 a e
            have := h1.1 b e'
            omega
      subst hab
      congr 1
      apply ih k h1.2 h2.2
      intro m
      constructor
      · intro hm
        rcases List.mem_cons.1 ((h m).1 (List.mem_cons_of_mem _ hm)) with e | e
        · subst e; exact absurd (h1.1 m hm) (by omega)
        · exact e
      · intro hm
        rcases List.mem_cons.1 ((h m).2 (List.mem_cons_of_mem _ hm)) with e | e
        · subst e; exact absurd (h2.1 m hm) (by omega)
        · exact e
theorem scan_sorted (l : List Int) : ∀ was z, scanL was l = some z → l.Pairwise (· < ·) ∧ (∀ x ∈ l, x ≠ 65) ∧ (z = was ∨ z ∈ l) := by
  induction l with
  | nil =>
    intro was z h
    simp only [scanL, Option.some.injEq] at h
    exact ⟨List.Pairwise.nil, fun x hx => (List.not_mem_nil hx).elim, Or.inl h.symm⟩
  | cons n l ih =>
    intro was z h
    have hb := scan_bounds (n :: l) was z h
    simp only [scanL] at h
    by_cases c1 : n ≤ was
    · rw [if_pos c1] at h; cases h
    by_cases c2 : 128 < n
    · rw [if_neg c1, if_pos c2] at h; cases h
    by_cases c3 : n = 65
    · rw [if_neg c1, if_neg c2, if_pos c3] at h; cases h
    rw [if_neg c1, if_neg c2, if_neg c3] at h
    obtain ⟨h1, h2, h3⟩ := ih n z h
    have h4 := scan_bounds l n z h
    refine ⟨List.pairwise_cons.2 ⟨fun x hx => (h4.2 x hx).1, h1⟩, fun x hx => ?_, Or.inr ?_⟩
    · rcases List.mem_cons.1 hx with rfl | hx
      · exact c3
      · exact h2 x hx
    · rcases h3 with rfl | h3
      · exact List.mem_cons_self ..
      · exact List.mem_cons_of_mem _ h3
theorem scan_of (l : List Int) : ∀ was, l.Pairwise (· < ·) → (∀ x ∈ l, was < x ∧ x ≤ 128 ∧ x ≠ 65) → ∃ z, scanL was l = some z := by
  induction l with
  | nil => intro was _ _; exact ⟨was, rfl⟩
  | cons n l ih =>
    intro was h1 h2
    rw [List.pairwise_cons] at h1
    obtain ⟨a, b, c⟩ := h2 n (List.mem_cons_self ..)
    simp only [scanL]
    rw [if_neg (by omega), if_neg (by omega), if_neg c]
    exact ih n h1.2 fun x hx => ⟨h1.1 x hx, (h2 x (List.mem_cons_of_mem _ hx)).2⟩
theorem rd_take (xs : List Int) (k : Nat) (i : Int) (h0 : 0 ≤ i) (h : i < k) : rd (xs.take k) i = rd xs i := by
  unfold rd
  rw [List.getD_eq_getElem?_getD, List.getD_eq_getElem?_getD, List.getElem?_take, if_pos (by omega)]
theorem has_take (xs : List Int) (k : Nat) (m : Int) (h0 : 1 ≤ m) (h : m ≤ 8 * k) : hasBit (xs.take k) m = hasBit xs m := by
  unfold hasBit
  rw [rd_take _ _ _ (by omega) (by omega)]
theorem which_take (xs : List Int) (k : Nat) (a : Int) (n : Nat) (h0 : 1 ≤ a) (h : a + n ≤ 8 * k + 1) : whichL (xs.take k) a n = whichL xs a n := by
  unfold whichL
  apply List.filter_congr
  intro m hm
  obtain ⟨i, hi, rfl⟩ := List.mem_map.1 hm
  have := List.mem_range.1 hi
  exact has_take _ _ _ (by omega) (by omega)

/-- What Parse comes to: the numbers, how many bytes, the error (1: argument, 2: too short, .. as api has them). -/
def parseL (short emap : Int) (l : List Int) : List Int × Int × Int :=
  if l.length < 8 then ([], 0, short)
  else if hasBit l 1 = false then (whichL l 2 63, 8, 0)
  else if l.length < 16 then ([], 0, short)
  else if hasBit l 65 = true then ([], 0, emap)
  else if whichL l 66 63 = [] then ([], 0, emap)
  else (whichL l 2 127, 16, 0)

theorem which_of (xs l : List Int) (a : Int) (n : Nat) (hs : l.Pairwise (· < ·)) (hr : ∀ x ∈ l, a ≤ x ∧ x < a + n) (hh : ∀ m, a ≤ m → m < a + n → hasBit xs m = decide (m ∈ l)) : whichL xs a n = l := by
  apply sorted_ext _ _ (whichL_sorted xs a n) hs
  intro m
  rw [whichL_mem]
  constructor
  · rintro ⟨⟨h1, h2⟩, h3⟩
    rw [hh m h1 h2] at h3
    exact of_decide_eq_true h3
  · intro hm
    obtain ⟨h1, h2⟩ := hr m hm
    exact ⟨⟨h1, h2⟩, by rw [hh m h1 h2]; exact decide_eq_true hm⟩
theorem has_append (xs ys : List Int) (m : Int) (h0 : 1 ≤ m) (h : m ≤ 8 * xs.length) : hasBit (xs ++ ys) m = hasBit xs m := by
  rw [← has_take (xs ++ ys) xs.length m h0 h, List.take_left']
  rfl
theorem which_append (xs ys : List Int) (a : Int) (n : Nat) (h0 : 1 ≤ a) (h : a + n ≤ 8 * xs.length + 1) : whichL (xs ++ ys) a n = whichL xs a n := by
  rw [← which_take (xs ++ ys) xs.length a n h0 h, List.take_left']
  rfl
/-- What is written is parsed, with what stands behind it. -/
theorem parse_written (short emap : Int) (l more : List Int) (z : Int) (h : scanL 1 l = some z) : parseL short emap (bitsOf z l ++ more) = (l, ((bitsOf z l).length : Int), 0) := by
  have hb := scan_bounds l 1 z h
  obtain ⟨hs, h65, hz⟩ := scan_sorted l 1 z h
  have hlen := bitsOf_length z l
  have hh := fun m hm => bitsOf_has l z h m hm
  unfold parseL
  by_cases c : 64 < z
  · rw [if_pos c] at hlen
    have hzl : z ∈ l := hz.resolve_left (by omega)
    have hz128 := (hb.2 z hzl).2.2
    rw [if_neg (by rw [List.length_append]; omega), has_append _ _ 1 (by decide) (by omega), hh 1 (by decide), decide_eq_true (show 64 < z ∧ (1 : Int) = 1 from ⟨c, rfl⟩)]
    rw [if_neg (by simp), if_neg (by rw [List.length_append]; omega), has_append _ _ 65 (by decide) (by omega), hh 65 (by decide), decide_eq_false (show ¬ (64 < z ∧ (65 : Int) = 1) from fun h => by omega), decide_eq_false (show ¬ (65 : Int) ∈ l from fun h => h65 _ h rfl)]
    rw [if_neg (by simp), which_append _ _ 66 63 (by decide) (by omega), which_append _ _ 2 127 (by decide) (by omega)]
    have hne : whichL (bitsOf z l) 66 63 ≠ [] := by
      intro e
      have : z ∈ whichL (bitsOf z l) 66 63 := (whichL_mem _ _ _ _).2 ⟨⟨by have := h65 z hzl; omega, by omega⟩, by rw [hh z (by omega), decide_eq_true hzl]; simp⟩
      rw [e] at this
      cases this
    rw [if_neg hne, which_of _ l 2 127 hs (fun x hx => by have := hb.2 x hx; omega) (fun m h1 h2 => by rw [hh m (by omega), decide_eq_false (show ¬ (64 < z ∧ m = 1) from fun h => by omega)]; simp), hlen]
    rfl
  · rw [if_neg c] at hlen
    rw [if_neg (by rw [List.length_append]; omega), has_append _ _ 1 (by decide) (by omega), hh 1 (by decide), decide_eq_false (show ¬ (64 < z ∧ (1 : Int) = 1) from fun h => c h.1), decide_eq_false (show ¬ (1 : Int) ∈ l from fun h => by have := hb.2 _ h; omega)]
    rw [if_pos (by simp), which_append _ _ 2 63 (by decide) (by omega), which_of _ l 2 63 hs (fun x hx => by have := hb.2 x hx; omega) (fun m h1 h2 => by rw [hh m (by omega), decide_eq_false (show ¬ (64 < z ∧ m = 1) from fun h => by omega)]; simp), hlen]
    rfl
/-- What is parsed, written, is the bytes that it took. -/
theorem write_parsed (short emap : Int) (b q : List Int) (m : Int) (hs : short ≠ 0) (he : emap ≠ 0) (hb : Bytes8 b) (h : parseL short emap b = (q, m, 0)) :
    ∃ k : Nat, m = (k : Int) ∧ k ≤ b.length ∧ (k = 8 ∨ k = 16) ∧ bitmap_Write.f q = some (b.take k, 0) := by
  unfold parseL at h
  by_cases c1 : b.length < 8
  · rw [if_pos c1] at h; exact absurd (congrArg (fun z => z.2.2) h) (by simpa using hs)
  rw [if_neg c1] at h
  have hbt : ∀ k, Bytes8 (b.take k) := fun k x hx => hb x (List.mem_of_mem_take hx)
  by_cases c2 : hasBit b 1 = false
  · rw [if_pos c2, Prod.mk.injEq, Prod.mk.injEq] at h
    obtain ⟨rfl, rfl, _⟩ := h
    have hm : ∀ x, x ∈ whichL b 2 63 ↔ _ := whichL_mem b 2 63
    obtain ⟨z, hz⟩ := scan_of (whichL b 2 63) 1 (whichL_sorted b 2 63) (fun x hx => by have := ((hm x).1 hx).1; omega)
    have hzz : ¬ 64 < z := by
      rcases (scan_sorted _ 1 z hz).2.2 with e | e
      · omega
      · have := ((hm z).1 e).1; omega
    refine ⟨8, rfl, by omega, Or.inl rfl, ?_⟩
    rw [write_some _ z hz]
    congr 2
    have hlen := bitsOf_length z (whichL b 2 63)
    rw [if_neg hzz] at hlen
    apply bytes_ext _ _ (bitsOf_bytes _ _) (hbt 8) (by rw [hlen, List.length_take]; omega)
    intro i h1 h2
    rw [hlen] at h2
    rw [bitsOf_has _ z hz i h1, has_take b 8 i h1 (by omega), decide_eq_false (show ¬ (64 < z ∧ i = 1) from fun h => hzz h.1), Bool.false_or]
    by_cases e : i = 1
    · subst e; rw [c2]; exact decide_eq_false fun h => by have := ((hm 1).1 h).1; omega
    · rw [Bool.eq_iff_iff, decide_eq_true_eq, hm]
      exact ⟨fun h => h.2, fun h => ⟨⟨by omega, by omega⟩, h⟩⟩
  rw [if_neg c2] at h
  by_cases c3 : b.length < 16
  · rw [if_pos c3] at h; exact absurd (congrArg (fun z => z.2.2) h) (by simpa using hs)
  rw [if_neg c3] at h
  by_cases c4 : hasBit b 65 = true
  · rw [if_pos c4] at h; exact absurd (congrArg (fun z => z.2.2) h) (by simpa using he)
  rw [if_neg c4] at h
  by_cases c5 : whichL b 66 63 = []
  · rw [if_pos c5] at h; exact absurd (congrArg (fun z => z.2.2) h) (by simpa using he)
  rw [if_neg c5, Prod.mk.injEq, Prod.mk.injEq] at h
  obtain ⟨rfl, rfl, _⟩ := h
  have hm : ∀ x, x ∈ whichL b 2 127 ↔ _ := whichL_mem b 2 127
  obtain ⟨z, hz⟩ := scan_of (whichL b 2 127) 1 (whichL_sorted b 2 127) (fun x hx => by
    have := (hm x).1 hx
    exact ⟨by omega, by omega, fun e => c4 (by rw [← e]; exact this.2)⟩)
  have hzz : 64 < z := by
    obtain ⟨y, hy⟩ := List.exists_mem_of_ne_nil _ c5
    have h1 := (whichL_mem b 66 63 y).1 hy
    have h2 : y ∈ whichL b 2 127 := (hm y).2 ⟨⟨by omega, by omega⟩, h1.2⟩
    have := (scan_bounds _ 1 z hz).2 y h2
    omega
  refine ⟨16, rfl, by omega, Or.inr rfl, ?_⟩
  rw [write_some _ z hz]
  congr 2
  have hlen := bitsOf_length z (whichL b 2 127)
  rw [if_pos hzz] at hlen
  apply bytes_ext _ _ (bitsOf_bytes _ _) (hbt 16) (by rw [hlen, List.length_take]; omega)
  intro i h1 h2
  rw [hlen] at h2
  rw [bitsOf_has _ z hz i h1, has_take b 16 i h1 (by omega)]
  by_cases e : i = 1
  · subst e
    rw [decide_eq_true (show 64 < z ∧ (1 : Int) = 1 from ⟨hzz, rfl⟩), Bool.true_or]
    cases hc : hasBit b 1
    · exact absurd hc c2
    · rfl
  · rw [decide_eq_false (show ¬ (64 < z ∧ i = 1) from fun h => e h.2), Bool.false_or, Bool.eq_iff_iff, decide_eq_true_eq, hm]
    exact ⟨fun h => h.2, fun h => ⟨⟨by omega, by omega⟩, h⟩⟩
end Go.Proofs.Ytfjfmlajnamlpaa.MB
