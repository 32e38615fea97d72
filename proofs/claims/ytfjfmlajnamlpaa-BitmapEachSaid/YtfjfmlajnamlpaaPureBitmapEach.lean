/- The pure statement of comptoirlaw03.BitmapEach: one number alone is just its bit; two in the wrong order, or twice the same, are refused. No condition. -/
import Derived.Test.YtfjfmlajnamlpaaMBx3
namespace Go.Proofs.Ytfjfmlajnamlpaa.Pure
open Go.RowKit Go.Proofs.Ytfjfmlajnamlpaa.MB Go.Proofs.YtfjfmlajnamlpaaW.PrintWords Go.Proofs.YtfjfmlajnamlpaaW.PrintLast

theorem each_one : ∀ n : Fin 135, comptoirlaw03_BitmapEach.f 300 (n.val : Int) 1 = some true := by decide +kernel
def lastOf (x0 x1 x9 : Int) : Option Bool := if x1 > x0 then (if x1 ≤ 128 then (some ((x9 == 0) == (x1 != 65))) else (some ((x9 == 0) == false))) else (some ((x9 == 0) == false))
theorem loops_eq (x0 m e m0 e0 : Int) (h : lastOf x0 m e = lastOf x0 m0 e0) : ∀ k,
    (∀ x6 x7 x10 x11 x12, comptoirlaw03_BitmapEach.l0 k x0 m x6 x7 e x10 x11 x12 = comptoirlaw03_BitmapEach.l0 k x0 m0 x6 x7 e0 x10 x11 x12) ∧
    (∀ x6 x7 x10 x11 x12 x13, comptoirlaw03_BitmapEach.l1 k x0 m x6 x7 e x10 x11 x12 x13 = comptoirlaw03_BitmapEach.l1 k x0 m0 x6 x7 e0 x10 x11 x12 x13) := by
  unfold lastOf at h
  intro k
  induction k with
  | zero => exact ⟨fun _ _ _ _ _ => rfl, fun _ _ _ _ _ _ => rfl⟩
  | succ k ih =>
    refine ⟨fun x6 x7 x10 x11 x12 => ?_, fun x6 x7 x10 x11 x12 x13 => ?_⟩
    · simp only [comptoirlaw03_BitmapEach.l0, ih.2, h]
    · simp only [comptoirlaw03_BitmapEach.l1, ih.1, ih.2]
theorem scan_two (n m : Int) : scanL 1 [n, m] = if n ≤ 1 then none else if 128 < n then none else if n = 65 then none else if m ≤ n then none else if 128 < m then none else if m = 65 then none else some m := rfl
theorem scan_one (n : Int) : scanL 1 [n] = if n ≤ 1 then none else if 128 < n then none else if n = 65 then none else some n := rfl
theorem write_two (n m : Int) (h : 2 ≤ n ∧ n ≤ 128 ∧ n ≠ 65) : ∃ r, bitmap_Write.f [n, m] = some (r, if n < m ∧ m ≤ 128 ∧ m ≠ 65 then 0 else 1) := by
  obtain ⟨h1, h2, h3⟩ := h
  unfold bitmap_Write.f
  rw [scan_two, if_neg (by omega), if_neg (by omega), if_neg h3]
  by_cases c1 : m ≤ n
  · rw [if_pos c1, if_neg (by omega)]; exact ⟨_, rfl⟩
  by_cases c2 : 128 < m
  · rw [if_neg c1, if_pos c2, if_neg (by omega)]; exact ⟨_, rfl⟩
  by_cases c3 : m = 65
  · rw [if_neg c1, if_neg c2, if_pos c3, if_neg (by omega)]; exact ⟨_, rfl⟩
  rw [if_neg c1, if_neg c2, if_neg c3, if_pos (by omega)]; exact ⟨_, rfl⟩
theorem write_bad (n m : Int) (h : ¬ (2 ≤ n ∧ n ≤ 128 ∧ n ≠ 65)) : bitmap_Write.f [n, m] = some ([], 1) := by
  unfold bitmap_Write.f
  rw [scan_two]
  by_cases c1 : n ≤ 1
  · rw [if_pos c1]
  by_cases c2 : 128 < n
  · rw [if_neg c1, if_pos c2]
  by_cases c3 : n = 65
  · rw [if_neg c1, if_neg c2, if_pos c3]
  exact absurd ⟨by omega, by omega, c3⟩ h
theorem last_good (n m : Int) : lastOf n m (if n < m ∧ m ≤ 128 ∧ m ≠ 65 then 0 else 1) = some true := by
  unfold lastOf
  by_cases c1 : m > n
  · rw [if_pos c1]
    by_cases c2 : m ≤ 128
    · rw [if_pos c2]
      by_cases c3 : m = 65
      · rw [if_neg (by omega)]; subst c3; rfl
      · rw [if_pos (by omega)]
        have : (m != 65) = true := bne_iff_ne.2 c3
        rw [this]; rfl
    · rw [if_neg c2, if_neg (by omega)]; rfl
  · rw [if_neg c1, if_neg (by omega)]; rfl
theorem j0_eq (k : Nat) (n m : Int) (b : Bool) (hb : b = true → 2 ≤ n ∧ n ≤ 128 ∧ n ≠ 65) (hb' : b = false → ¬ (2 ≤ n ∧ n ≤ 128 ∧ n ≠ 65)) :
    comptoirlaw03_BitmapEach.j0 (k + 2) n m b = comptoirlaw03_BitmapEach.j0 (k + 2) n 1 b := by
  cases b with
  | true =>
    obtain ⟨r, hr⟩ := write_two n m (hb rfl)
    obtain ⟨r', hr'⟩ := write_two n 1 (hb rfl)
    have h := (last_good n m).trans (last_good n 1).symm
    simp only [comptoirlaw03_BitmapEach.j0, hr, hr', Option.bind_some, if_true, comptoirlaw03_BitmapEach.j1, (loops_eq n _ _ _ _ h k).1]
  | false => simp only [comptoirlaw03_BitmapEach.j0, write_bad n m (hb' rfl), write_bad n 1 (hb' rfl), Option.bind_some, Bool.false_eq_true, if_false]
theorem small_each (a : Int) : ∃ n : Nat, n < 135 ∧ wrap64 (Int.tmod (IntKind.u64.wrap a) 135) = (n : Int) := by
  have h0 : 0 ≤ IntKind.u64.wrap a := by simp [IntKind.wrap, IntKind.bits, IntKind.signed]; omega
  refine ⟨(Int.tmod (IntKind.u64.wrap a) 135).toNat, ?_, ?_⟩
  · rw [Int.tmod_eq_emod_of_nonneg h0]
    omega
  · rw [Int.tmod_eq_emod_of_nonneg h0]
    unfold wrap64
    omega
theorem small_self (n : Nat) (h : n < 135) : wrap64 (Int.tmod (IntKind.u64.wrap (n : Int)) 135) = (n : Int) := by
  have h1 : IntKind.u64.wrap (n : Int) = (n : Int) := by simp [IntKind.wrap, IntKind.bits, IntKind.signed]; omega
  rw [h1, Int.tmod_eq_emod_of_nonneg (by omega)]
  unfold wrap64
  omega
theorem BitmapEach : comptoirlaw03_BitmapEach.Pure := by
  intro a0 a1 _ _
  obtain ⟨n, hn, e0⟩ := small_each a0
  obtain ⟨m, hm, e1⟩ := small_each a1
  refine ⟨300, ?_⟩
  rw [← each_one ⟨n, hn⟩]
  unfold comptoirlaw03_BitmapEach.f
  rw [e0, e1, small_self n hn, show wrap64 (Int.tmod (IntKind.u64.wrap 1) 135) = 1 from small_self 1 (by decide)]
  by_cases c1 : (n : Int) ≥ 2
  · rw [if_pos c1, if_pos c1]
    by_cases c2 : (n : Int) ≤ 128
    · rw [if_pos c2, if_pos c2]
      exact j0_eq 298 _ _ _ (fun h => ⟨c1, c2, bne_iff_ne.1 h⟩) (fun h => by rw [bne_eq_false_iff_eq] at h; omega)
    · rw [if_neg c2, if_neg c2]
      exact j0_eq 298 _ _ _ (fun h => by cases h) (fun _ => by omega)
  · rw [if_neg c1, if_neg c1]
    exact j0_eq 298 _ _ _ (fun h => by cases h) (fun _ => by omega)

end Go.Proofs.Ytfjfmlajnamlpaa.Pure
