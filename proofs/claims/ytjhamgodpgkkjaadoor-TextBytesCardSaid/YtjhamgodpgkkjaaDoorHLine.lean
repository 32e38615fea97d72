/- Plain: which lists of bytes are plain. No program in sight. -/
import Derived.Test.YtjhamgodpgkkjaaDoorHRune
namespace Go.Proofs.YtjhamgodpgkkjaaDoor.MT
open Go.RowKit Go.Proofs.YtjhamgodpgkkjaaDoorW.PrintWords Go.Proofs.YtjhamgodpgkkjaaDoorW.PrintLast Go.Proofs.YtjhamgodpgkkjaaDoorW.PrintMore

theorem plainL_iff (l : List UInt8) (low top : Int) : plainL l low top = true ↔ ∃ m, cnt l = some m ∧ low ≤ (m : Int) ∧ (m : Int) ≤ top ∧ (∀ b ∈ l, 32 ≤ b.toNat) ∧ l.head? ≠ some 32 ∧ l.getLast? ≠ some 32 := by
  unfold plainL
  cases hc : cnt l with
  | none => simp
  | some m =>
    simp only [Bool.and_eq_true, decide_eq_true_eq, List.all_eq_true, Bool.not_eq_true', beq_eq_false_iff_ne, ne_eq, Option.some.injEq]
    constructor
    · rintro ⟨h1, h2, h3, h4, h5⟩; exact ⟨m, rfl, h1, h2, h3, h4, h5⟩
    · rintro ⟨_, rfl, h1, h2, h3, h4, h5⟩; exact ⟨h1, h2, h3, h4, h5⟩
theorem plainL_head (l : List UInt8) (low top : Int) (h : l.head? = some 32) : plainL l low top = false := by
  rw [Bool.eq_false_iff]
  intro h'
  obtain ⟨_, _, _, _, _, hh, _⟩ := (plainL_iff _ _ _).1 h'
  exact hh h
theorem plainL_last (l : List UInt8) (low top : Int) (h : l.getLast? = some 32) : plainL l low top = false := by
  rw [Bool.eq_false_iff]
  intro h'
  obtain ⟨_, _, _, _, _, _, hh⟩ := (plainL_iff _ _ _).1 h'
  exact hh h
theorem plainL_low (l : List UInt8) (low top : Int) (b : UInt8) (hb : b ∈ l) (h : b.toNat < 32) : plainL l low top = false := by
  rw [Bool.eq_false_iff]
  intro h'
  obtain ⟨_, _, _, _, ha, _, _⟩ := (plainL_iff _ _ _).1 h'
  have := ha b hb
  omega
theorem plainL_top (l : List UInt8) (n t : Int) (m : Nat) (hm : cnt l = some m) (h : plainL l 0 t = true) : plainL l 0 n = decide ((m : Int) ≤ n) := by
  obtain ⟨m', hm', _, _, ha, hh, hl⟩ := (plainL_iff _ _ _).1 h
  rw [Bool.eq_iff_iff, plainL_iff, decide_eq_true_eq]
  constructor
  · rintro ⟨m2, h2, _, h3, _⟩; rw [hm] at h2; cases h2; exact h3
  · intro h3; exact ⟨m, hm, by omega, h3, ha, hh, hl⟩
theorem plainL_least (l : List UInt8) (n t : Int) (m : Nat) (hm : cnt l = some m) (h : plainL l 0 t = true) : plainL l n t = decide (n ≤ (m : Int)) := by
  obtain ⟨m', hm', _, ht, ha, hh, hl⟩ := (plainL_iff _ _ _).1 h
  obtain rfl : m' = m := by rw [hm] at hm'; cases hm'; rfl
  rw [Bool.eq_iff_iff, plainL_iff, decide_eq_true_eq]
  constructor
  · rintro ⟨m2, h2, h3, _⟩; rw [hm] at h2; cases h2; exact h3
  · intro h3; exact ⟨m', hm, h3, ht, ha, hh, hl⟩
theorem cnt_blank : cnt [32] = some 1 := by rw [cnt_byte]; rfl
theorem plainL_two (l : List UInt8) (hne : l ≠ []) (h : plainL l 0 300 = true) : plainL (l ++ 32 :: l) 0 700 = true := by
  obtain ⟨m, hm, _, ht, ha, hh, hl⟩ := (plainL_iff _ _ _).1 h
  have h1 : cnt (32 :: l) = some (1 + m) := by
    have := cnt_app l 1 [32] 1 (by simp) cnt_blank
    rw [List.singleton_append, hm] at this
    exact this
  have h2 : cnt (l ++ 32 :: l) = some (m + (1 + m)) := by
    rw [cnt_app (32 :: l) l.length l m (Nat.le_refl _) hm, h1]; rfl
  refine (plainL_iff _ _ _).2 ⟨_, h2, by omega, by omega, fun b hb => ?_, ?_, ?_⟩
  · rcases List.mem_append.1 hb with hb | hb
    · exact ha b hb
    · rcases List.mem_cons.1 hb with rfl | hb
      · decide
      · exact ha b hb
  · rw [List.head?_append]
    cases l with
    | nil => exact absurd rfl hne
    | cons a l => exact hh
  · rw [List.getLast?_append]
    cases l with
    | nil => exact absurd rfl hne
    | cons a l =>
      rw [List.getLast?_cons_cons]
      cases hq : (a :: l).getLast? with
      | none => simp at hq
      | some q => rw [hq] at hl; exact hl
end Go.Proofs.YtjhamgodpgkkjaaDoor.MT
