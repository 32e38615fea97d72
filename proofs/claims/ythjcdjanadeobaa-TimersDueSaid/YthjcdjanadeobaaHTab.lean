/- Plain: timers given by a table: which ids below n are set, and to what. No program in sight. -/
import Derived.Test.YthjcdjanadeobaaHMany
set_option linter.unusedVariables false
set_option linter.unusedSimpArgs false
namespace Go.Proofs.Ythjcdjanadeobaa.Heap

def tab (n : Nat) (P : Nat → Bool) (V : Nat → Int) : List Item := ((List.range n).filter P).map (fun j : Nat => ((j : Int), V j))
theorem mem_tab {n : Nat} {P : Nat → Bool} {V : Nat → Int} {x : Item} : x ∈ tab n P V ↔ ∃ j : Nat, j < n ∧ P j = true ∧ x = ((j : Int), V j) := by
  unfold tab
  simp only [List.mem_map, List.mem_filter, List.mem_range]
  constructor
  · rintro ⟨j, ⟨a, b⟩, rfl⟩; exact ⟨j, a, b, rfl⟩
  · rintro ⟨j, a, b, rfl⟩; exact ⟨j, ⟨a, b⟩, rfl⟩
theorem tab_congr {n : Nat} {P Q : Nat → Bool} {V U : Nat → Int} (hP : ∀ j, j < n → P j = Q j) (hV : ∀ j, j < n → Q j = true → V j = U j) : tab n P V = tab n Q U := by
  unfold tab
  have e : (List.range n).filter P = (List.range n).filter Q := List.filter_congr (fun j hj => hP j (List.mem_range.1 hj))
  rw [e]
  apply List.map_congr_left
  intro j hj
  rw [List.mem_filter, List.mem_range] at hj
  rw [hV j hj.1 hj.2]
theorem tab_without (n : Nat) (P : Nat → Bool) (V : Nat → Int) (i : Nat) : without (tab n P V) (i : Int) = tab n (fun j => P j && decide (j ≠ i)) V := by
  unfold tab without
  rw [List.filter_map, List.filter_filter]
  congr 1
  apply List.filter_congr
  intro j _
  simp only [Function.comp]
  by_cases c : j = i
  · subst c; simp
  · have : (j : Int) ≠ (i : Int) := by omega
    simp [c, this]
theorem tab_zero (P : Nat → Bool) (V : Nat → Int) : tab 0 P V = [] := rfl
theorem tab_none {n : Nat} {P : Nat → Bool} (V : Nat → Int) (h : ∀ j, j < n → P j = false) : tab n P V = [] := by
  unfold tab
  rw [List.filter_eq_nil_iff.2 (fun j hj => by rw [h j (List.mem_range.1 hj)]; simp)]
  rfl
/-- One more. -/
theorem tab_add {n : Nat} {P Q : Nat → Bool} {V U : Nat → Int} {i : Nat} (hi : i < n) (hP : P i = false) (hQ : Q i = true) (he : ∀ j, j < n → j ≠ i → Q j = P j) (hV : ∀ j, j < n → P j = true → U j = V j) : (tab n P V ++ [((i : Int), U i)]).Perm (tab n Q U) := by
  have h1 : ((List.range n).filter P ++ [i]).Perm ((List.range n).filter Q) := by
    refine (List.perm_ext_iff_of_nodup ?_ ((List.nodup_range).filter _)).2 (fun j => ?_)
    · rw [List.nodup_append]
      refine ⟨(List.nodup_range).filter _, by simp, fun a ha b hb => ?_⟩
      simp only [List.mem_singleton] at hb
      subst hb
      rintro rfl
      rw [List.mem_filter] at ha
      rw [hP] at ha
      exact absurd ha.2 (by simp)
    · rw [List.mem_append, List.mem_filter, List.mem_filter, List.mem_singleton, List.mem_range]
      constructor
      · rintro (⟨a, b⟩ | rfl)
        · refine ⟨a, ?_⟩
          by_cases c : j = i
          · subst c; exact hQ
          · rw [he j a c]; exact b
        · exact ⟨hi, hQ⟩
      · rintro ⟨a, b⟩
        by_cases c : j = i
        · exact .inr c
        · rw [he j a c] at b
          exact .inl ⟨a, b⟩
  have h2 := h1.map (fun j : Nat => ((j : Int), U j))
  rw [List.map_append, List.map_singleton] at h2
  have h3 : ((List.range n).filter P).map (fun j : Nat => ((j : Int), U j)) = tab n P V := by
    unfold tab
    apply List.map_congr_left
    intro j hj
    rw [List.mem_filter, List.mem_range] at hj
    rw [hV j hj.1 hj.2]
  rw [h3] at h2
  exact h2
theorem tab_length (n : Nat) (P : Nat → Bool) (V : Nat → Int) : (tab n P V).length = (List.range n).countP P := by
  unfold tab
  rw [List.length_map, List.countP_eq_length_filter]
theorem tab_le (n : Nat) (P : Nat → Bool) (V : Nat → Int) : (tab n P V).length ≤ n := by
  rw [tab_length]
  refine Nat.le_trans List.countP_le_length ?_
  rw [List.length_range]; exact Nat.le_refl _
theorem has_tab (n : Nat) (P : Nat → Bool) (V : Nat → Int) (i : Nat) : has (tab n P V) (i : Int) = (decide (i < n) && P i) := by
  rw [Bool.eq_iff_iff, has_iff, Bool.and_eq_true, decide_eq_true_eq]
  constructor
  · rintro ⟨x, hx, e⟩
    obtain ⟨j, a, b, rfl⟩ := mem_tab.1 hx
    have : j = i := by simp only at e; omega
    subst this
    exact ⟨a, b⟩
  · rintro ⟨a, b⟩
    exact ⟨_, mem_tab.2 ⟨i, a, b, rfl⟩, rfl⟩
end Go.Proofs.Ythjcdjanadeobaa.Heap
