/- Plain: those that are due, how many, in what order; who is left. No program in sight. -/
import Derived.Test.YthjcdjanadeobaaHMany
set_option linter.unusedVariables false
set_option linter.unusedSimpArgs false
namespace Go.Proofs.Ythjcdjanadeobaa.Heap

theorem without_back {m : List Item} (u : Uniq m) {x : Item} (hx : x ∈ m) : (without m x.1 ++ [x]).Perm m := by
  obtain ⟨a, b, rfl⟩ := List.append_of_mem hx
  have h : ((a ++ b) ++ [x]).Perm (a ++ x :: b) := by
    rw [List.append_assoc]
    exact List.Perm.append_left a List.perm_append_comm
  exact (List.Perm.append_right [x] (without_of_split u h)).trans h
def dueItems : Nat → List Item → Int → List Item
  | 0, _, _ => []
  | f + 1, m, now => match soonest m with
    | none => []
    | some x => if now < x.2 then [] else x :: dueItems f (without m x.1) now
theorem dueItems_fst : ∀ (f : Nat) (m : List Item) (now : Int), dueOf f m now = (dueItems f m now).map (·.1)
  | 0, m, now => rfl
  | f + 1, m, now => by
    simp only [dueOf, dueItems]
    cases soonest m with
    | none => rfl
    | some x =>
      simp only
      by_cases c : now < x.2
      · rw [if_pos c, if_pos c]; rfl
      · rw [if_neg c, if_neg c, List.map_cons, dueItems_fst f]
theorem dueItems_mem : ∀ (f : Nat) (m : List Item) (now : Int), ∀ x ∈ dueItems f m now, x ∈ m ∧ x.2 ≤ now
  | 0, m, now, x, hx => by simp [dueItems] at hx
  | f + 1, m, now, x, hx => by
    simp only [dueItems] at hx
    cases hm : soonest m with
    | none => rw [hm] at hx; simp at hx
    | some y =>
      rw [hm] at hx
      simp only at hx
      by_cases c : now < y.2
      · rw [if_pos c] at hx; simp at hx
      · rw [if_neg c] at hx
        rcases List.mem_cons.1 hx with rfl | hx
        · exact ⟨(soonest_spec m x hm).1, by omega⟩
        · obtain ⟨a, b⟩ := dueItems_mem f _ now x hx
          exact ⟨((mem_without m _ x).1 a).1, b⟩
theorem dueItems_sorted : ∀ (f : Nat) (m : List Item) (now : Int), (dueItems f m now).Pairwise (fun a b => less a b = true)
  | 0, m, now => List.Pairwise.nil
  | f + 1, m, now => by
    simp only [dueItems]
    cases hm : soonest m with
    | none => exact List.Pairwise.nil
    | some y =>
      simp only
      by_cases c : now < y.2
      · rw [if_pos c]; exact List.Pairwise.nil
      · rw [if_neg c]
        refine List.Pairwise.cons (fun z hz => ?_) (dueItems_sorted f _ now)
        obtain ⟨a, b⟩ := (mem_without m _ z).1 (dueItems_mem f _ now z hz).1
        have h1 := (soonest_spec m y hm).2 z a
        rw [nless_iff] at h1
        rw [less_iff]
        omega
theorem due_count : ∀ (f : Nat) (m : List Item) (now : Int), Uniq m → m.length ≤ f → (dueOf f m now).length = m.countP (fun x => decide (x.2 ≤ now)) ∧ (dueRest f m now).length + m.countP (fun x => decide (x.2 ≤ now)) = m.length
  | 0, m, now, u, h => by
    obtain rfl : m = [] := List.eq_nil_of_length_eq_zero (by omega)
    exact ⟨rfl, rfl⟩
  | f + 1, m, now, u, h => by
    cases hm : soonest m with
    | none =>
      obtain rfl := (soonest_none m).1 hm
      exact ⟨rfl, rfl⟩
    | some x =>
      obtain ⟨h1, h2⟩ := soonest_spec m x hm
      by_cases c : now < x.2
      · obtain ⟨d1, d2⟩ := dueOf_stop (f := f + 1) hm c
        have hz : m.countP (fun x => decide (x.2 ≤ now)) = 0 := by
          rw [List.countP_eq_zero]
          intro y hy
          have := h2 y hy
          rw [nless_iff] at this
          simp only [decide_eq_true_eq]
          omega
        rw [d1, d2, hz]
        exact ⟨rfl, rfl⟩
      · obtain ⟨d1, d2⟩ := dueOf_step (f := f) hm c
        have hb := without_back u h1
        have hl := hb.length_eq
        rw [List.length_append, List.length_singleton] at hl
        obtain ⟨r1, r2⟩ := due_count f (without m x.1) now (uniq_without u x.1) (by omega)
        have hc : m.countP (fun x => decide (x.2 ≤ now)) = (without m x.1).countP (fun x => decide (x.2 ≤ now)) + 1 := by
          rw [← hb.countP_eq, List.countP_append]
          have : decide (x.2 ≤ now) = true := decide_eq_true (by omega)
          simp [this]
        rw [d1, d2, List.length_cons, r1, hc]
        exact ⟨rfl, by omega⟩
theorem dueRest_sub : ∀ (f : Nat) (m : List Item) (now : Int), ∀ x ∈ dueRest f m now, x ∈ m
  | 0, m, now, x, hx => hx
  | f + 1, m, now, x, hx => by
    simp only [dueRest] at hx
    cases hm : soonest m with
    | none => rw [hm] at hx; exact hx
    | some y =>
      rw [hm] at hx
      simp only at hx
      by_cases c : now < y.2
      · rw [if_pos c] at hx; exact hx
      · rw [if_neg c] at hx
        exact ((mem_without m _ x).1 (dueRest_sub f _ now x hx)).1
theorem countP_all {m : List Item} {now : Int} (h : ∀ x ∈ m, x.2 ≤ now) : m.countP (fun x => decide (x.2 ≤ now)) = m.length := by
  rw [List.countP_eq_length]
  intro x hx
  exact decide_eq_true (h x hx)
end Go.Proofs.Ythjcdjanadeobaa.Heap
