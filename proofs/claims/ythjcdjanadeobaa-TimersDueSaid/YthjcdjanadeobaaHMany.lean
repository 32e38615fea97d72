/- Plain: what timers hold, in whatever order: without an id, the first one, those that are due. No program in sight. -/
import Derived.Test.YthjcdjanadeobaaHHeap
set_option linter.unusedVariables false
set_option linter.unusedSimpArgs false
namespace Go.Proofs.Ythjcdjanadeobaa.Heap

def without (m : List Item) (id : Int) : List Item := m.filter (fun x => decide (x.1 ≠ id))
def Uniq (m : List Item) : Prop := (m.map (·.1)).Nodup
def has (m : List Item) (id : Int) : Bool := m.any (fun x => decide (x.1 = id))
theorem has_iff (m : List Item) (id : Int) : has m id = true ↔ ∃ x ∈ m, x.1 = id := by simp [has]
theorem mem_without (m : List Item) (id : Int) (x : Item) : x ∈ without m id ↔ x ∈ m ∧ x.1 ≠ id := by simp [without]
theorem without_perm {m m' : List Item} (h : m.Perm m') (id : Int) : (without m id).Perm (without m' id) := h.filter _
theorem has_perm {m m' : List Item} (h : m.Perm m') (id : Int) : has m id = has m' id := by
  rw [Bool.eq_iff_iff, has_iff, has_iff]
  exact ⟨fun ⟨x, a, b⟩ => ⟨x, h.mem_iff.1 a, b⟩, fun ⟨x, a, b⟩ => ⟨x, h.mem_iff.2 a, b⟩⟩
theorem uniq_perm {m m' : List Item} (h : m.Perm m') (u : Uniq m) : Uniq m' := (h.map _).nodup u
theorem uniq_without {m : List Item} (u : Uniq m) (id : Int) : Uniq (without m id) := List.Nodup.sublist (List.Sublist.map _ List.filter_sublist) u
theorem without_none {m : List Item} {id : Int} (h : ∀ x ∈ m, x.1 ≠ id) : without m id = m := List.filter_eq_self.2 (fun x hx => by simpa using h x hx)
theorem without_append (m m' : List Item) (id : Int) : without (m ++ m') id = without m id ++ without m' id := List.filter_append ..
theorem uniq_set {m : List Item} (u : Uniq m) (id at' : Int) : Uniq (without m id ++ [(id, at')]) := by
  unfold Uniq
  rw [List.map_append, List.nodup_append]
  refine ⟨uniq_without u id, by simp, fun a ha b hb => ?_⟩
  simp at hb
  subst hb
  obtain ⟨x, hx, rfl⟩ := List.mem_map.1 ha
  exact ((mem_without m b x).1 hx).2
theorem uniq_mem {m : List Item} (u : Uniq m) {x y : Item} (hx : x ∈ m) (hy : y ∈ m) (e : x.1 = y.1) : x = y := by
  induction m with
  | nil => cases hx
  | cons a m ih =>
    have u' : (a.1 :: m.map (·.1)).Nodup := u
    rw [List.nodup_cons] at u'
    rcases List.mem_cons.1 hx with rfl | hx' <;> rcases List.mem_cons.1 hy with rfl | hy'
    · rfl
    · exact absurd (List.mem_map.2 ⟨y, hy', e.symm⟩) u'.1
    · exact absurd (List.mem_map.2 ⟨x, hx', e⟩) u'.1
    · exact ih u'.2 hx' hy'
/-- One item out of a list in which its id stands once. -/
theorem without_of_split {m r : List Item} {x : Item} (u : Uniq m) (h : (r ++ [x]).Perm m) : (without m x.1).Perm r := by
  have u' : Uniq (r ++ [x]) := uniq_perm h.symm u
  have h1 : (without m x.1).Perm (without (r ++ [x]) x.1) := (without_perm h x.1).symm
  have hx : ∀ y ∈ r, y.1 ≠ x.1 := by
    intro y hy e
    unfold Uniq at u'
    rw [List.map_append, List.nodup_append] at u'
    exact u'.2.2 y.1 (List.mem_map.2 ⟨y, hy, rfl⟩) x.1 (by simp) e
  rw [without_append, without_none hx] at h1
  have h2 : without [x] x.1 = [] := by simp [without]
  rw [h2, List.append_nil] at h1
  exact h1
theorem without_length {m : List Item} (u : Uniq m) {x : Item} (hx : x ∈ m) : (without m x.1).length + 1 = m.length := by
  obtain ⟨a, b, rfl⟩ := List.append_of_mem hx
  have h : ((a ++ b) ++ [x]).Perm (a ++ x :: b) := by
    rw [List.append_assoc]
    exact List.Perm.append_left a List.perm_append_comm
  have := (without_of_split u h).length_eq
  rw [this]
  simp; omega
def soonest : List Item → Option Item
  | [] => none
  | x :: m => match soonest m with
    | none => some x
    | some y => if less y x = true then some y else some x
theorem soonest_none (m : List Item) : soonest m = none ↔ m = [] := by
  cases m with
  | nil => simp [soonest]
  | cons x m =>
    simp only [soonest]
    split
    · simp
    · split <;> simp
theorem soonest_spec : ∀ (m : List Item) (x : Item), soonest m = some x → x ∈ m ∧ ∀ y ∈ m, ¬ less y x = true
  | [], x, h => by simp [soonest] at h
  | a :: m, x, h => by
    simp only [soonest] at h
    cases hm : soonest m with
    | none =>
      rw [hm] at h
      have := (soonest_none m).1 hm
      subst this
      injection h with h
      subst h
      exact ⟨by simp, fun y hy => by simp at hy; subst hy; exact irrefl _⟩
    | some b =>
      rw [hm] at h
      simp only at h
      obtain ⟨h1, h2⟩ := soonest_spec m b hm
      by_cases c : less b a = true
      · rw [if_pos c] at h
        injection h with h
        subst h
        refine ⟨List.mem_cons_of_mem _ h1, fun y hy => ?_⟩
        rcases List.mem_cons.1 hy with rfl | hy
        · exact asymm c
        · exact h2 y hy
      · rw [if_neg c] at h
        injection h with h
        subst h
        refine ⟨by simp, fun y hy => ?_⟩
        rcases List.mem_cons.1 hy with rfl | hy
        · exact irrefl _
        · exact nless_trans (h2 y hy) c
theorem soonest_is {m : List Item} {x : Item} (hx : x ∈ m) (h : ∀ y ∈ m, ¬ less y x = true) : soonest m = some x := by
  cases hm : soonest m with
  | none => rw [soonest_none] at hm; subst hm; cases hx
  | some b =>
    obtain ⟨h1, h2⟩ := soonest_spec m b hm
    rw [eq_of_nless (h b h1) (h2 x hx)]
theorem soonest_perm {m m' : List Item} (h : m.Perm m') : soonest m = soonest m' := by
  cases hm : soonest m with
  | none =>
    rw [soonest_none] at hm
    subst hm
    rw [List.nil_perm.1 h]; rfl
  | some b =>
    obtain ⟨h1, h2⟩ := soonest_spec m b hm
    exact (soonest_is (h.mem_iff.1 h1) (fun y hy => h2 y (h.mem_iff.2 hy))).symm
/-- Those that are due, one behind the other; who is left. -/
def dueOf : Nat → List Item → Int → List Int
  | 0, _, _ => []
  | f + 1, m, now => match soonest m with
    | none => []
    | some x => if now < x.2 then [] else x.1 :: dueOf f (without m x.1) now
def dueRest : Nat → List Item → Int → List Item
  | 0, m, _ => m
  | f + 1, m, now => match soonest m with
    | none => m
    | some x => if now < x.2 then m else dueRest f (without m x.1) now
theorem dueOf_none {f : Nat} {m : List Item} {now : Int} (h : soonest m = none) : dueOf f m now = [] ∧ dueRest f m now = m := by
  cases f <;> simp [dueOf, dueRest, h]
theorem dueOf_stop {f : Nat} {m : List Item} {now : Int} {x : Item} (h : soonest m = some x) (hn : now < x.2) : dueOf f m now = [] ∧ dueRest f m now = m := by
  cases f <;> simp [dueOf, dueRest, h, hn]
theorem dueOf_step {f : Nat} {m : List Item} {now : Int} {x : Item} (h : soonest m = some x) (hn : ¬ now < x.2) : dueOf (f + 1) m now = x.1 :: dueOf f (without m x.1) now ∧ dueRest (f + 1) m now = dueRest f (without m x.1) now := by
  simp [dueOf, dueRest, h, hn]
theorem dueOf_perm : ∀ (f : Nat) {m m' : List Item} (now : Int), m.Perm m' → dueOf f m now = dueOf f m' now ∧ (dueRest f m now).Perm (dueRest f m' now)
  | 0, m, m', now, h => ⟨rfl, h⟩
  | f + 1, m, m', now, h => by
    have e := soonest_perm h
    simp only [dueOf, dueRest]
    rw [← e]
    cases hm : soonest m with
    | none => exact ⟨rfl, h⟩
    | some x =>
      simp only
      by_cases c : now < x.2
      · rw [if_pos c, if_pos c, if_pos c, if_pos c]; exact ⟨rfl, h⟩
      · rw [if_neg c, if_neg c, if_neg c, if_neg c]
        obtain ⟨a, b⟩ := dueOf_perm f now (without_perm h x.1)
        exact ⟨by rw [a], b⟩
theorem without_le (m : List Item) (id : Int) : (without m id).length ≤ m.length := List.length_filter_le _ _
theorem dueOf_length : ∀ (f : Nat) (m : List Item) (now : Int), (dueOf f m now).length ≤ f
  | 0, m, now => by simp [dueOf]
  | f + 1, m, now => by
    simp only [dueOf]
    split
    · simp
    · split
      · simp
      · simp only [List.length_cons]
        exact Nat.succ_le_succ (dueOf_length f _ now)
theorem dueRest_uniq : ∀ (f : Nat) {m : List Item} (now : Int), Uniq m → Uniq (dueRest f m now)
  | 0, m, now, u => u
  | f + 1, m, now, u => by
    simp only [dueRest]
    split
    · exact u
    · split
      · exact u
      · exact dueRest_uniq f now (uniq_without u _)
theorem heap_least {l : List Item} (h : IsHeap l l.length) (h0 : 0 < l.length) : soonest l = some (at_ l 0) := by
  refine soonest_is (by rw [at_get l 0 h0]; exact List.getElem_mem h0) (fun y hy => ?_)
  obtain ⟨i, hi, rfl⟩ := List.getElem_of_mem hy
  rw [← at_get]
  exact least_first l l.length (Nat.le_refl _) h i hi
end Go.Proofs.Ythjcdjanadeobaa.Heap
