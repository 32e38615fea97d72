/- The pure statement of comptoirlaw13.CodesTell: of any action its words, of any words their action, as the reference tells them. No condition. -/
import Derived.Test.YtahakmhfdogdcaaMCx2
namespace Go.Proofs.Ytahakmhfdogdcaa.Pure
open Go.RowKit Go.Proofs.Ytahakmhfdogdcaa.MC Go.Proofs.YtahakmhfdogdcaaW.PrintWords Go.Proofs.YtahakmhfdogdcaaW.PrintLast

def refT : List ByteArray := (comptoirref07_table.f).getD []
theorem refT_some : comptoirref07_table.f = some refT := rfl
theorem rows_alike : ∀ j : Fin 22, (rdOf ByteArray.empty refT (j.val : Int)).extract 0 3 = (rd_T37 theTable (j.val : Int)).f0 ∧ (rdOf ByteArray.empty refT (j.val : Int)).extract 3 7 = (rd_T37 theTable (j.val : Int)).f1 ∧ (rdOf ByteArray.empty refT (j.val : Int)).extract 7 (rdOf ByteArray.empty refT (j.val : Int)).size = (rd_T37 theTable (j.val : Int)).f2 ∧ (rdOf ByteArray.empty refT (j.val : Int)).size = 11 := by decide +kernel
theorem toList_inj {a b : ByteArray} (h : a.toList = b.toList) : a = b := by
  have h1 : a.data.toList = b.data.toList := by rw [← ByteArray.toList_eq, ← ByteArray.toList_eq]; exact h
  have : a.data = b.data := Array.toList_inj.1 h1
  cases a; cases b; simp_all

theorem words_found : ∀ j : Fin 22, comptoirref07_Words.f 30 (rd_T37 theTable (j.val : Int)).f0 = codes_Words.f (rd_T37 theTable (j.val : Int)).f0 := by decide +kernel
theorem words_miss (a : ByteArray) (h : ∀ j : Nat, j < 22 → (rd_T37 theTable (j : Int)).f0.toList ≠ a.toList) (d : Nat) : ∀ (k i : Nat), i + d = 22 → d < k → comptoirref07_Words.l0 k a refT (i : Int) = some (⟨#[]⟩, ⟨#[]⟩, false) := by
  induction d with
  | zero =>
    intro k i hi hk
    obtain ⟨k, rfl⟩ : ∃ m, k = m + 1 := ⟨k - 1, by omega⟩
    simp only [comptoirref07_Words.l0]
    rw [if_neg (by have : refT.length = 22 := rfl; omega)]
  | succ d ih =>
    intro k i hi hk
    obtain ⟨k, rfl⟩ : ∃ m, k = m + 1 := ⟨k - 1, by omega⟩
    have hr := rows_alike ⟨i, by omega⟩
    simp only at hr
    obtain ⟨h1, h2, h3, h4⟩ := hr
    simp only [comptoirref07_Words.l0]
    rw [if_pos (by have : refT.length = 22 := rfl; omega), if_pos (by omega), if_pos (by omega), if_pos (by rw [h4]; omega), h1, if_neg (h i (by omega)), show wrap64 ((i : Int) + 1) = ((i + 1 : Nat) : Int) from by unfold wrap64; omega]
    exact ih k (i + 1) (by omega) (by omega)
theorem words_eq (a : ByteArray) : comptoirref07_Words.f 30 a = codes_Words.f a := by
  by_cases h : ∃ j : Nat, j < 22 ∧ (rd_T37 theTable (j : Int)).f0.toList = a.toList
  · obtain ⟨j, hj, e⟩ := h
    obtain rfl := toList_inj e
    exact words_found ⟨j, hj⟩
  · have h' : ∀ j : Nat, j < 22 → (rd_T37 theTable (j : Int)).f0.toList ≠ a.toList := fun j hj e => h ⟨j, hj, e⟩
    have hm : idxOf (actionIs a) theTable = -1 := idx_miss _ _ (fun j hj => by
      unfold actionIs
      rw [beq_eq_false_iff_ne]
      exact h' j (by have : theTable.length = 22 := rfl; omega))
    unfold comptoirref07_Words.f codes_Words.f findOf
    rw [hm, refT_some, Option.bind_some]
    exact words_miss a h' 22 30 0 rfl (by omega)

theorem action_found : ∀ j : Fin 22, comptoirref07_Action.f 30 (rd_T37 theTable (j.val : Int)).f1 (rd_T37 theTable (j.val : Int)).f2 = codes_Action.f (rd_T37 theTable (j.val : Int)).f1 (rd_T37 theTable (j.val : Int)).f2 := by decide +kernel
theorem action_miss (a b : ByteArray) (h : ∀ j : Nat, j < 22 → (rd_T37 theTable (j : Int)).f1.toList = a.toList → (rd_T37 theTable (j : Int)).f2.toList ≠ b.toList) (d : Nat) : ∀ (k i : Nat), i + d = 22 → d < k → comptoirref07_Action.l0 k a b refT (i : Int) = some (⟨#[]⟩, false) := by
  induction d with
  | zero =>
    intro k i hi hk
    obtain ⟨k, rfl⟩ : ∃ m, k = m + 1 := ⟨k - 1, by omega⟩
    simp only [comptoirref07_Action.l0]
    rw [if_neg (by have : refT.length = 22 := rfl; omega)]
  | succ d ih =>
    intro k i hi hk
    obtain ⟨k, rfl⟩ : ∃ m, k = m + 1 := ⟨k - 1, by omega⟩
    have hr := rows_alike ⟨i, by omega⟩
    simp only at hr
    obtain ⟨h1, h2, h3, h4⟩ := hr
    simp only [comptoirref07_Action.l0]
    rw [if_pos (by have : refT.length = 22 := rfl; omega), if_pos (by omega), if_pos (by omega), if_pos (by rw [h4]; omega), h2, h3, show wrap64 ((i : Int) + 1) = ((i + 1 : Nat) : Int) from by unfold wrap64; omega]
    by_cases e : (rd_T37 theTable (i : Int)).f1.toList = a.toList
    · rw [if_pos e, if_neg (h i (by omega) e)]
      exact ih k (i + 1) (by omega) (by omega)
    · rw [if_neg e]
      exact ih k (i + 1) (by omega) (by omega)
theorem action_eq (a b : ByteArray) : comptoirref07_Action.f 30 a b = codes_Action.f a b := by
  by_cases h : ∃ j : Nat, j < 22 ∧ (rd_T37 theTable (j : Int)).f1.toList = a.toList ∧ (rd_T37 theTable (j : Int)).f2.toList = b.toList
  · obtain ⟨j, hj, e1, e2⟩ := h
    obtain rfl := toList_inj e1
    obtain rfl := toList_inj e2
    exact action_found ⟨j, hj⟩
  · have h' : ∀ j : Nat, j < 22 → (rd_T37 theTable (j : Int)).f1.toList = a.toList → (rd_T37 theTable (j : Int)).f2.toList ≠ b.toList := fun j hj e1 e2 => h ⟨j, hj, e1, e2⟩
    have hm : idxOf (wordsAre a b) theTable = -1 := idx_miss _ _ (fun j hj => by
      have := h' j (by have : theTable.length = 22 := rfl; omega)
      unfold wordsAre
      by_cases e : (rd_T37 theTable (j : Int)).f1.toList = a.toList
      · rw [beq_eq_false_iff_ne.2 (this e), Bool.and_false]
      · rw [beq_eq_false_iff_ne.2 e, Bool.false_and])
    unfold comptoirref07_Action.f codes_Action.f findOf
    rw [hm, refT_some, Option.bind_some]
    exact action_miss a b h' 22 30 0 rfl (by omega)

theorem known_eq (a : ByteArray) : comptoirref07_Known.f 30 a = codes_Known.f a := by
  unfold comptoirref07_Known.f codes_Known.f
  rw [words_eq]
theorem yes_eq (a : ByteArray) : comptoirref07_Yes.f 30 a = codes_Yes.f a := by
  unfold comptoirref07_Yes.f codes_Yes.f
  rw [words_eq]
theorem awake_tell : comptoirlaw13_awake.f = some true := by kernel_rfl
theorem all_tell : (codes_All.f 30).bind (fun t => (comptoirref07_Actions.f 30).bind fun u => (comptoirhelp_Plain_string.f t u).bind fun v => some v) = some true := by kernel_rfl
theorem yes_some (a : ByteArray) : ∃ b, codes_Yes.f a = some b := by
  unfold codes_Yes.f codes_Words.f
  rw [Option.bind_some]
  split <;> exact ⟨_, rfl⟩

theorem CodesTell : comptoirlaw13_CodesTell.Pure := by
  intro a0 a1 a2 _ _ _
  refine ⟨30, ?_⟩
  unfold comptoirlaw13_CodesTell.f
  rw [words_eq, action_eq, known_eq, yes_eq, awake_tell]
  obtain ⟨y, hy⟩ := yes_some a0
  rw [hy]
  unfold codes_Known.f
  unfold codes_Words.f codes_Action.f
  simp only [Option.bind_some, if_true, beq_self_eq_true]
  exact all_tell

end Go.Proofs.Ytahakmhfdogdcaa.Pure
