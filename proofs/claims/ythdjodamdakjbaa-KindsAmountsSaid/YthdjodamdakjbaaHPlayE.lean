/- comptoirplay's pieces, by what they leave: the actions. -/
import Derived.Test.YthdjodamdakjbaaHPlayA
import Derived.Test.YthdjodamdakjbaaHPrA
namespace Go.Proofs.Ythdjodamdakjbaa.MK
open Go.RowKit Go.Proofs.YthdjodamdakjbaaW.PrintWords Go.Proofs.YthdjodamdakjbaaW.PrintLast Go.Proofs.YthdjodamdakjbaaW.PrintMore
set_option linter.unusedVariables false
set_option linter.unusedSimpArgs false

theorem rd_str (l : List ByteArray) (i : Nat) (h : i < l.length) : rdOf ByteArray.empty l (i : Int) = l[i] := by
  simp [rdOf, List.getD_eq_getElem?_getD, h]
theorem words_from (s : ByteArray) (l : List ByteArray) (hl : l.length ≤ 1000) (hs : ∀ x ∈ l, 7 ≤ x.size) : ∀ (d i k : Nat), i + d = l.length → d < k → ∃ (a b : ByteArray) (c : Bool), comptoirref07_Words.l0 k s l (i : Int) = some (a, b, c) ∧ (c = true → 1 ≤ s.size)
  | 0, i, 0, _, hk => by omega
  | 0, i, k + 1, hi, _ => by
    simp only [comptoirref07_Words.l0]
    rw [if_neg (by omega)]
    exact ⟨_, _, _, rfl, fun h => absurd h (by decide)⟩
  | d + 1, i, 0, _, hk => by omega
  | d + 1, i, k + 1, hi, hk => by
    have h1 : i < l.length := by omega
    have h2 : wrap64 ((i : Int) + 1) = ((i + 1 : Nat) : Int) := by unfold wrap64; omega
    have h7 : 7 ≤ l[i].size := hs _ (List.getElem_mem h1)
    simp only [comptoirref07_Words.l0]
    rw [rd_str l i h1, if_pos (by omega), if_pos (by omega), if_pos (by omega), if_pos (by omega)]
    by_cases e : (l[i].extract 0 3).toList = s.toList
    · rw [if_pos e, if_pos (by omega), if_pos (by omega)]
      refine ⟨_, _, _, rfl, fun _ => ?_⟩
      have h3 : (l[i].extract 0 3).size = 3 := by rw [ByteArray.size_extract]; omega
      have h4 : ∀ t : ByteArray, t.toList.length = t.size := fun t => by rw [ByteArray.toList_eq]; rfl
      rw [← h4, ← e, h4]
      omega
    · rw [if_neg e, h2]
      exact words_from s l hl hs d (i + 1) k (by omega) (by omega)
def actionTable : List ByteArray := (comptoirref07_table.f).getD []
theorem table_is : comptoirref07_table.f = some actionTable := by kernel_rfl
theorem table_good : actionTable.length ≤ 1000 ∧ ∀ x ∈ actionTable, 7 ≤ x.size := by
  have h : (decide (actionTable.length ≤ 1000) && actionTable.all (fun x => decide (7 ≤ x.size))) = true := by kernel_rfl
  rw [Bool.and_eq_true, decide_eq_true_eq, List.all_eq_true] at h
  exact ⟨h.1, fun x hx => of_decide_eq_true (h.2 x hx)⟩
/-- If it is known, it is something. -/
def Real (s : ByteArray) (b : Bool) : Prop := b = true → 1 ≤ s.size
theorem known_x (s : ByteArray) (w : World) : Calls Try.prog 36 #[.string s] w (OutB (Real s) w) := by
  obtain ⟨a, b, c, h, hc⟩ := words_from s actionTable table_good.1 table_good.2 actionTable.length 0 (actionTable.length + 1) (by omega) (by omega)
  have hf : comptoirref07_Known.f (actionTable.length + 1) s = some c := by
    unfold comptoirref07_Known.f comptoirref07_Words.f
    rw [table_is, Option.bind_some]
    have h' : comptoirref07_Words.l0 (actionTable.length + 1) s actionTable 0 = some (a, b, c) := h
    rw [h', Option.bind_some]
  exact (comptoirref07_Known.calls _ s c w hf).mono fun e w' h => ⟨c, h.1, hc, h.2⟩
def actionList : List ByteArray := (comptoirref07_Actions.f 100).getD []
theorem actions_is : comptoirref07_Actions.f 100 = some actionList := by kernel_rfl
theorem actions_good : 0 < actionList.length ∧ actionList.length ≤ 1000 ∧ ∀ x ∈ actionList, Some1 x := by
  have h : (decide (0 < actionList.length) && (decide (actionList.length ≤ 1000) && actionList.all (fun x => decide (1 ≤ x.size) && decide (x.size ≤ 140737488355328)))) = true := by kernel_rfl
  rw [Bool.and_eq_true, Bool.and_eq_true, decide_eq_true_eq, decide_eq_true_eq, List.all_eq_true] at h
  refine ⟨h.1, h.2.1, fun x hx => ?_⟩
  have := h.2.2 x hx
  rw [Bool.and_eq_true, decide_eq_true_eq, decide_eq_true_eq] at this
  exact this
theorem actions_x (w : World) : Calls Try.prog 35 #[] w fun e w' => ∃ v : Value, e = .returned v ∧ Kd.R Kd.string 9 w' w.heap.size (fun _ => True) v actionList ∧ Below w.heap.size w w' := comptoirref07_Actions.calls 100 actionList w actions_is
end Go.Proofs.Ythdjodamdakjbaa.MK
