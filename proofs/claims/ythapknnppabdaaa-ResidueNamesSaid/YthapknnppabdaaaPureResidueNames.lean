/- The pure statement of comptoirlaw19.ResidueNames: a merchant, or a terminal, that fits stays; one that does not leaves a sign, and comes back. -/
import Derived.Test.YthapknnppabdaaaMRx19
import Derived.Test.YthapknnppabdaaaHAnsEq
namespace Go.Proofs.Ythapknnppabdaaa.Pure
open Go.RowKit Go.Proofs.Ythapknnppabdaaa.MR Go.Proofs.YthapknnppabdaaaW.PrintWords Go.Proofs.YthapknnppabdaaaW.PrintLast

set_option linter.unusedSimpArgs false
theorem tags_nil (k : Nat) : residue_tags.f (k + 1) [] = some [] := by
  unfold residue_tags.f
  simp only [residue_tags.l0]
  rw [if_neg (by simp)]
theorem elements_nil (k : Nat) : residue_elements.f (k + 1) [] = some [] := by
  unfold residue_elements.f
  simp only [residue_elements.l0]
  rw [if_neg (by simp)]
theorem pairs_nil : api_Pair_30.f [] = some [] := rfl
theorem own_nil (k : Nat) (a0 a1 : Int) (a2 a3 a4 a5 : ByteArray) (a6 : Int) (a7 a8 a9 a10 : ByteArray) (a11 : Int) (a12 a13 : ByteArray) (a14 : Int) (a15 a17 a18 : ByteArray) :
    residue_own.f (k + 1) a0 a1 a2 a3 a4 a5 a6 a7 a8 a9 a10 a11 a12 a13 a14 a15 [] a17 a18 [] [] = some (a0, a1, a2, a3, a4, a5, a6, a7, a8, a9, a10, a11, a12, a13, a14, a15, [], a17, a18, [], []) := by
  unfold residue_own.f
  rw [tags_nil, pairs_nil, elements_nil]
  rfl
theorem nil_size (s : ByteArray) : s.toList = [] ↔ s.size = 0 := by
  rw [ByteArray.toList_eq, ← data_length, List.length_eq_zero_iff]
/-- What a label becomes: what stays, what is taken out. -/
def lab (s : ByteArray) (n : Int) : ByteArray × ByteArray := if s.toList = [] then (s, ⟨#[]⟩) else if (decide (1 ≤ (s.size : Int)) && decide ((s.size : Int) ≤ n) && allB s [(32, 126)]) = true then (s, ⟨#[]⟩) else (⟨#[63]⟩, s)
theorem ans_some (s : ByteArray) (n : Int) (hs : s.size ≤ 9223372036854775807) : text_Ans.f s n = some (decide (1 ≤ (s.size : Int)) && decide ((s.size : Int) ≤ n) && allB s [(32, 126)]) := by
  unfold text_Ans.f
  rw [if_pos hs]
theorem label_is (s : ByteArray) (n : Int) (hs : s.size ≤ 9223372036854775807) : residue_label.f s n = some (lab s n) := by
  unfold residue_label.f lab
  rw [ans_some s n hs]
  by_cases h : s.toList = []
  · rw [if_pos h, if_pos h]
  · rw [if_neg h, if_neg h, Option.bind_some]
    split <;> rfl
theorem known_is (s : ByteArray) (n : Int) : ∃ b, residue_known.f (lab s n).1 (lab s n).2 = some b ∧ b.toList = s.toList := by
  unfold lab
  have h63 : ¬ (⟨#[63]⟩ : ByteArray).toList = [] := by rw [ByteArray.toList_eq]; simp
  have h0 : (⟨#[]⟩ : ByteArray).toList = [] := by rw [ByteArray.toList_eq]
  by_cases h : s.toList = []
  · rw [if_pos h]
    exact ⟨⟨#[]⟩, by unfold residue_known.f; rw [if_pos h], by rw [h0, h]⟩
  · rw [if_neg h]
    split
    · exact ⟨s, by unfold residue_known.f residue_or.f; rw [if_neg h, if_pos h0]; rfl, rfl⟩
    · exact ⟨s, by unfold residue_known.f residue_or.f; rw [if_neg h63, if_neg h]; rfl, rfl⟩
theorem awake_tell (k : Nat) : comptoirlaw19_awake.f (k + 2) = some true := by
  unfold comptoirlaw19_awake.f residue_Split.f residue_Join.f
  rw [own_nil]
  kernel_rfl
theorem split_is (k : Nat) (x y : ByteArray) (hx : x.size ≤ 9223372036854775807) (hy : y.size ≤ 9223372036854775807) :
    residue_Split.f (k + 1) 0 0 (⟨#[]⟩ : ByteArray) (⟨#[]⟩ : ByteArray) (⟨#[]⟩ : ByteArray) (⟨#[]⟩ : ByteArray) 0 (⟨#[]⟩ : ByteArray) x y (⟨#[]⟩ : ByteArray) 0 (⟨#[]⟩ : ByteArray) (⟨#[]⟩ : ByteArray) 0 (⟨#[]⟩ : ByteArray) ([] : List S56) (⟨#[]⟩ : ByteArray) (⟨#[]⟩ : ByteArray) ([] : List S48) ([] : List S52) 1 = some (0, 0, (⟨#[]⟩ : ByteArray), (⟨#[]⟩ : ByteArray), (⟨#[]⟩ : ByteArray), (⟨#[]⟩ : ByteArray), 0, (⟨#[]⟩ : ByteArray), (lab x 15).1, (lab y 8).1, (⟨#[]⟩ : ByteArray), 0, (⟨#[]⟩ : ByteArray), (⟨#[]⟩ : ByteArray), 0, (⟨#[]⟩ : ByteArray), [], (⟨#[]⟩ : ByteArray), (⟨#[]⟩ : ByteArray), [], [], (⟨#[]⟩ : ByteArray), (lab x 15).2, (lab y 8).2, [], []) := by
  unfold residue_Split.f
  rw [own_nil]
  simp only [Option.bind_some]
  rw [if_neg (by decide), if_pos trivial, label_is x 15 hx, label_is y 8 hy]
  rfl
theorem or_nil : residue_or.f (⟨#[]⟩ : ByteArray) (⟨#[]⟩ : ByteArray) = some ⟨#[]⟩ := by unfold residue_or.f; split <;> rfl
theorem join_is (k : Nat) (p q r1 r2 b c : ByteArray) (hb : residue_known.f p r1 = some b) (hc : residue_known.f q r2 = some c) :
    residue_Join.f (k + 2) 0 0 (⟨#[]⟩ : ByteArray) (⟨#[]⟩ : ByteArray) (⟨#[]⟩ : ByteArray) (⟨#[]⟩ : ByteArray) 0 (⟨#[]⟩ : ByteArray) p q (⟨#[]⟩ : ByteArray) 0 (⟨#[]⟩ : ByteArray) (⟨#[]⟩ : ByteArray) 0 (⟨#[]⟩ : ByteArray) ([] : List S56) (⟨#[]⟩ : ByteArray) (⟨#[]⟩ : ByteArray) ([] : List S48) ([] : List S52) (⟨#[]⟩ : ByteArray) r1 r2 ([] : List S48) ([] : List S52) = some (0, 0, (⟨#[]⟩ : ByteArray), (⟨#[]⟩ : ByteArray), (⟨#[]⟩ : ByteArray), (⟨#[]⟩ : ByteArray), 0, (⟨#[]⟩ : ByteArray), b, c, (⟨#[]⟩ : ByteArray), 0, (⟨#[]⟩ : ByteArray), (⟨#[]⟩ : ByteArray), 0, (⟨#[]⟩ : ByteArray), [], (⟨#[]⟩ : ByteArray), (⟨#[]⟩ : ByteArray), [], []) := by
  unfold residue_Join.f
  rw [own_nil]
  simp only [Option.bind_some]
  rw [hb, hc, or_nil]
  rfl
theorem empty_is (r1 r2 : ByteArray) (h1 : r1.size ≤ 1000) (h2 : r2.size ≤ 1000) : residue_Empty.f (⟨#[]⟩ : ByteArray) r1 r2 ([] : List S48) ([] : List S52) = some (decide (r1.size + r2.size = 0)) := by
  unfold residue_Empty.f
  have e : (⟨#[]⟩ : ByteArray).size = 0 := rfl
  simp only [e, List.length_nil]
  rw [if_pos (by omega)]
  congr 1
  rw [Bool.eq_iff_iff, decide_eq_true_eq, decide_eq_true_eq]
  omega
theorem mark_list : (⟨#[63]⟩ : ByteArray).toList = [63] := by rw [ByteArray.toList_eq]
theorem swap63 (l : List UInt8) : ((([63] : List UInt8) == l) == (l == [63])) = true := by
  rw [beq_iff_eq, Bool.eq_iff_iff, beq_iff_eq, beq_iff_eq]
  exact eq_comm
theorem lab_empty (s : ByteArray) (n : Int) (h : s.toList = []) : lab s n = (s, (⟨#[]⟩ : ByteArray)) := by unfold lab; rw [if_pos h]
theorem lab_yes (s : ByteArray) (n : Int) (h : (decide (1 ≤ (s.size : Int)) && decide ((s.size : Int) ≤ n) && allB s [(32, 126)]) = true) : lab s n = (s, (⟨#[]⟩ : ByteArray)) := by unfold lab; rw [if_pos h]; split <;> rfl
theorem lab_no (s : ByteArray) (n : Int) (h0 : ¬ s.toList = []) (h : (decide (1 ≤ (s.size : Int)) && decide ((s.size : Int) ≤ n) && allB s [(32, 126)]) = false) : lab s n = (⟨#[63]⟩, s) := by unfold lab; rw [if_neg h0, h]; rfl
theorem ref_ans (s : ByteArray) (n : Int) (K : Nat) (h1 : s.size ≤ 1000) (hK : s.size < K) : comptoirref01_Ans.f K s n = some (decide (1 ≤ (s.size : Int)) && decide ((s.size : Int) ≤ n) && allB s [(32, 126)]) := by
  rw [ref_ans_some s n K (by omega) hK, ans_some s n (by omega)]
set_option maxHeartbeats 4000000 in
theorem ResidueNames : comptoirlaw19_ResidueNames.Pure := by
  intro a0 a1 h0 h1
  obtain ⟨K, hK⟩ : ∃ K, K = a0.size + a1.size + 1 := ⟨_, rfl⟩
  refine ⟨K + 4, ?_⟩
  unfold comptoirlaw19_ResidueNames.f
  by_cases g0 : (a0.size : Int) > 300
  · rw [if_pos g0]
    simp only [comptoirlaw19_ResidueNames.j0, if_true]
    rw [awake_tell]; rfl
  rw [if_neg g0]
  by_cases g1 : (a1.size : Int) > 300
  · rw [decide_eq_true g1]
    simp only [comptoirlaw19_ResidueNames.j0, if_true]
    rw [awake_tell]; rfl
  rw [decide_eq_false g1]
  obtain ⟨b, hb, hbl⟩ := known_is a0 15
  obtain ⟨c, hc, hcl⟩ := known_is a1 8
  have S := split_is (K + 2) a0 a1 (by omega) (by omega)
  have J := join_is K (lab a0 15).1 (lab a1 8).1 (lab a0 15).2 (lab a1 8).2 b c hb hc
  have A0 := ref_ans a0 15 (K + 3) (by omega) (by omega)
  have A1 := ref_ans a1 8 (K + 2) (by omega) (by omega)
  have z0 : (⟨#[]⟩ : ByteArray).size = 0 := rfl
  simp only [comptoirlaw19_ResidueNames.j0, comptoirlaw19_ResidueNames.j1, Bool.false_eq_true, if_false]
  rw [S]
  simp only [Option.bind_some]
  rw [J, A0, A1, awake_tell]
  simp only [Option.bind_some, if_true, hbl, hcl]
  by_cases e0 : a0.toList = []
  · have n0 := (nil_size a0).1 e0
    rw [if_pos e0, lab_empty a0 15 e0]
    by_cases e1 : a1.toList = []
    · rw [if_pos e1, lab_empty a1 8 e1]
      simp only [beq_self_eq_true, if_true]
      rw [empty_is _ _ (by omega) (by omega), z0]; rfl
    · have n1 : a1.size ≠ 0 := fun h => e1 ((nil_size a1).2 h)
      rw [if_neg e1]
      cases y : (decide (1 ≤ (a1.size : Int)) && decide ((a1.size : Int) ≤ 8) && allB a1 [(32, 126)]) with
      | true =>
        rw [lab_yes a1 8 y]
        simp only [beq_self_eq_true, if_true]
        rw [empty_is _ _ (by omega) (by omega), z0]; rfl
      | false =>
        rw [lab_no a1 8 e1 y]
        simp only [beq_self_eq_true, if_true, mark_list, swap63, Bool.false_eq_true, if_false]
        rw [empty_is _ _ (by omega) (by omega), z0, decide_eq_false (by omega)]; rfl
  · have n0 : a0.size ≠ 0 := fun h => e0 ((nil_size a0).2 h)
    rw [if_neg e0]
    cases x : (decide (1 ≤ (a0.size : Int)) && decide ((a0.size : Int) ≤ 15) && allB a0 [(32, 126)]) with
    | true =>
      rw [lab_yes a0 15 x]
      by_cases e1 : a1.toList = []
      · rw [if_pos e1, lab_empty a1 8 e1]
        simp only [beq_self_eq_true, if_true]
        rw [empty_is _ _ (by omega) (by omega), z0]; rfl
      · have n1 : a1.size ≠ 0 := fun h => e1 ((nil_size a1).2 h)
        rw [if_neg e1]
        cases y : (decide (1 ≤ (a1.size : Int)) && decide ((a1.size : Int) ≤ 8) && allB a1 [(32, 126)]) with
        | true =>
          rw [lab_yes a1 8 y]
          simp only [beq_self_eq_true, if_true]
          rw [empty_is _ _ (by omega) (by omega), z0]; rfl
        | false =>
          rw [lab_no a1 8 e1 y]
          simp only [beq_self_eq_true, if_true, mark_list, swap63, Bool.false_eq_true, if_false]
          rw [empty_is _ _ (by omega) (by omega), z0, decide_eq_false (by omega)]; rfl
    | false =>
      rw [lab_no a0 15 e0 x]
      by_cases e1 : a1.toList = []
      · have n1 := (nil_size a1).1 e1
        rw [if_pos e1, lab_empty a1 8 e1]
        simp only [beq_self_eq_true, if_true, mark_list, swap63, Bool.false_eq_true, if_false]
        rw [empty_is _ _ (by omega) (by omega), z0, decide_eq_false (by omega)]; rfl
      · have n1 : a1.size ≠ 0 := fun h => e1 ((nil_size a1).2 h)
        rw [if_neg e1]
        cases y : (decide (1 ≤ (a1.size : Int)) && decide ((a1.size : Int) ≤ 8) && allB a1 [(32, 126)]) with
        | true =>
          rw [lab_yes a1 8 y]
          simp only [beq_self_eq_true, if_true, mark_list, swap63, Bool.false_eq_true, if_false]
          rw [empty_is _ _ (by omega) (by omega), z0, decide_eq_false (by omega)]; rfl
        | false =>
          rw [lab_no a1 8 e1 y]
          simp only [beq_self_eq_true, if_true, mark_list, swap63, Bool.false_eq_true, if_false]
          rw [empty_is _ _ (by omega) (by omega), decide_eq_false (by omega)]; rfl
end Go.Proofs.Ythapknnppabdaaa.Pure
