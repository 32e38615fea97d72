/- Plain: what the reference tells of plain signs is what the code tells. No program in sight. -/
import Derived.Test.YthapknnppabdaaaHAll
import Derived.Test.YthapknnppabdaaaMRx1
namespace Go.Proofs.Ythapknnppabdaaa.MR.Big
open Go.RowKit Go.Proofs.YthapknnppabdaaaW.PrintWords Go.Proofs.YthapknnppabdaaaW.PrintLast Go.Proofs.YthapknnppabdaaaW.PrintMore
set_option linter.unusedVariables false
set_option linter.unusedSimpArgs false
theorem w64 (x : Int) (h₀ : 0 ≤ x) (h₁ : x < 9223372036854775808) : wrap64 x = x := by unfold wrap64; omega
theorem w_k (k : Nat) (h : k < 9223372036854775807) : wrap64 ((k : Int) + 1) = ((k + 1 : Nat) : Int) := by rw [w64 _ (by omega) (by omega)]; omega
def allFrom (s : ByteArray) (t : Int → Bool) (d i : Nat) : Bool := (List.range' i d).all fun j => t (bt s (j : Int))
theorem allFrom_succ (s : ByteArray) (t : Int → Bool) (d i : Nat) : allFrom s t (d + 1) i = (t (bt s (i : Int)) && allFrom s t d (i + 1)) := by
  unfold allFrom
  rw [List.range'_succ, List.all_cons]
theorem allB_from (s : ByteArray) (ts : List (Int × Int)) : allB s ts = allFrom s (anyB ts) s.size 0 := by
  have hsz : s.data.toList.length = s.size := Array.length_toList
  rw [Bool.eq_iff_iff]
  constructor
  · intro h
    unfold allB at h
    unfold allFrom
    rw [List.all_eq_true] at h ⊢
    intro j hj
    rw [List.mem_range'_1] at hj
    have hj' : j < s.data.toList.length := by omega
    rw [bt_get s j hj']
    exact h _ (List.getElem_mem hj')
  · intro h
    unfold allFrom at h
    rw [List.all_eq_true] at h
    exact allB_yes s ts (fun j hj => h j (by rw [List.mem_range'_1]; omega))
theorem ans_from (s : ByteArray) (top : Int) (hs : s.size < 140737488355329) : ∀ d i K, i + d = s.size → d < K →
    comptoirref01_Ans.l0 K s top (i : Int) = some (allFrom s (anyB [(32, 126)]) d i && (decide (1 ≤ (s.size : Int)) && decide ((s.size : Int) ≤ top)))
  | 0, i, K, h, hK => by
    obtain ⟨K, rfl⟩ : ∃ m, K = m + 1 := ⟨K - 1, by omega⟩
    simp only [comptoirref01_Ans.l0]
    rw [if_neg (by omega)]
    by_cases h1 : 1 ≤ (s.size : Int)
    · rw [if_pos h1, decide_eq_true h1]; rfl
    · rw [if_neg h1, decide_eq_false h1]; rfl
  | d + 1, i, K, h, hK => by
    obtain ⟨K, rfl⟩ : ∃ m, K = m + 1 := ⟨K - 1, by omega⟩
    simp only [comptoirref01_Ans.l0]
    rw [if_pos (by omega), if_pos (by omega), w_k i (by omega), ans_from s top hs d (i + 1) K (by omega) (by omega), allFrom_succ]
    by_cases h1 : bt s (i : Int) < 32
    · have : anyB [(32, 126)] (bt s (i : Int)) = false := by rw [Bool.eq_false_iff]; simp [anyB, inB]; omega
      rw [if_pos h1, this, Bool.false_and, Bool.false_and]
    · rw [if_neg h1]
      by_cases h2 : bt s (i : Int) > 126
      · have : anyB [(32, 126)] (bt s (i : Int)) = false := by rw [Bool.eq_false_iff]; simp [anyB, inB]; omega
        rw [if_pos h2, this, Bool.false_and, Bool.false_and]
      · rw [if_neg h2]
        have : anyB [(32, 126)] (bt s (i : Int)) = true := by simp [anyB, inB]; omega
        rw [this, Bool.true_and]
theorem ref_ans_some (s : ByteArray) (top : Int) (K : Nat) (hs : s.size < 140737488355329) (hK : s.size < K) : comptoirref01_Ans.f K s top = text_Ans.f s top := by
  unfold comptoirref01_Ans.f text_Ans.f
  have := ans_from s top hs s.size 0 K (by omega) hK
  refine this.trans ?_
  rw [if_pos (by omega), allB_from, Bool.and_comm]
end Go.Proofs.Ythapknnppabdaaa.MR.Big
