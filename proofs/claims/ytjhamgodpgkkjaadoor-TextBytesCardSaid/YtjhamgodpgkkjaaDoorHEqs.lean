/- Plain: the code's five answers on texts are the reference's. No program in sight. -/
import Derived.Test.YtjhamgodpgkkjaaDoorHCount
import Derived.Test.YtjhamgodpgkkjaaDoorMTx4
namespace Go.Proofs.YtjhamgodpgkkjaaDoor.MT
open Go.RowKit Go.Proofs.YtjhamgodpgkkjaaDoorW.PrintWords Go.Proofs.YtjhamgodpgkkjaaDoorW.PrintLast Go.Proofs.YtjhamgodpgkkjaaDoorW.PrintMore

theorem text_utf8_some (s : ByteArray) (hs : s.size < 1099511627776) : text_Utf8.f s = some (cnt s.data.toList).isSome := by
  unfold text_Utf8.f
  rw [if_pos (by omega), utf8B_eq]
theorem text_runes_some (s : ByteArray) (hs : s.size < 1099511627776) : text_Runes.f s = some (((cnt s.data.toList).getD 0 : Nat) : Int) := by
  unfold text_Runes.f
  rw [if_pos (by omega), runesI_eq]
theorem ref_utf8_some (s : ByteArray) (K : Nat) (hs : s.size < 1099511627776) (hK : s.size + 13 ≤ K) : comptoirref01_Utf8.f K s = some (cnt s.data.toList).isSome := by
  unfold comptoirref01_Utf8.f
  rw [count_eq s K hs hK, Option.bind_some]
  unfold cntI
  cases cnt s.data.toList with
  | none => rfl
  | some m => simp
theorem ref_runes_some (s : ByteArray) (K : Nat) (hs : s.size < 1099511627776) (hK : s.size + 13 ≤ K) : comptoirref01_Runes.f K s = some (((cnt s.data.toList).getD 0 : Nat) : Int) := by
  unfold comptoirref01_Runes.f
  rw [count_eq s K hs hK, Option.bind_some]
  unfold cntI
  cases cnt s.data.toList with
  | none => rfl
  | some m =>
    show some (mx 0 (m : Int)) = some (m : Int)
    unfold mx
    split <;> congr 1 <;> omega
/-- Each byte from i on passes. -/
def allFrom (s : ByteArray) (t : Int → Bool) (d i : Nat) : Bool := (List.range' i d).all fun j => t (bt s (j : Int))
theorem allFrom_succ (s : ByteArray) (t : Int → Bool) (d i : Nat) : allFrom s t (d + 1) i = (t (bt s (i : Int)) && allFrom s t d (i + 1)) := by
  unfold allFrom
  rw [List.range'_succ, List.all_cons]
theorem allB_from (s : ByteArray) (ts : List (Int × Int)) : allB s ts = allFrom s (anyB ts) s.size 0 := by
  have hsz : s.data.toList.length = s.size := Array.length_toList
  rw [Bool.eq_iff_iff]
  constructor
  · intro h
    unfold allB at h
    unfold allFrom
    rw [List.all_eq_true] at h ⊢
    intro j hj
    rw [List.mem_range'_1] at hj
    have hj' : j < s.data.toList.length := by omega
    rw [bt_get s j hj']
    exact h _ (List.getElem_mem hj')
  · intro h
    unfold allFrom at h
    rw [List.all_eq_true] at h
    exact allB_yes s ts (fun j hj => h j (by rw [List.mem_range'_1]; omega))
theorem ans_from (s : ByteArray) (top : Int) (hs : s.size < 1099511627776) : ∀ d i K, i + d = s.size → d < K →
    comptoirref01_Ans.l0 K s top (i : Int) = some (allFrom s (anyB [(32, 126)]) d i && (decide (1 ≤ (s.size : Int)) && decide ((s.size : Int) ≤ top)))
  | 0, i, K, h, hK => by
    obtain ⟨K, rfl⟩ : ∃ m, K = m + 1 := ⟨K - 1, by omega⟩
    simp only [comptoirref01_Ans.l0]
    rw [if_neg (by omega)]
    by_cases h1 : 1 ≤ (s.size : Int)
    · rw [if_pos h1, decide_eq_true h1]; rfl
    · rw [if_neg h1, decide_eq_false h1]; rfl
  | d + 1, i, K, h, hK => by
    obtain ⟨K, rfl⟩ : ∃ m, K = m + 1 := ⟨K - 1, by omega⟩
    simp only [comptoirref01_Ans.l0]
    rw [if_pos (by omega), if_pos (by omega), w_k i (by omega), ans_from s top hs d (i + 1) K (by omega) (by omega), allFrom_succ]
    by_cases h1 : bt s (i : Int) < 32
    · have : anyB [(32, 126)] (bt s (i : Int)) = false := by rw [Bool.eq_false_iff]; simp [anyB, inB]; omega
      rw [if_pos h1, this, Bool.false_and, Bool.false_and]
    · rw [if_neg h1]
      by_cases h2 : bt s (i : Int) > 126
      · have : anyB [(32, 126)] (bt s (i : Int)) = false := by rw [Bool.eq_false_iff]; simp [anyB, inB]; omega
        rw [if_pos h2, this, Bool.false_and, Bool.false_and]
      · rw [if_neg h2]
        have : anyB [(32, 126)] (bt s (i : Int)) = true := by simp [anyB, inB]; omega
        rw [this, Bool.true_and]
theorem ref_ans_some (s : ByteArray) (top : Int) (K : Nat) (hs : s.size < 1099511627776) (hK : s.size < K) : comptoirref01_Ans.f K s top = text_Ans.f s top := by
  unfold comptoirref01_Ans.f text_Ans.f
  have := ans_from s top hs s.size 0 K (by omega) hK
  refine this.trans ?_
  rw [if_pos (by omega), allB_from, Bool.and_comm]
theorem aln_from (s : ByteArray) (low top : Int) (hs : s.size < 1099511627776) : ∀ d i K, i + d = s.size → d < K →
    comptoirref01_Aln.l0 K s low top (i : Int) = some (allFrom s (anyB [(48, 57), (65, 90), (97, 122)]) d i && (decide (low ≤ (s.size : Int)) && decide ((s.size : Int) ≤ top)))
  | 0, i, K, h, hK => by
    obtain ⟨K, rfl⟩ : ∃ m, K = m + 1 := ⟨K - 1, by omega⟩
    simp only [comptoirref01_Aln.l0]
    rw [if_neg (by omega)]
    by_cases h1 : (s.size : Int) ≥ low
    · rw [if_pos h1, decide_eq_true (show low ≤ (s.size : Int) from h1)]; rfl
    · rw [if_neg h1, decide_eq_false (show ¬ low ≤ (s.size : Int) from h1)]; rfl
  | d + 1, i, K, h, hK => by
    obtain ⟨K, rfl⟩ : ∃ m, K = m + 1 := ⟨K - 1, by omega⟩
    simp only [comptoirref01_Aln.l0]
    rw [if_pos (by omega), if_pos (by omega), w_k i (by omega), aln_from s low top hs d (i + 1) K (by omega) (by omega), allFrom_succ]
    generalize bt s (i : Int) = c
    have e : anyB [(48, 57), (65, 90), (97, 122)] c = decide ((48 ≤ c ∧ c ≤ 57) ∨ (65 ≤ c ∧ c ≤ 90) ∨ (97 ≤ c ∧ c ≤ 122)) := by
      rw [Bool.eq_iff_iff]
      simp [anyB, inB]
    rw [e]
    generalize allFrom s (anyB [(48, 57), (65, 90), (97, 122)]) d (i + 1) = R
    by_cases hy : (48 ≤ c ∧ c ≤ 57) ∨ (65 ≤ c ∧ c ≤ 90) ∨ (97 ≤ c ∧ c ≤ 122)
    · rw [decide_eq_true hy, Bool.true_and]
      repeat' split
      all_goals first | rfl | (exfalso; omega)
    · rw [decide_eq_false hy, Bool.false_and, Bool.false_and]
      repeat' split
      all_goals first | rfl | (exfalso; omega)
theorem ref_aln_some (s : ByteArray) (low top : Int) (K : Nat) (hs : s.size < 1099511627776) (hK : s.size < K) : comptoirref01_Aln.f K s low top = text_Aln.f s low top := by
  unfold comptoirref01_Aln.f text_Aln.f
  have := aln_from s low top hs s.size 0 K (by omega) hK
  refine this.trans ?_
  rw [if_pos (by omega), allB_from, Bool.and_comm]
theorem ex1 (s : ByteArray) (i : Nat) (h' : i < s.data.toList.length) : (s.extract i (i + 1)).toList = [s.data.toList[i]] := by
  rw [ByteArray.toList_eq, ByteArray.data_extract, Array.toList_extract, List.extract_eq_take_drop, show i + 1 - i = 1 by omega, List.drop_eq_getElem_cons h', List.take_succ_cons, List.take_zero]
theorem ex1_is (s : ByteArray) (i : Nat) (h : i < s.size) : ((s.extract i (i + 1)).toList == [32]) = (bt s (i : Int) == 32) := by
  have h' : i < s.data.toList.length := by simpa using h
  rw [ex1 s i h', bt_get s i h', Bool.eq_iff_iff, beq_iff_eq, beq_iff_eq]
  generalize s.data.toList[i] = b
  constructor
  · intro e; rw [List.cons.inj e |>.1]; rfl
  · intro e
    have : b.toNat = 32 := by omega
    have : b = 32 := UInt8.toNat_inj.1 this
    rw [this]
theorem pre_eq (s : ByteArray) : strings_HasPrefix.f s ⟨#[32]⟩ = some (decide (0 < s.size) && (bt s 0 == 32)) := by
  unfold strings_HasPrefix.f stringslite_HasPrefix.f
  have e1 : (⟨#[32]⟩ : ByteArray).size = 1 := rfl
  have e2 : (⟨#[32]⟩ : ByteArray).toList = [32] := by rw [ByteArray.toList_eq]
  rw [e1, e2]
  by_cases h : 0 < s.size
  · rw [if_pos (by omega), if_pos (by omega), if_pos (by omega), Option.bind_some, decide_eq_true h, Bool.true_and]
    exact congrArg some (ex1_is s 0 h)
  · rw [if_neg (by omega), Option.bind_some, decide_eq_false h, Bool.false_and]
theorem suf_eq (s : ByteArray) (hs : s.size < 1099511627776) : strings_HasSuffix.f s ⟨#[32]⟩ = some (decide (0 < s.size) && (bt s ((s.size - 1 : Nat) : Int) == 32)) := by
  unfold strings_HasSuffix.f stringslite_HasSuffix.f
  have e1 : (⟨#[32]⟩ : ByteArray).size = 1 := rfl
  have e2 : (⟨#[32]⟩ : ByteArray).toList = [32] := by rw [ByteArray.toList_eq]
  rw [e1, e2]
  by_cases h : 0 < s.size
  · have e3 : wrap64 ((s.size : Int) - ((1 : Nat) : Int)) = ((s.size - 1 : Nat) : Int) := by rw [w64 _ (by omega) (by omega)]; omega
    rw [e3, if_pos (by omega), if_pos (by omega), if_pos (by omega), Option.bind_some, decide_eq_true h, Bool.true_and, Int.toNat_natCast]
    have := ex1_is s (s.size - 1) (by omega)
    rw [show s.size - 1 + 1 = s.size by omega] at this
    exact congrArg some this
  · rw [if_neg (by omega), Option.bind_some, decide_eq_false h, Bool.false_and]
/-- What text.Plain tells. -/
def plainB (s : ByteArray) (low top : Int) : Bool :=
  match cnt s.data.toList with
  | none => false
  | some m => decide (low ≤ (m : Int)) && (decide ((m : Int) ≤ top) && (allFrom s (anyB [(32, 255)]) s.size 0 && (!(decide (0 < s.size) && (bt s 0 == 32)) && !(decide (0 < s.size) && (bt s ((s.size - 1 : Nat) : Int) == 32)))))
theorem text_plain_some (s : ByteArray) (low top : Int) (hs : s.size < 1099511627776) : text_Plain.f s low top = some (plainB s low top) := by
  unfold text_Plain.f plainB
  rw [if_pos (by omega), pre_eq, suf_eq s hs, Option.bind_some, Option.bind_some, utf8B_eq, runesI_eq, allB_from]
  cases cnt s.data.toList with
  | none => rfl
  | some m => simp only [Option.isSome_some, Bool.true_and, Option.getD_some]
theorem plain_from (s : ByteArray) (low top n : Int) (hs : s.size < 1099511627776) : ∀ d i K, i + d = s.size → d < K →
    comptoirref01_Plain.l0 K s low top n (i : Int) = some (allFrom s (anyB [(32, 255)]) d i && (decide (0 ≤ n) && (decide (low ≤ n) && (decide (n ≤ top) && (!(decide (0 < s.size) && (bt s 0 == 32)) && !(decide (0 < s.size) && (bt s ((s.size - 1 : Nat) : Int) == 32)))))))
  | 0, i, K, h, hK => by
    obtain ⟨K, rfl⟩ : ∃ m, K = m + 1 := ⟨K - 1, by omega⟩
    simp only [comptoirref01_Plain.l0]
    rw [if_neg (by omega), show allFrom s (anyB [(32, 255)]) 0 i = true from rfl, Bool.true_and]
    by_cases h0 : n ≥ 0
    · rw [if_pos h0, decide_eq_true (show 0 ≤ n from h0), Bool.true_and]
      by_cases h1 : n ≥ low
      · rw [if_pos h1, decide_eq_true (show low ≤ n from h1), Bool.true_and]
        by_cases h2 : n ≤ top
        · rw [if_pos h2, decide_eq_true h2, Bool.true_and]
          by_cases h3 : 0 < s.size
          · have hne : s.toList ≠ [] := by
              rw [ByteArray.toList_eq]
              intro h'
              have h4 := congrArg List.length h'
              rw [Array.length_toList] at h4
              change s.size = 0 at h4
              omega
            have e3 : wrap64 ((s.size : Int) - 1) = ((s.size - 1 : Nat) : Int) := by rw [w64 _ (by omega) (by omega)]; omega
            rw [if_neg hne, if_pos (by omega), e3, decide_eq_true h3, Bool.true_and, Bool.true_and]
            by_cases h4 : bt s 0 = 32
            · rw [if_pos h4, beq_iff_eq.2 h4]; rfl
            · rw [if_neg h4, if_pos (by omega), if_pos (by omega), beq_eq_false_iff_ne.2 h4]; rfl
          · have he : s.toList = [] := by
              rw [ByteArray.toList_eq]
              apply List.length_eq_zero_iff.1
              rw [Array.length_toList]
              change s.size = 0
              omega
            rw [if_pos he, decide_eq_false h3]; rfl
        · rw [if_neg h2, decide_eq_false h2]; rfl
      · rw [if_neg h1, decide_eq_false (show ¬ low ≤ n from h1)]; rfl
    · rw [if_neg h0, decide_eq_false (show ¬ 0 ≤ n from h0)]; rfl
  | d + 1, i, K, h, hK => by
    obtain ⟨K, rfl⟩ : ∃ m, K = m + 1 := ⟨K - 1, by omega⟩
    have hr := bt_range s (i : Int)
    simp only [comptoirref01_Plain.l0]
    rw [if_pos (by omega), if_pos (by omega), w_k i (by omega), plain_from s low top n hs d (i + 1) K (by omega) (by omega), allFrom_succ]
    by_cases h1 : bt s (i : Int) < 32
    · have : anyB [(32, 255)] (bt s (i : Int)) = false := by rw [Bool.eq_false_iff]; simp [anyB, inB]; omega
      rw [if_pos h1, this, Bool.false_and, Bool.false_and]
    · have : anyB [(32, 255)] (bt s (i : Int)) = true := by simp [anyB, inB]; omega
      rw [if_neg h1, this, Bool.true_and]
theorem ref_plain_some (s : ByteArray) (low top : Int) (K : Nat) (hs : s.size < 1099511627776) (hK : s.size + 13 ≤ K) : comptoirref01_Plain.f K s low top = some (plainB s low top) := by
  unfold comptoirref01_Plain.f
  rw [count_eq s K hs hK, Option.bind_some]
  have := plain_from s low top (cntI s) hs s.size 0 K (by omega) (by omega)
  refine this.trans ?_
  unfold plainB cntI
  cases cnt s.data.toList with
  | none => simp
  | some m =>
    simp only [show decide (0 ≤ (m : Int)) = true from decide_eq_true (by omega), Bool.true_and]
    generalize allFrom s (anyB [(32, 255)]) s.size 0 = a
    generalize decide (low ≤ (m : Int)) = b
    generalize decide ((m : Int) ≤ top) = c
    cases a <;> cases b <;> cases c <;> rfl
theorem awake_tell : comptoirlaw04_awake.f = some true := by kernel_rfl
end Go.Proofs.YtjhamgodpgkkjaaDoor.MT
