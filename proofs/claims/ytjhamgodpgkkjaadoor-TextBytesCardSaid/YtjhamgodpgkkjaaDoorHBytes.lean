/- Plain: of one byte alone which of the kinds it is. No program in sight. -/
import Derived.Test.YtjhamgodpgkkjaaDoorHLine
namespace Go.Proofs.YtjhamgodpgkkjaaDoor.MT
open Go.RowKit Go.Proofs.YtjhamgodpgkkjaaDoorW.PrintWords Go.Proofs.YtjhamgodpgkkjaaDoorW.PrintLast Go.Proofs.YtjhamgodpgkkjaaDoorW.PrintMore
theorem one_is (c : Nat) : strOfNums [(c : Int)] = ⟨#[UInt8.ofNat c]⟩ := by
  unfold strOfNums
  simp
theorem one_list (c : Nat) : (strOfNums [(c : Int)]).data.toList = [UInt8.ofNat c] := by rw [one_is]
theorem one_size (c : Nat) : (strOfNums [(c : Int)]).size = 1 := by rw [one_is]; rfl
theorem one_utf8 (c : Nat) (h : c < 256) : text_Utf8.f (strOfNums [(c : Int)]) = some (decide (c < 128 ∧ mayR c = true)) := by
  rw [text_utf8_some _ (by rw [one_size]; decide), one_list, cnt_byte, toNat_ofNat c h]
  by_cases hc : c < 128 ∧ mayR c = true
  · rw [if_pos hc, decide_eq_true hc]; rfl
  · rw [if_neg hc, decide_eq_false hc]; rfl
theorem one_plain (c : Nat) (h : c < 256) : text_Plain.f (strOfNums [(c : Int)]) 1 1 = some (decide (32 < c ∧ c < 128)) := by
  rw [text_plain_some _ _ _ (by rw [one_size]; decide), plainB_L, one_list]
  congr 1
  rw [Bool.eq_iff_iff, plainL_iff, decide_eq_true_eq, cnt_byte, toNat_ofNat c h]
  constructor
  · rintro ⟨m, hm, _, _, ha, hh, _⟩
    have h1 : c < 128 := by
      by_cases hc : c < 128 ∧ mayR c = true
      · exact hc.1
      · rw [if_neg hc] at hm; cases hm
    have h2 := ha _ (List.mem_singleton.2 rfl)
    rw [toNat_ofNat c h] at h2
    have h3 : c ≠ 32 := by rintro rfl; exact hh rfl
    omega
  · rintro ⟨h1, h2⟩
    have hm : c < 128 ∧ mayR c = true := ⟨h2, by unfold mayR; simp; omega⟩
    have hne : UInt8.ofNat c ≠ 32 := by
      intro e
      have := congrArg UInt8.toNat e
      rw [toNat_ofNat c h] at this
      have h32 : (32 : UInt8).toNat = 32 := rfl
      omega
    refine ⟨1, by rw [if_pos hm], by omega, by omega, fun b hb => ?_, ?_, ?_⟩
    · rw [List.mem_singleton.1 hb, toNat_ofNat c h]; omega
    · intro e; exact hne (Option.some.inj e)
    · intro e; exact hne (Option.some.inj e)
theorem allB_one (c : Nat) (h : c < 256) (ts : List (Int × Int)) : allB (strOfNums [(c : Int)]) ts = anyB ts (c : Int) := by
  unfold allB
  rw [one_list]
  simp only [List.all_cons, List.all_nil, Bool.and_true, toNat_ofNat c h]
theorem one_ans (c : Nat) (h : c < 256) : text_Ans.f (strOfNums [(c : Int)]) 1 = some (decide (32 ≤ c ∧ c ≤ 126)) := by
  unfold text_Ans.f
  rw [one_size, if_pos (by decide), allB_one c h]
  congr 1
  rw [Bool.eq_iff_iff]
  simp [anyB, inB]
  omega
theorem one_aln (c : Nat) (h : c < 256) : text_Aln.f (strOfNums [(c : Int)]) 1 1 = some (decide ((48 ≤ c ∧ c ≤ 57) ∨ (65 ≤ c ∧ c ≤ 90) ∨ (97 ≤ c ∧ c ≤ 122))) := by
  unfold text_Aln.f
  rw [one_size, if_pos (by decide), allB_one c h]
  congr 1
  rw [Bool.eq_iff_iff]
  simp [anyB, inB]
  omega
theorem none_ans : text_Ans.f (⟨#[]⟩ : ByteArray) 5 = some false := rfl
theorem none_aln : text_Aln.f (⟨#[]⟩ : ByteArray) 0 0 = some true := rfl
theorem two_ans (c : Nat) : text_Ans.f (strOfNums [(c : Int)] ++ strOfNums [(c : Int)]) 1 = some false := by
  unfold text_Ans.f
  rw [ByteArray.size_append, one_size, if_pos (by decide)]
  rfl
end Go.Proofs.YtjhamgodpgkkjaaDoor.MT
