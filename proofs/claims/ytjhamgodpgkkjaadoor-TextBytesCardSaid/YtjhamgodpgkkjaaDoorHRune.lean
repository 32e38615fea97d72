/- Plain: a character as Go writes it is read as that character; cut it is none. No program in sight. -/
import Derived.Test.YtjhamgodpgkkjaaDoorHParts
namespace Go.Proofs.YtjhamgodpgkkjaaDoor.MT
open Go.RowKit Go.Proofs.YtjhamgodpgkkjaaDoorW.PrintWords Go.Proofs.YtjhamgodpgkkjaaDoorW.PrintLast Go.Proofs.YtjhamgodpgkkjaaDoorW.PrintMore
open Go.Lib (decodeL decodeL_N decodeN)

def encN (c : Nat) : List Nat :=
  if c < 128 then [c]
  else if c < 2048 then [192 + c / 64, 128 + c % 64]
  else if c < 65536 then [224 + c / 4096, 128 + c / 64 % 64, 128 + c % 64]
  else [240 + c / 262144, 128 + c / 4096 % 64, 128 + c / 64 % 64, 128 + c % 64]
def sayable (c : Nat) : Prop := c < 55296 ∨ (57344 ≤ c ∧ c ≤ 1114111)
theorem valid_of (c : Nat) (h : sayable c) : Utf8.valid (c : Int) = true := by
  unfold sayable at h
  unfold Utf8.valid
  simp only [Bool.or_eq_true, Bool.and_eq_true, decide_eq_true_eq]
  omega
theorem enc_list (c : Nat) (h : sayable c) : (Utf8.encode (c : Int)).data.toList = (encN c).map UInt8.ofNat := by
  unfold Utf8.encode encN
  simp only [valid_of c h, if_true, Int.toNat_natCast]
  repeat' split
  all_goals first | rfl | (exfalso; omega)
theorem enc_bad (r : Int) (h : Utf8.valid r = false) : (Utf8.encode r).data.toList = [239, 191, 189] := by
  unfold Utf8.encode
  simp only [h, Bool.false_eq_true, if_false]
  rfl
theorem toNat_ofNat (n : Nat) (h : n < 256) : (UInt8.ofNat n).toNat = n := by
  rw [UInt8.toNat_ofNat']
  omega
theorem okS_of (c n : Nat) (h : c ≠ 65533 ∨ n ≠ 1) : okS (c, n) = mayR c := by
  have : (c == 65533 && n == 1) = false := by
    rw [Bool.eq_false_iff]
    intro h'
    rw [Bool.and_eq_true, beq_iff_eq, beq_iff_eq] at h'
    rcases h with h | h
    · exact h h'.1
    · exact h h'.2
  unfold okS
  simp only [this]
  rfl
theorem cnt_of_decode (l : List UInt8) (c : Nat) (hne : l ≠ []) (h : decodeL l = (c, l.length)) (hc : c ≠ 65533 ∨ l.length ≠ 1) : cnt l = if mayR c = true then some 1 else none := by
  rw [cnt_step l hne, h, okS_of _ _ hc, List.drop_length]
  split <;> rfl
theorem cnt_enc (c : Nat) (h : sayable c) : cnt ((encN c).map UInt8.ofNat) = if mayR c = true then some 1 else none := by
  unfold sayable at h
  unfold encN
  by_cases h1 : c < 128
  · rw [if_pos h1]
    refine cnt_of_decode _ c (by simp) ?_ (by left; omega)
    rw [decodeL_N]
    show decodeN 1 (UInt8.ofNat c).toNat _ _ _ = _
    rw [toNat_ofNat c (by omega)]
    unfold decodeN
    rw [if_pos h1]
    rfl
  rw [if_neg h1]
  by_cases h2 : c < 2048
  · rw [if_pos h2]
    refine cnt_of_decode _ c (by simp) ?_ (by right; simp)
    rw [decodeL_N]
    show decodeN 2 (UInt8.ofNat (192 + c / 64)).toNat (UInt8.ofNat (128 + c % 64)).toNat _ _ = (c, 2)
    rw [toNat_ofNat _ (by omega), toNat_ofNat _ (by omega)]
    unfold decodeN
    rw [if_neg (by omega), if_pos (by omega), show (192 + c / 64) % 32 * 64 + (128 + c % 64) % 64 = c by omega, if_pos (by omega)]
  rw [if_neg h2]
  by_cases h3 : c < 65536
  · rw [if_pos h3]
    refine cnt_of_decode _ c (by simp) ?_ (by right; simp)
    rw [decodeL_N]
    show decodeN 3 (UInt8.ofNat (224 + c / 4096)).toNat (UInt8.ofNat (128 + c / 64 % 64)).toNat (UInt8.ofNat (128 + c % 64)).toNat _ = (c, 3)
    rw [toNat_ofNat _ (by omega), toNat_ofNat _ (by omega), toNat_ofNat _ (by omega)]
    unfold decodeN
    rw [if_neg (by omega), if_neg (by omega), if_pos (by omega), show (224 + c / 4096) % 16 * 4096 + (128 + c / 64 % 64) % 64 * 64 + (128 + c % 64) % 64 = c by omega, if_pos (by omega)]
  · rw [if_neg h3]
    refine cnt_of_decode _ c (by simp) ?_ (by right; simp)
    rw [decodeL_N]
    show decodeN 4 (UInt8.ofNat (240 + c / 262144)).toNat (UInt8.ofNat (128 + c / 4096 % 64)).toNat (UInt8.ofNat (128 + c / 64 % 64)).toNat (UInt8.ofNat (128 + c % 64)).toNat = (c, 4)
    rw [toNat_ofNat _ (by omega), toNat_ofNat _ (by omega), toNat_ofNat _ (by omega), toNat_ofNat _ (by omega)]
    unfold decodeN
    rw [if_neg (by omega), if_neg (by omega), if_neg (by omega), if_pos (by omega), show (240 + c / 262144) % 8 * 262144 + (128 + c / 4096 % 64) % 64 * 4096 + (128 + c / 64 % 64) % 64 * 64 + (128 + c % 64) % 64 = c by omega, if_pos (by omega)]
theorem short_none (l : List UInt8) (hne : l ≠ []) (h : (l.length = 1 ∧ 192 ≤ (l.getD 0 0).toNat) ∨ (l.length = 2 ∧ 224 ≤ (l.getD 0 0).toNat) ∨ (l.length = 3 ∧ 240 ≤ (l.getD 0 0).toNat)) : cnt l = none := by
  have : decodeL l = (65533, 1) := by
    rw [decodeL_N]
    have h0 := UInt8.toNat_lt (l.getD 0 0)
    generalize (l.getD 0 0).toNat = b0 at h h0
    unfold decodeN
    rw [if_neg (by omega), if_neg (by omega), if_neg (by omega), if_neg (by omega)]
  rw [cnt_step l hne, this]
  rfl
theorem cut_none (c k : Nat) (h : sayable c) (hk : k < (encN c).length) (h0 : 0 < k) : cnt (((encN c).map UInt8.ofNat).take k) = none := by
  unfold sayable at h
  unfold encN at hk ⊢
  by_cases h1 : c < 128
  · rw [if_pos h1] at hk; simp at hk; omega
  rw [if_neg h1] at hk ⊢
  by_cases h2 : c < 2048
  · rw [if_pos h2] at hk ⊢
    have : k = 1 := by simp at hk; omega
    subst this
    refine short_none _ (by simp) (Or.inl ⟨rfl, ?_⟩)
    show 192 ≤ (UInt8.ofNat (192 + c / 64)).toNat
    rw [toNat_ofNat _ (by omega)]; omega
  rw [if_neg h2] at hk ⊢
  by_cases h3 : c < 65536
  · rw [if_pos h3] at hk ⊢
    have : k = 1 ∨ k = 2 := by simp at hk; omega
    rcases this with rfl | rfl
    · refine short_none _ (by simp) (Or.inl ⟨rfl, ?_⟩)
      show 192 ≤ (UInt8.ofNat (224 + c / 4096)).toNat
      rw [toNat_ofNat _ (by omega)]; omega
    · refine short_none _ (by simp) (Or.inr (Or.inl ⟨rfl, ?_⟩))
      show 224 ≤ (UInt8.ofNat (224 + c / 4096)).toNat
      rw [toNat_ofNat _ (by omega)]; omega
  · rw [if_neg h3] at hk ⊢
    have : k = 1 ∨ k = 2 ∨ k = 3 := by simp at hk; omega
    rcases this with rfl | rfl | rfl
    · refine short_none _ (by simp) (Or.inl ⟨rfl, ?_⟩)
      show 192 ≤ (UInt8.ofNat (240 + c / 262144)).toNat
      rw [toNat_ofNat _ (by omega)]; omega
    · refine short_none _ (by simp) (Or.inr (Or.inl ⟨rfl, ?_⟩))
      show 224 ≤ (UInt8.ofNat (240 + c / 262144)).toNat
      rw [toNat_ofNat _ (by omega)]; omega
    · refine short_none _ (by simp) (Or.inr (Or.inr ⟨rfl, ?_⟩))
      show 240 ≤ (UInt8.ofNat (240 + c / 262144)).toNat
      rw [toNat_ofNat _ (by omega)]; omega
theorem enc_len (c : Nat) : 1 ≤ (encN c).length ∧ (encN c).length ≤ 4 := by
  unfold encN
  repeat' split
  all_goals simp
/-- One byte alone. -/
theorem cnt_byte (b : UInt8) : cnt [b] = if b.toNat < 128 ∧ mayR b.toNat = true then some 1 else none := by
  have hb := UInt8.toNat_lt b
  have hd : decodeL [b] = if b.toNat < 128 then (b.toNat, 1) else (65533, 1) := by
    rw [decodeL_N]
    show decodeN 1 b.toNat _ _ _ = _
    unfold decodeN
    split
    · rfl
    · rw [if_neg (by omega), if_neg (by omega), if_neg (by omega)]
  rw [cnt_step [b] (by simp), hd]
  by_cases h : b.toNat < 128
  · rw [if_pos h, okS_of _ _ (by left; omega)]
    by_cases hm : mayR b.toNat = true
    · rw [if_pos hm, if_pos ⟨h, hm⟩]; rfl
    · rw [if_neg hm, if_neg (fun h' => hm h'.2)]
  · rw [if_neg h, if_neg (show ¬ (b.toNat < 128 ∧ mayR b.toNat = true) from fun h' => h h'.1)]
    rfl
end Go.Proofs.YtjhamgodpgkkjaaDoor.MT
