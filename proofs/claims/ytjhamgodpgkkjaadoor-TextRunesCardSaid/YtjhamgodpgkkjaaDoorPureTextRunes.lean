/- The pure statement of comptoirlaw04.TextRunes: of each character, written as Go writes it, whether it may be; cut it may not. -/
import Derived.Test.YtjhamgodpgkkjaaDoorHLine
import Derived.Test.YtjhamgodpgkkjaaDoorMTx4
namespace Go.Proofs.YtjhamgodpgkkjaaDoor.Pure
open Go.RowKit Go.Proofs.YtjhamgodpgkkjaaDoor.MT Go.Proofs.YtjhamgodpgkkjaaDoorW.PrintWords Go.Proofs.YtjhamgodpgkkjaaDoorW.PrintLast

theorem short_list (s : ByteArray) (k : Nat) : (s.extract 0 k).data.toList = s.data.toList.take k := by
  rw [ByteArray.data_extract, Array.toList_extract, List.extract_eq_take_drop, List.drop_zero, Nat.sub_zero]
theorem mx_sub (n q : Nat) (hn : n ≤ 4) (hq : q ≤ 3) : mx 0 (wrap64 ((n : Int) - (q : Int))) = ((n - q : Nat) : Int) := by
  have : wrap64 ((n : Int) - (q : Int)) = (n : Int) - (q : Int) := by unfold wrap64; omega
  rw [this]
  unfold mx
  split <;> omega
theorem empty_tell : text_Utf8.f (⟨#[]⟩ : ByteArray) = some true ∧ text_Runes.f (⟨#[]⟩ : ByteArray) = some 0 := by
  have h : (⟨#[]⟩ : ByteArray).size < 1099511627776 := by decide
  rw [text_utf8_some _ h, text_runes_some _ h]
  exact ⟨rfl, rfl⟩
theorem TextRunes : comptoirlaw04_TextRunes.Pure := by
  intro a0 a1 h0 h1
  refine ⟨1, ?_⟩
  unfold comptoirlaw04_TextRunes.f
  obtain ⟨c, hc, hlt⟩ : ∃ c : Nat, wrap64 (Int.tmod (IntKind.u64.wrap a0) 1200000) = (c : Int) ∧ c < 1200000 := by
    have e : IntKind.u64.wrap a0 = a0 % 18446744073709551616 := by rw [IntKind.wrap_u64]
    have h0 : 0 ≤ IntKind.u64.wrap a0 := by rw [e]; omega
    have h1 : Int.tmod (IntKind.u64.wrap a0) 1200000 = IntKind.u64.wrap a0 % 1200000 := Int.tmod_eq_emod_of_nonneg h0
    refine ⟨(IntKind.u64.wrap a0 % 1200000).toNat, ?_, by omega⟩
    rw [h1, w64 _ (by omega) (by omega)]
    omega
  rw [hc, Char_eq, Option.bind_some]
  have hw32 : wrap32 (c : Int) = (c : Int) := by unfold wrap32; omega
  rw [hw32]
  obtain ⟨q, hq, hq1, hq3⟩ : ∃ q : Nat, wrap64 (1 + wrap64 (Int.tmod (IntKind.u64.wrap a1) 3)) = (q : Int) ∧ 1 ≤ q ∧ q ≤ 3 := by
    have e : IntKind.u64.wrap a1 = a1 % 18446744073709551616 := by rw [IntKind.wrap_u64]
    have h0 : 0 ≤ IntKind.u64.wrap a1 := by rw [e]; omega
    have h1 : Int.tmod (IntKind.u64.wrap a1) 3 = IntKind.u64.wrap a1 % 3 := Int.tmod_eq_emod_of_nonneg h0
    refine ⟨(1 + IntKind.u64.wrap a1 % 3).toNat, ?_, by omega, by omega⟩
    rw [h1, w64 (IntKind.u64.wrap a1 % 3) (by omega) (by omega), w64 _ (by omega) (by omega)]
    omega
  have bad : ∀ x : Int, Utf8.valid x = false → text_Utf8.f (Utf8.encode x) = some true := by
    intro x hx
    have e := enc_bad x hx
    have z : (Utf8.encode x).data.toList.length = (Utf8.encode x).size := data_length _
    rw [e] at z
    rw [text_utf8_some _ (by simp at z; omega), e]
    rfl
  by_cases g1 : (c : Int) > 1114111
  · rw [if_pos g1]
    simp only [comptoirlaw04_TextRunes.j0, if_true]
    rw [awake_tell, bad _ (by unfold Utf8.valid; rw [Bool.eq_false_iff]; simp only [ne_eq, Bool.or_eq_true, Bool.and_eq_true, decide_eq_true_eq]; omega)]
    rfl
  rw [if_neg g1]
  by_cases g2 : 55296 ≤ c ∧ c ≤ 57343
  · rw [if_pos (by omega), decide_eq_true (by omega)]
    simp only [comptoirlaw04_TextRunes.j0, if_true]
    rw [awake_tell, bad _ (by unfold Utf8.valid; rw [Bool.eq_false_iff]; simp only [ne_eq, Bool.or_eq_true, Bool.and_eq_true, decide_eq_true_eq]; omega)]
    rfl
  have hs : sayable c := by unfold sayable; omega
  have hcf : charOf c = mayR c := by
    unfold charOf
    have : (decide (c < 55296) || (decide (57344 ≤ c) && decide (c ≤ 1114111))) = true := by
      rw [Bool.or_eq_true, Bool.and_eq_true, decide_eq_true_eq, decide_eq_true_eq, decide_eq_true_eq]; exact hs
    rw [this, Bool.and_true]
  have e := enc_list c hs
  have hl := enc_len c
  have z : (Utf8.encode (c : Int)).data.toList.length = (Utf8.encode (c : Int)).size := data_length _
  have hcnt := cnt_enc c hs
  have hcut := fun k => cut_none c k hs
  have main : comptoirlaw04_TextRunes.j0 1 a1 (charOf c) (Utf8.encode (c : Int)) false = some true := by
    simp only [comptoirlaw04_TextRunes.j0, Bool.false_eq_true, if_false]
    rw [hq, hcf]
    rw [e, List.length_map] at z
    generalize hS : Utf8.encode (c : Int) = S at e z ⊢
    generalize encN c = L at e z hl hcnt hcut
    have sS : S.size < 1099511627776 := by omega
    have hm : mx 0 (wrap64 ((S.size : Int) - (q : Int))) = ((S.size - q : Nat) : Int) := mx_sub _ _ (by omega) hq3
    rw [hm, Int.toNat_natCast, if_pos (by omega), if_pos (by omega), awake_tell, text_utf8_some S sS, text_runes_some S sS, empty_tell.1, empty_tell.2, e, hcnt]
    have hsh : ¬ (S.extract 0 (S.size - q)).toList = [] → text_Utf8.f (S.extract 0 (S.size - q)) = some false := by
      intro hne
      have hz : (S.extract 0 (S.size - q)).data.toList.length = (S.extract 0 (S.size - q)).size := data_length _
      have hx := short_list S (S.size - q)
      have hk : 0 < S.size - q := by
        rw [ByteArray.toList_eq, hx, e] at hne
        rcases Nat.eq_zero_or_pos (S.size - q) with h' | h'
        · rw [h'] at hne; exact absurd (List.take_zero) hne
        · exact h'
      rw [hx, e, List.length_take, List.length_map] at hz
      rw [text_utf8_some _ (by omega), hx, e, hcut _ (by omega) hk]
      rfl
    by_cases hn : (S.extract 0 (S.size - q)).toList = []
    · cases hmr : mayR c with
      | true => simp [hn]
      | false => simp [hn]
    · rw [hsh hn]
      cases hmr : mayR c with
      | true => simp [hn]
      | false => simp [hn]
  by_cases g3 : (c : Int) ≥ 55296
  · rw [if_pos g3, decide_eq_false (by omega)]
    exact main
  · rw [if_neg g3]
    exact main

end Go.Proofs.YtjhamgodpgkkjaaDoor.Pure
