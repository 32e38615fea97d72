/- The pure statement of comptoirlaw04.TextParts: two texts, one behind the other, are a text of as many characters; with a byte that is none between they are none. -/
import Derived.Test.YtjhamgodpgkkjaaDoorHLine
import Derived.Test.YtjhamgodpgkkjaaDoorMTx5
namespace Go.Proofs.YtjhamgodpgkkjaaDoor.Pure
open Go.RowKit Go.Proofs.YtjhamgodpgkkjaaDoor.MT Go.Proofs.YtjhamgodpgkkjaaDoorW.PrintWords Go.Proofs.YtjhamgodpgkkjaaDoorW.PrintLast

theorem list_app (a b : ByteArray) : (a ++ b).data.toList = a.data.toList ++ b.data.toList := by
  rw [ByteArray.data_append, Array.toList_append]
theorem size_lt (a b : ByteArray) (ha : a.size ≤ 1000) (hb : b.size ≤ 1000) : (a ++ b).size < 1099511627776 := by rw [ByteArray.size_append]; omega
theorem TextParts : comptoirlaw04_TextParts.Pure := by
  intro a0 a1 a2 h0 h1 h2
  refine ⟨2, ?_⟩
  unfold comptoirlaw04_TextParts.f
  have hw : 0 ≤ a2 ∧ a2 ≤ 255 := by simpa [Lit.wf, IntKind.min, IntKind.max, IntKind.signed, IntKind.bits] using h2
  by_cases g0 : (a0.size : Int) > 300
  · rw [if_pos g0]
    simp only [comptoirlaw04_TextParts.j0, if_true]
    rw [awake_tell]; rfl
  rw [if_neg g0]
  by_cases g1 : (a1.size : Int) > 300
  · rw [decide_eq_true g1]
    simp only [comptoirlaw04_TextParts.j0, if_true]
    rw [awake_tell]; rfl
  rw [decide_eq_false g1]
  have s0 : a0.size < 1099511627776 := by omega
  have s1 : a1.size < 1099511627776 := by omega
  have s01 := size_lt a0 a1 (by omega) (by omega)
  simp only [comptoirlaw04_TextParts.j0, comptoirlaw04_TextParts.j1, Bool.false_eq_true, if_false]
  rw [text_utf8_some a0 s0, text_utf8_some a1 s1, text_runes_some a0 s0, text_runes_some a1 s1, awake_tell, text_utf8_some _ s01, text_runes_some _ s01, list_app]
  have l0 := cnt_le a0.data.toList.length a0.data.toList
  have l1 := cnt_le a1.data.toList.length a1.data.toList
  have z0 : a0.data.toList.length = a0.size := Array.length_toList
  have z1 : a1.data.toList.length = a1.size := Array.length_toList
  simp only [Option.bind_some]
  cases c0 : cnt a0.data.toList with
  | none => simp
  | some m0 =>
    have b0 := l0 m0 (Nat.le_refl _) c0
    cases c1 : cnt a1.data.toList with
    | none => simp
    | some m1 =>
      have b1 := l1 m1 (Nat.le_refl _) c1
      have c01 : cnt (a0.data.toList ++ a1.data.toList) = some (m0 + m1) := by rw [cnt_app _ _ _ _ (Nat.le_refl _) c0, c1]; rfl
      simp only [c01, Option.isSome_some, Option.getD_some, if_true]
      have hz : strOfNums [(128 + a2.tmod 128) % 256] = ⟨#[UInt8.ofNat (128 + a2.toNat % 128)]⟩ := by
        have : (128 + a2.tmod 128) % 256 = ((128 + a2.toNat % 128 : Nat) : Int) := by rw [Int.tmod_eq_emod_of_nonneg hw.1]; omega
        rw [this]
        rfl
      rw [hz]
      have hq : (a0 ++ (⟨#[UInt8.ofNat (128 + a2.toNat % 128)]⟩ : ByteArray)).size = a0.size + 1 := by rw [ByteArray.size_append]; rfl
      have hq2 : ((a0 ++ (⟨#[UInt8.ofNat (128 + a2.toNat % 128)]⟩ : ByteArray)) ++ (⟨#[120]⟩ : ByteArray)).size = a0.size + 2 := by rw [ByteArray.size_append, hq]; rfl
      have hq3 : (((a0 ++ (⟨#[UInt8.ofNat (128 + a2.toNat % 128)]⟩ : ByteArray)) ++ (⟨#[120]⟩ : ByteArray)) ++ a1).size < 1099511627776 := by rw [ByteArray.size_append, hq2]; omega
      have hq4 : ((⟨#[UInt8.ofNat (128 + a2.toNat % 128)]⟩ : ByteArray)).size = 1 := rfl
      rw [if_pos (by omega), w64 _ (by omega) (by omega), if_pos (by omega), if_pos (by omega), if_pos (by omega), if_pos (by omega), text_utf8_some _ hq3, list_app, list_app, list_app]
      have : cnt (a0.data.toList ++ [UInt8.ofNat (128 + a2.toNat % 128)] ++ [120] ++ a1.data.toList) = none := by
        rw [List.append_assoc, List.append_assoc, cnt_app _ _ _ _ (Nat.le_refl _) c0]
        show (cnt (UInt8.ofNat (128 + a2.toNat % 128) :: 120 :: a1.data.toList)).map _ = none
        rw [cnt_bad _ _ (by rw [toNat_ofNat _ (by omega)]; omega)]
        rfl
      have e : (⟨#[UInt8.ofNat (128 + a2.toNat % 128)]⟩ : ByteArray).data.toList = [UInt8.ofNat (128 + a2.toNat % 128)] := rfl
      have e2 : (⟨#[120]⟩ : ByteArray).data.toList = [120] := rfl
      rw [e, e2, this]
      rfl

end Go.Proofs.YtjhamgodpgkkjaaDoor.Pure
