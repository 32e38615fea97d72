/- The pure statement of comptoirlaw04.TextPlain: blanks at the ends, and signs below 32, are not plain; so many characters, and no more. -/
import Derived.Test.YtjhamgodpgkkjaaDoorHLine
import Derived.Test.YtjhamgodpgkkjaaDoorMTx5
namespace Go.Proofs.YtjhamgodpgkkjaaDoor.Pure
open Go.RowKit Go.Proofs.YtjhamgodpgkkjaaDoor.MT Go.Proofs.YtjhamgodpgkkjaaDoorW.PrintWords Go.Proofs.YtjhamgodpgkkjaaDoorW.PrintLast

theorem lapp (a b : ByteArray) : (a ++ b).data.toList = a.data.toList ++ b.data.toList := by
  rw [ByteArray.data_append, Array.toList_append]
theorem TextPlain : comptoirlaw04_TextPlain.Pure := by
  intro a0 a1 h0 h1
  unfold comptoirlaw04_TextPlain.f
  by_cases g0 : (a0.size : Int) > 300
  · rw [if_pos g0, awake_tell]; rfl
  rw [if_neg g0]
  have s0 : a0.size < 1099511627776 := by omega
  have z0 : a0.data.toList.length = a0.size := Array.length_toList
  have sB : ((⟨#[32]⟩ : ByteArray) ++ a0).size < 1099511627776 := by rw [ByteArray.size_append]; have : (⟨#[32]⟩ : ByteArray).size = 1 := rfl; omega
  have sE : (a0 ++ (⟨#[32]⟩ : ByteArray)).size = a0.size + 1 := by rw [ByteArray.size_append]; rfl
  have sN : (a0 ++ (⟨#[10]⟩ : ByteArray)).size = a0.size + 1 := by rw [ByteArray.size_append]; rfl
  have sE2 : ((a0 ++ (⟨#[32]⟩ : ByteArray)) ++ a0).size < 1099511627776 := by rw [ByteArray.size_append, sE]; omega
  have sN2 : ((a0 ++ (⟨#[10]⟩ : ByteArray)) ++ a0).size < 1099511627776 := by rw [ByteArray.size_append, sN]; omega
  have pB : plainL (((⟨#[32]⟩ : ByteArray) ++ a0).data.toList) 0 400 = false := by rw [lapp]; exact plainL_head _ _ _ rfl
  have pE : plainL ((a0 ++ (⟨#[32]⟩ : ByteArray)).data.toList) 0 400 = false := by rw [lapp]; exact plainL_last _ _ _ (by show (a0.data.toList ++ [32]).getLast? = some 32; simp)
  have pN : plainL (((a0 ++ (⟨#[10]⟩ : ByteArray)) ++ a0).data.toList) 0 700 = false := by
    rw [lapp, lapp]; exact plainL_low _ _ _ 10 (by show (10 : UInt8) ∈ a0.data.toList ++ [10] ++ a0.data.toList; simp) (by decide)
  rw [text_runes_some a0 s0, text_plain_some a0 _ _ s0, awake_tell, text_plain_some _ _ _ sB, text_plain_some _ _ _ (show (a0 ++ (⟨#[32]⟩ : ByteArray)).size < 1099511627776 by omega), text_plain_some _ _ _ sN2, text_plain_some a0 _ _ s0, text_plain_some a0 _ _ s0, text_plain_some _ _ _ sE2]
  simp only [plainB_L, pB, pE, pN, Option.bind_some, if_true, Bool.false_eq_true, if_false]
  rw [if_pos (by omega), if_pos (by omega), if_pos (by omega)]
  cases hp : plainL a0.data.toList 0 300 with
  | false => rfl
  | true =>
    obtain ⟨m, hm, _, _, _⟩ := (plainL_iff _ _ _).1 hp
    rw [if_pos rfl, plainL_top _ _ _ m hm hp, plainL_least _ _ _ m hm hp, hm]
    simp only [Option.getD_some, ge_iff_le, beq_self_eq_true, if_true]
    by_cases hne : a0.toList = []
    · rw [if_pos hne]
    · rw [if_neg hne, if_pos (by omega), lapp, lapp]
      have hne' : a0.data.toList ≠ [] := by rw [← ByteArray.toList_eq]; exact hne
      have := plainL_two _ hne' hp
      congr 1
      rw [List.append_assoc]
      exact this

end Go.Proofs.YtjhamgodpgkkjaaDoor.Pure
