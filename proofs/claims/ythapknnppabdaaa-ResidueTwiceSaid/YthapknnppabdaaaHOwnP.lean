/- Plain: what residue's copies come to: the same lists; and with them own. -/
import Derived.Test.YthapknnppabdaaaMRx14
namespace Go.Proofs.Ythapknnppabdaaa.MR
open Go.RowKit Go.Proofs.YthapknnppabdaaaW.PrintWords Go.Proofs.YthapknnppabdaaaW.PrintLast
set_option linter.unusedVariables false
set_option linter.unusedSimpArgs false

theorem w64_in (n : Int) (h : -9223372036854775808 ≤ n ∧ n ≤ 9223372036854775807) : wrap64 n = n := by unfold wrap64; omega
theorem rd52 (l : List S52) (i : Nat) (h : i < l.length) : rd_T52 l (i : Int) = l[i] := by
  simp [rd_T52, List.getD_eq_getElem?_getD, h]
theorem rd56 (l : List S56) (i : Nat) (h : i < l.length) : rd_T56 l (i : Int) = l[i] := by
  simp [rd_T56, List.getD_eq_getElem?_getD, h]
theorem clone_is (l : List Int) (h : l.length ≤ 140737488355328) : slices_Clone_byte_byte.f l = some l := by unfold slices_Clone_byte_byte.f; rw [if_pos h]
theorem elements_from (l : List S52) (hl : l.length ≤ 4398046511104) (hd : ∀ x ∈ l, x.f1.length ≤ 140737488355328) : ∀ (d i k : Nat), i + d = l.length → d < k → residue_elements.l0 k (l.take i) l (l.length : Int) (i : Int) = some l
  | 0, i, 0, _, hk => by omega
  | 0, i, k + 1, hi, _ => by
    simp only [residue_elements.l0]
    rw [if_neg (by omega), List.take_of_length_le (by omega)]
  | d + 1, i, 0, _, hk => by omega
  | d + 1, i, k + 1, hi, hk => by
    have h1 : i < l.length := by omega
    have h2 : wrap64 ((i : Int) + 1) = ((i + 1 : Nat) : Int) := by rw [w64_in _ ⟨by omega, by omega⟩]; omega
    simp only [residue_elements.l0]
    rw [if_pos (by omega), if_pos (by omega), if_pos (by omega), rd52 l i h1, clone_is _ (hd _ (List.getElem_mem h1)), Option.bind_some, if_pos (by rw [List.length_take]; omega), h2]
    have h3 : l.take i ++ [(⟨l[i].f0, l[i].f1⟩ : S52)] = l.take (i + 1) := List.take_append_getElem h1
    rw [h3]
    exact elements_from l hl hd d (i + 1) k (by omega) (by omega)
theorem elements_is (l : List S52) (hl : l.length ≤ 4398046511104) (hd : ∀ x ∈ l, x.f1.length ≤ 140737488355328) (k : Nat) (hk : l.length < k) : residue_elements.f k l = some l := by
  have := elements_from l hl hd l.length 0 k (by omega) hk
  exact this
theorem tags_from (l : List S56) (hl : l.length ≤ 4398046511104) (hd : ∀ x ∈ l, x.f1.length ≤ 140737488355328) : ∀ (d i k : Nat), i + d = l.length → d < k → residue_tags.l0 k (l.take i) l (l.length : Int) (i : Int) = some l
  | 0, i, 0, _, hk => by omega
  | 0, i, k + 1, hi, _ => by
    simp only [residue_tags.l0]
    rw [if_neg (by omega), List.take_of_length_le (by omega)]
  | d + 1, i, 0, _, hk => by omega
  | d + 1, i, k + 1, hi, hk => by
    have h1 : i < l.length := by omega
    have h2 : wrap64 ((i : Int) + 1) = ((i + 1 : Nat) : Int) := by rw [w64_in _ ⟨by omega, by omega⟩]; omega
    simp only [residue_tags.l0]
    rw [if_pos (by omega), if_pos (by omega), if_pos (by omega), rd56 l i h1, clone_is _ (hd _ (List.getElem_mem h1)), Option.bind_some, if_pos (by rw [List.length_take]; omega), h2]
    have h3 : l.take i ++ [(⟨l[i].f0, l[i].f1⟩ : S56)] = l.take (i + 1) := List.take_append_getElem h1
    rw [h3]
    exact tags_from l hl hd d (i + 1) k (by omega) (by omega)
theorem tags_is (l : List S56) (hl : l.length ≤ 4398046511104) (hd : ∀ x ∈ l, x.f1.length ≤ 140737488355328) (k : Nat) (hk : l.length < k) : residue_tags.f k l = some l := by
  have := tags_from l hl hd l.length 0 k (by omega) hk
  exact this
theorem pairs_is (l : List S48) (h : l.length ≤ 4398046511104) : api_Pair_30.f l = some l := by unfold api_Pair_30.f; rw [if_pos h]
theorem own_is (k : Nat) (a0 a1 : Int) (a2 a3 a4 a5 : ByteArray) (a6 : Int) (a7 a8 a9 a10 : ByteArray) (a11 : Int) (a12 a13 : ByteArray) (a14 : Int) (a15 : ByteArray) (l16 : List S56) (a17 a18 : ByteArray) (l19 : List S48) (l20 : List S52)
    (h16 : l16.length ≤ 4398046511104) (d16 : ∀ x ∈ l16, x.f1.length ≤ 140737488355328) (k16 : l16.length < k) (h19 : l19.length ≤ 4398046511104) (h20 : l20.length ≤ 4398046511104) (d20 : ∀ x ∈ l20, x.f1.length ≤ 140737488355328) (k20 : l20.length < k) :
    residue_own.f k a0 a1 a2 a3 a4 a5 a6 a7 a8 a9 a10 a11 a12 a13 a14 a15 l16 a17 a18 l19 l20 = some (a0, a1, a2, a3, a4, a5, a6, a7, a8, a9, a10, a11, a12, a13, a14, a15, l16, a17, a18, l19, l20) := by
  unfold residue_own.f
  rw [tags_is l16 h16 d16 k k16, Option.bind_some, pairs_is l19 h19, Option.bind_some, elements_is l20 h20 d20 k k20, Option.bind_some]
end Go.Proofs.Ythapknnppabdaaa.MR
