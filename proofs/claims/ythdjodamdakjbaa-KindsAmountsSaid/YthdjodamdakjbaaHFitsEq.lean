/- kinds.Fits and comptoirref07.Fits say the same of any message (out of KindsTell). -/
import Derived.Test.YthdjodamdakjbaaMKx2
import Derived.Test.YthdjodamdakjbaaHKinds
import Derived.Test.YthdjodamdakjbaaHFits
namespace Go.Proofs.Ythdjodamdakjbaa.Eq
open Go.RowKit Go.Proofs.Ythdjodamdakjbaa.MK Go.Proofs.YthdjodamdakjbaaW.PrintWords Go.Proofs.YthdjodamdakjbaaW.PrintLast
theorem toList_inj {a b : ByteArray} (h : a.toList = b.toList) : a = b := by
  have h1 : a.data.toList = b.data.toList := by rw [← ByteArray.toList_eq, ← ByteArray.toList_eq]; exact h
  have : a.data = b.data := Array.toList_inj.1 h1
  cases a; cases b; simp_all
def mem (s : List UInt8) (c : Int) : Bool := s.any fun b => decide ((b.toNat : Int) = c)
theorem bt_get (s : ByteArray) (i : Nat) (h : i < s.data.toList.length) : bt s (i : Int) = ((s.data.toList[i]).toNat : Int) := by
  have h' : i < s.size := by simpa using h
  unfold bt
  simp only [Int.toNat_natCast]
  rw [dif_pos h']
  rfl
theorem len_size (s : ByteArray) : s.data.toList.length = s.size := Array.length_toList
theorem w1 (i : Nat) (h : i < 1000) : wrap64 ((i : Int) + 1) = ((i + 1 : Nat) : Int) := by unfold wrap64; omega
theorem letter_eq (s : ByteArray) (c : Int) (hs : s.size < 1000) (d : Nat) : ∀ (k i : Nat), i + d = s.size → d < k → comptoirref07_letter.l0 k s c (i : Int) = some (mem (s.data.toList.drop i) c) := by
  have hl := len_size s
  induction d with
  | zero =>
    intro k i hi hk
    obtain ⟨k, rfl⟩ : ∃ m, k = m + 1 := ⟨k - 1, by omega⟩
    simp only [comptoirref07_letter.l0]
    rw [if_neg (by omega), List.drop_of_length_le (by omega)]
    rfl
  | succ d ih =>
    intro k i hi hk
    obtain ⟨k, rfl⟩ : ∃ m, k = m + 1 := ⟨k - 1, by omega⟩
    have hi' : i < s.data.toList.length := by omega
    simp only [comptoirref07_letter.l0]
    rw [if_pos (by omega), if_pos (by omega), bt_get s i hi', List.drop_eq_getElem_cons hi', w1 i (by omega), ih k (i + 1) (by omega) (by omega)]
    by_cases e : ((s.data.toList[i]).toNat : Int) = c
    · rw [if_pos e]
      simp only [mem, List.any_cons]
      rw [decide_eq_true e, Bool.true_or]
    · rw [if_neg e]
      simp only [mem, List.any_cons]
      rw [decide_eq_false e, Bool.false_or]
theorem letter_is (s : ByteArray) (c : Int) (hs : s.size < 1000) (k : Nat) (hk : s.size < k) : comptoirref07_letter.f k s c = some (mem s.data.toList c) := by
  unfold comptoirref07_letter.f
  exact letter_eq s c hs s.size k 0 (by omega) hk
theorem ite_and {α : Type} (x y : Bool) (A B : α) : (if x = true then (if y = true then A else B) else B) = if (x && y) = true then A else B := by cases x <;> cases y <;> rfl
theorem ite_and3 {α : Type} (x y z : Bool) (A B : α) : (if x = true then (if (y && z) = true then A else B) else B) = if ((x && y) && z) = true then A else B := by cases x <;> cases y <;> cases z <;> rfl
def tailOf (a5 : ByteArray) (a6 : Int) (a15 : ByteArray) (a14 : Int) : Option Int := if a5.toList = ([] : List UInt8) then (if a6 = 0 then (if a15.toList = ([] : List UInt8) then (if a14 = 0 then (some 0) else (some 19)) else (some 0)) else (some 19)) else (if a15.toList = ([] : List UInt8) then (if a14 = 0 then (some 0) else (some 19)) else (some 0))
section
variable (has must may c m : ByteArray) (a0_0 a0_1 : Int) (a0_2 a0_3 a0_4 a0_5 : ByteArray) (a0_6 : Int) (a0_7 a0_8 a0_9 a0_10 : ByteArray) (a0_11 : Int) (a0_12 a0_13 : ByteArray) (a0_14 : Int) (a0_15 : ByteArray) (l0_16 : List S51) (a0_17 a0_18 : ByteArray) (l0_19 : List S53) (l0_20 : List S55)
theorem loop1 (hs : has.size < 1000) (hm : (must ++ may).size < 1000) (d : Nat) : ∀ (k i : Nat), i + d = has.size → (must ++ may).size + d < k →
    comptoirref07_Fits.l1 k has (i : Int) a0_0 a0_1 a0_2 a0_3 a0_4 a0_5 a0_6 a0_7 a0_8 a0_9 a0_10 a0_11 a0_12 a0_13 a0_14 a0_15 l0_16 a0_17 a0_18 l0_19 l0_20 c m must may =
      if (has.data.toList.drop i).all (fun b => mem (must ++ may).data.toList (b.toNat : Int)) = true then tailOf a0_5 a0_6 a0_15 a0_14 else some 19 := by
  have hl := len_size has
  have hmm : must.size + may.size ≤ 9223372036854775807 := by rw [ByteArray.size_append] at hm; omega
  induction d with
  | zero =>
    intro k i hi hk
    obtain ⟨k, rfl⟩ : ∃ m, k = m + 1 := ⟨k - 1, by omega⟩
    simp only [comptoirref07_Fits.l1]
    rw [if_neg (by omega), List.drop_of_length_le (by omega)]
    rfl
  | succ d ih =>
    intro k i hi hk
    obtain ⟨k, rfl⟩ : ∃ m, k = m + 1 := ⟨k - 1, by omega⟩
    have hi' : i < has.data.toList.length := by omega
    simp only [comptoirref07_Fits.l1]
    rw [if_pos (by omega), if_pos hmm, if_pos (by omega), letter_is _ _ hm k (by omega), bt_get has i hi', List.drop_eq_getElem_cons hi', w1 i (by omega), ih k (i + 1) (by omega) (by omega)]
    simp only [Option.bind_some]
    exact ite_and _ _ _ _
theorem loop0 (hs : has.size < 1000) (ht : must.size < 1000) (hm : (must ++ may).size < 1000) (d : Nat) : ∀ (k i : Nat), i + d = must.size → (must ++ may).size + has.size + 1 + d < k →
    comptoirref07_Fits.l0 k has (i : Int) a0_0 a0_1 a0_2 a0_3 a0_4 a0_5 a0_6 a0_7 a0_8 a0_9 a0_10 a0_11 a0_12 a0_13 a0_14 a0_15 l0_16 a0_17 a0_18 l0_19 l0_20 c m must may =
      if ((must.data.toList.drop i).all (fun b => mem has.data.toList (b.toNat : Int)) && has.data.toList.all (fun b => mem (must ++ may).data.toList (b.toNat : Int))) = true then tailOf a0_5 a0_6 a0_15 a0_14 else some 19 := by
  have hl := len_size must
  induction d with
  | zero =>
    intro k i hi hk
    obtain ⟨k, rfl⟩ : ∃ m, k = m + 1 := ⟨k - 1, by omega⟩
    simp only [comptoirref07_Fits.l0]
    have h0 := loop1 has must may c m a0_0 a0_1 a0_2 a0_3 a0_4 a0_5 a0_6 a0_7 a0_8 a0_9 a0_10 a0_11 a0_12 a0_13 a0_14 a0_15 l0_16 a0_17 a0_18 l0_19 l0_20 hs hm has.size k 0 (by omega) (by omega)
    rw [Int.natCast_zero, List.drop_zero] at h0
    rw [if_neg (by omega), List.drop_of_length_le (by omega), h0]
    rfl
  | succ d ih =>
    intro k i hi hk
    obtain ⟨k, rfl⟩ : ∃ m, k = m + 1 := ⟨k - 1, by omega⟩
    have hi' : i < must.data.toList.length := by omega
    simp only [comptoirref07_Fits.l0]
    rw [if_pos (by omega), if_pos (by omega), letter_is _ _ hs k (by omega), bt_get must i hi', List.drop_eq_getElem_cons hi', w1 i (by omega), ih k (i + 1) (by omega) (by omega)]
    simp only [Option.bind_some]
    exact ite_and3 _ _ _ _ _
end
def okRow (must may : ByteArray) (mustN mayN : Int) (h : ByteArray) (p : Int) : Bool :=
  letsOf mustN mayN p == (must.data.toList.all (fun b => mem h.data.toList (b.toNat : Int)) && h.data.toList.all (fun b => mem (must ++ may).data.toList (b.toNat : Int)))
def refRows : List S37 := (comptoirref07_Rows.f).getD []
theorem refRows_some : comptoirref07_Rows.f = some refRows := rfl
def chk (bs : List Bool) : Bool :=
  match kinds_parts.l0 12 0 bs 11 0, comptoirref07_has.l0 60 (⟨#[]⟩ : ByteArray) bs 0 with
  | some p, some h => decide (h.size < 12) && (List.range 11).all fun j => okRow (rd_T37 refRows ((j + 1 : Nat) : Int)).f2 (rd_T37 refRows ((j + 1 : Nat) : Int)).f3 (rd_T68 theRows (j : Int)).f2 (rd_T68 theRows (j : Int)).f3 h p
  | _, _ => false
theorem all_flags : ∀ b0 b1 b2 b3 b4 b5 b6 b7 b8 b9 b10 : Bool, chk [b0, b1, b2, b3, b4, b5, b6, b7, b8, b9, b10] = true := by decide +kernel

/-! The rows: eleven kinds, and none else. -/
theorem kind_cases (a : Int) : (a < 1 ∨ 11 < a) ∨ ∃ n : Fin 11, a = ((n.val + 1 : Nat) : Int) := by
  by_cases h : a < 1 ∨ 11 < a
  · exact .inl h
  · exact .inr ⟨⟨(a - 1).toNat, by omega⟩, by simp only; omega⟩
theorem of_none (a : Int) (h : a < 1 ∨ 11 < a) : kinds_of.f a = some (⟨#[]⟩, ⟨#[]⟩, 0, 0) := by
  unfold kinds_of.f
  rcases h with h | h
  · rw [if_pos h]
  · rw [if_neg (by omega), if_pos (by omega)]
theorem row_none (a : Int) (h : a < 1 ∨ 11 < a) : comptoirref07_row.f a = some (⟨#[]⟩, ⟨#[]⟩, ⟨#[]⟩, ⟨#[]⟩) := by
  unfold comptoirref07_row.f
  rw [refRows_some, Option.bind_some]
  rcases h with h | h
  · rw [if_pos h]
  · rw [if_neg (by omega), if_pos (by have : refRows.length = 12 := rfl; omega)]
def kOf (n : Fin 11) : ByteArray × ByteArray × Int × Int := ((rd_T68 theRows (n.val : Int)).f0, (rd_T68 theRows (n.val : Int)).f1, (rd_T68 theRows (n.val : Int)).f2, (rd_T68 theRows (n.val : Int)).f3)
def rOf (n : Fin 11) : ByteArray × ByteArray × ByteArray × ByteArray := ((rd_T37 refRows ((n.val + 1 : Nat) : Int)).f0, (rd_T37 refRows ((n.val + 1 : Nat) : Int)).f1, (rd_T37 refRows ((n.val + 1 : Nat) : Int)).f2, (rd_T37 refRows ((n.val + 1 : Nat) : Int)).f3)
theorem of_some : ∀ n : Fin 11, kinds_of.f ((n.val + 1 : Nat) : Int) = some (kOf n) := by decide +kernel
theorem row_some : ∀ n : Fin 11, comptoirref07_row.f ((n.val + 1 : Nat) : Int) = some (rOf n) := by decide +kernel
theorem rows_alike : ∀ n : Fin 11, (kOf n).1 = (rOf n).1 ∧ (kOf n).2.1 = (rOf n).2.1 ∧ (kOf n).2.1.toList.isEmpty = false ∧ (rOf n).1.toList ≠ [] ∧ (rOf n).2.2.1.size < 12 ∧ ((rOf n).2.2.1 ++ (rOf n).2.2.2).size < 12 := by decide +kernel
/-! Whether a message fits. -/
theorem ends_alike (b : Bool) (a5 : ByteArray) (a6 : Int) (a15 : ByteArray) (a14 : Int) :
    (if b = true then tailOf a5 a6 a15 a14 else some 19) = some (fitsEnd b a5.toList.isEmpty (a6 != 0) a15.toList.isEmpty (a14 != 0)) := by
  have h0 : ∀ l : List UInt8, (l = []) ↔ l.isEmpty = true := fun l => by cases l <;> simp
  unfold tailOf fitsEnd
  simp only [h0]
  cases b <;> cases a5.toList.isEmpty <;> cases a15.toList.isEmpty <;> by_cases h6 : a6 = 0 <;> by_cases h14 : a14 = 0 <;> simp [h6, h14]
section
variable (a0_0 a0_1 : Int) (a0_2 a0_3 a0_4 a0_5 : ByteArray) (a0_6 : Int) (a0_7 a0_8 a0_9 a0_10 : ByteArray) (a0_11 : Int) (a0_12 a0_13 : ByteArray) (a0_14 : Int) (a0_15 : ByteArray) (l0_16 : List S51) (a0_17 a0_18 : ByteArray) (l0_19 : List S53) (l0_20 : List S55)
theorem fits_eq : comptoirref07_Fits.f 60 a0_0 a0_1 a0_2 a0_3 a0_4 a0_5 a0_6 a0_7 a0_8 a0_9 a0_10 a0_11 a0_12 a0_13 a0_14 a0_15 l0_16 a0_17 a0_18 l0_19 l0_20 = kinds_Fits.f a0_0 a0_1 a0_2 a0_3 a0_4 a0_5 a0_6 a0_7 a0_8 a0_9 a0_10 a0_11 a0_12 a0_13 a0_14 a0_15 l0_16 a0_17 a0_18 l0_19 l0_20 := by
  unfold comptoirref07_Fits.f kinds_Fits.f
  rcases kind_cases a0_0 with h | ⟨n, rfl⟩
  · rw [of_none a0_0 h, row_none a0_0 h, Option.bind_some, Option.bind_some, if_pos (by kernel_rfl), if_pos (by kernel_rfl)]
  · obtain ⟨_, _, h3, h4, h5, h6⟩ := rows_alike n
    rw [of_some, row_some, Option.bind_some, Option.bind_some, if_neg h4, if_neg (by rw [h3]; decide)]
    unfold comptoirref07_has.f kinds_parts.f
    rw [Option.bind_some]
    generalize (a0_4.toList != ([] : List UInt8)) = b0
    generalize (a0_5.toList != ([] : List UInt8)) = b1
    generalize (a0_7.toList != ([] : List UInt8)) = b2
    generalize (a0_8.toList != ([] : List UInt8)) = b3
    generalize (a0_9.toList != ([] : List UInt8)) = b4
    generalize (a0_10.toList != ([] : List UInt8)) = b5
    generalize (a0_11 != 0) = b6
    generalize (a0_12.toList != ([] : List UInt8)) = b7
    generalize (a0_13.toList != ([] : List UInt8)) = b8
    generalize (a0_15.toList != ([] : List UInt8)) = b9
    generalize (decide ((l0_16.length : Int) > 0)) = b10
    have hc := all_flags b0 b1 b2 b3 b4 b5 b6 b7 b8 b9 b10
    have hlen : (([b0, b1, b2, b3, b4, b5, b6, b7, b8, b9, b10] : List Bool).length : Int) = 11 := rfl
    rw [hlen]
    generalize ([b0, b1, b2, b3, b4, b5, b6, b7, b8, b9, b10] : List Bool) = bs at hc ⊢
    unfold chk at hc
    cases hp : kinds_parts.l0 12 0 bs 11 0 with
    | none => simp [hp] at hc
    | some p =>
      cases hh : comptoirref07_has.l0 60 (⟨#[]⟩ : ByteArray) bs 0 with
      | none => simp [hp, hh] at hc
      | some s =>
        simp only [hp, hh, Bool.and_eq_true, decide_eq_true_eq, List.all_eq_true] at hc
        have hj := hc.2 n.val (by simp)
        unfold okRow at hj
        rw [Option.bind_some, Option.bind_some]
        have hl := loop0 s (rOf n).2.2.1 (rOf n).2.2.2 (rOf n).1 (rOf n).2.1 ((n.val + 1 : Nat) : Int) a0_1 a0_2 a0_3 a0_4 a0_5 a0_6 a0_7 a0_8 a0_9 a0_10 a0_11 a0_12 a0_13 a0_14 a0_15 l0_16 a0_17 a0_18 l0_19 l0_20 (by omega) (by omega) (by omega) (rOf n).2.2.1.size 60 0 (by omega) (by omega)
        rw [Int.natCast_zero, List.drop_zero] at hl
        rw [hl, ends_alike]
        have := eq_of_beq hj
        have e : letsOf (kOf n).2.2.1 (kOf n).2.2.2 p = ((rOf n).2.2.1.data.toList.all (fun b => mem s.data.toList (b.toNat : Int)) && s.data.toList.all (fun b => mem ((rOf n).2.2.1 ++ (rOf n).2.2.2).data.toList (b.toNat : Int))) := this
        rw [e]
end
end Go.Proofs.Ythdjodamdakjbaa.Eq
