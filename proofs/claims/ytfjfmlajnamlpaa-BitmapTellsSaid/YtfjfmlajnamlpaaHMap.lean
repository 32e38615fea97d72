/- Plain: bytes as bits: which bits are set behind bits.set, and that bytes are told by their bits. -/
import Derived.Test.YtfjfmlajnamlpaaHBits
import Derived.Laws.BitsAllLaws
namespace Go.Proofs.Ytfjfmlajnamlpaa.MB
open Go.RowKit Go.Proofs.YtfjfmlajnamlpaaW.PrintWords Go.Proofs.YtfjfmlajnamlpaaW.PrintLast

/-- Each number is a byte. -/
def Bytes8 (xs : List Int) : Prop := ∀ x ∈ xs, 0 ≤ x ∧ x < 256
theorem bytes_rd {xs : List Int} (h : Bytes8 xs) (i : Int) : 0 ≤ rd xs i ∧ rd xs i < 256 := by
  unfold rd
  rw [List.getD_eq_getElem?_getD]
  rcases Nat.lt_or_ge i.toNat xs.length with h1 | h1
  · rw [List.getElem?_eq_getElem h1]
    exact h _ (List.getElem_mem h1)
  · rw [List.getElem?_eq_none h1]
    exact ⟨by decide, by decide⟩
theorem bytes_set {xs : List Int} (h : Bytes8 xs) (i : Nat) (x : Int) (hx : 0 ≤ x ∧ x < 256) : Bytes8 (xs.set i x) := by
  intro y hy
  rcases List.mem_or_eq_of_mem_set hy with h1 | h1
  · exact h y h1
  · rw [h1]; exact hx
theorem bytes_zeros (n : Nat) : Bytes8 (List.replicate n 0) := by
  intro x hx
  rw [List.eq_of_mem_replicate hx]
  exact ⟨by decide, by decide⟩
/-- Bit n of bytes, from 1 on. -/
def hasBit (xs : List Int) (n : Int) : Bool := (rd xs ((n - 1) / 8)).toNat.testBit (7 - (n - 1) % 8).toNat
theorem orBit_spec (x n : Int) (hx : 0 ≤ x ∧ x < 256) : (0 ≤ orBit x n ∧ orBit x n < 256) ∧ ∀ j, (orBit x n).toNat.testBit j = (x.toNat.testBit j || decide ((7 - (n - 1) % 8).toNat = j)) := by
  have hk : (7 - (n - 1) % 8).toNat ≤ 7 := by omega
  generalize hkk : (7 - (n - 1) % 8).toNat = k at hk
  have h2 : ((2 : Int) ^ k % 256) = ((2 ^ k : Nat) : Int) := by
    have h7 : (2 : Nat) ^ k ≤ 2 ^ 7 := Nat.pow_le_pow_right (by decide) hk
    have e : ((2 : Int) ^ k) = ((2 ^ k : Nat) : Int) := by simp
    rw [e]
    generalize (2 : Nat) ^ k = p at h7 ⊢
    omega
  have h3 : (2 : Nat) ^ k < 256 := by
    have : (2 : Nat) ^ k ≤ 2 ^ 7 := Nat.pow_le_pow_right (by decide) hk
    omega
  have he : orBit x n = ((x.toNat ||| 2 ^ k : Nat) : Int) := by
    unfold orBit
    rw [hkk, h2]
    generalize (2 : Nat) ^ k = p at h3 ⊢
    rw [u8_or x _ hx.1 hx.2 (by omega) (by omega), Int.toNat_natCast]
  rw [he]
  have hlt : x.toNat ||| 2 ^ k < 2 ^ 8 := Nat.or_lt_two_pow (by omega) (by omega)
  refine ⟨⟨by omega, by omega⟩, fun j => ?_⟩
  rw [Int.toNat_natCast, Nat.testBit_or, Nat.testBit_two_pow]
theorem setBit_bytes {xs : List Int} (h : Bytes8 xs) (n : Int) : Bytes8 (setBit xs n) := bytes_set h _ _ (orBit_spec _ n (bytes_rd h _)).1
theorem fold_bytes (l : List Int) : ∀ {xs : List Int}, Bytes8 xs → Bytes8 (l.foldl setBit xs) := by
  induction l with
  | nil => intro xs h; exact h
  | cons n l ih => intro xs h; exact ih (setBit_bytes h n)
theorem rd_set (xs : List Int) (i : Nat) (x : Int) (j : Int) (hj : 0 ≤ j) (hi : i < xs.length) : rd (xs.set i x) j = if (i : Int) = j then x else rd xs j := by
  unfold rd
  rw [List.getD_eq_getElem?_getD, List.getD_eq_getElem?_getD, List.getElem?_set]
  by_cases e : i = j.toNat
  · rw [if_pos e, if_pos hi, if_pos (by omega)]; rfl
  · rw [if_neg e, if_neg (by omega)]
theorem setBit_has (xs : List Int) (h : Bytes8 xs) (n m : Int) (h1 : 1 ≤ n) (h2 : n ≤ 8 * xs.length) (h3 : 1 ≤ m) : hasBit (setBit xs n) m = (hasBit xs m || decide (n = m)) := by
  unfold hasBit setBit
  rw [rd_set _ _ _ _ (by omega) (by omega)]
  by_cases e : (n - 1) / 8 = (m - 1) / 8
  · rw [if_pos (by omega), (orBit_spec _ n (bytes_rd h _)).2, e]
    congr 1
    rw [decide_eq_decide]
    omega
  · rw [if_neg (by omega)]
    have : ¬ n = m := fun h => e (by rw [h])
    simp [this]
theorem fold_has (l : List Int) : ∀ (xs : List Int), Bytes8 xs → (∀ n ∈ l, 1 ≤ n ∧ n ≤ 8 * xs.length) → ∀ m : Int, 1 ≤ m → hasBit (l.foldl setBit xs) m = (hasBit xs m || decide (m ∈ l)) := by
  induction l with
  | nil => intro xs _ _ m _; simp
  | cons n l ih =>
    intro xs hb hl m hm
    have hn := hl n List.mem_cons_self
    rw [List.foldl_cons, ih (setBit xs n) (setBit_bytes hb n) (fun q hq => by rw [setBit_length]; exact hl q (List.mem_cons_of_mem _ hq)) m hm, setBit_has xs hb n m hn.1 hn.2 hm]
    simp only [List.mem_cons, Bool.decide_or, Bool.or_assoc]
    congr 2
    rw [decide_eq_decide]
    exact eq_comm
theorem zeros_rd (n : Nat) (i : Int) : rd (List.replicate n 0) i = 0 := by
  unfold rd
  rw [List.getD_eq_getElem?_getD, List.getElem?_replicate]
  split <;> rfl
theorem zeros_has (n : Nat) (m : Int) : hasBit (List.replicate n 0) m = false := by
  unfold hasBit
  rw [zeros_rd]
  exact Nat.zero_testBit _
/-- A byte is told by its bits. -/
theorem byte_ext (x y : Int) (hx : 0 ≤ x ∧ x < 256) (hy : 0 ≤ y ∧ y < 256) (h : ∀ j : Nat, j < 8 → x.toNat.testBit j = y.toNat.testBit j) : x = y := by
  have : x.toNat = y.toNat := by
    apply Nat.eq_of_testBit_eq
    intro j
    rcases Nat.lt_or_ge j 8 with h1 | h1
    · exact h j h1
    · rw [Nat.testBit_lt_two_pow (Nat.lt_of_lt_of_le (show x.toNat < 2 ^ 8 by omega) (Nat.pow_le_pow_right (by decide) h1)), Nat.testBit_lt_two_pow (Nat.lt_of_lt_of_le (show y.toNat < 2 ^ 8 by omega) (Nat.pow_le_pow_right (by decide) h1))]
  omega
theorem has_bit (xs : List Int) (i : Int) (j : Nat) (hj : j < 8) : hasBit xs (8 * i + 8 - j) = (rd xs i).toNat.testBit j := by
  unfold hasBit
  rw [show (8 * i + 8 - (j : Int) - 1) / 8 = i from by omega, show (7 - (8 * i + 8 - (j : Int) - 1) % 8).toNat = j from by omega]
theorem bytes_ext (xs ys : List Int) (hx : Bytes8 xs) (hy : Bytes8 ys) (hl : xs.length = ys.length) (h : ∀ m : Int, 1 ≤ m → m ≤ 8 * xs.length → hasBit xs m = hasBit ys m) : xs = ys := by
  apply List.ext_getElem hl
  intro i h1 h2
  have e1 : xs[i] = rd xs (i : Int) := by simp [rd, List.getD_eq_getElem?_getD, List.getElem?_eq_getElem h1]
  have e2 : ys[i] = rd ys (i : Int) := by simp [rd, List.getD_eq_getElem?_getD, List.getElem?_eq_getElem h2]
  rw [e1, e2]
  refine byte_ext _ _ (bytes_rd hx _) (bytes_rd hy _) fun j hj => ?_
  rw [← has_bit xs i j hj, ← has_bit ys i j hj]
  exact h _ (by omega) (by omega)

/-! ### what is written -/
def bitsOf (was : Int) (l : List Int) : List Int := l.foldl setBit (startBits was)
theorem start_bytes (was : Int) : Bytes8 (startBits was) := by
  unfold startBits
  split
  · exact setBit_bytes (bytes_zeros 16) 1
  · exact bytes_zeros 8
theorem start_length (was : Int) : (startBits was).length = if 64 < was then 16 else 8 := by
  unfold startBits
  split
  · rw [setBit_length]; rfl
  · rfl
theorem start_has (was m : Int) (hm : 1 ≤ m) : hasBit (startBits was) m = decide (64 < was ∧ m = 1) := by
  unfold startBits
  split
  · rename_i h
    rw [setBit_has _ (bytes_zeros 16) 1 m (by decide) (by decide) hm, zeros_has]
    simp [h, eq_comm]
  · rename_i h
    rw [zeros_has]
    simp [h]
theorem bitsOf_bytes (was : Int) (l : List Int) : Bytes8 (bitsOf was l) := fold_bytes l (start_bytes was)
theorem bitsOf_length (was : Int) (l : List Int) : (bitsOf was l).length = if 64 < was then 16 else 8 := by
  unfold bitsOf
  rw [foldBit_length, start_length]
theorem bitsOf_has (l : List Int) (z : Int) (h : scanL 1 l = some z) (m : Int) (hm : 1 ≤ m) : hasBit (bitsOf z l) m = (decide (64 < z ∧ m = 1) || decide (m ∈ l)) := by
  have hb := scan_bounds l 1 z h
  unfold bitsOf
  rw [fold_has l _ (start_bytes z) (fun n hn => ?_) m hm, start_has z m hm]
  have := hb.2 n hn
  rw [start_length]
  split <;> omega
theorem write_some (l : List Int) (z : Int) (h : scanL 1 l = some z) : bitmap_Write.f l = some (bitsOf z l, 0) := by
  unfold bitmap_Write.f bitsOf
  rw [h]
theorem write_none (l : List Int) (h : scanL 1 l = none) : bitmap_Write.f l = some ([], 1) := by
  unfold bitmap_Write.f
  rw [h]
theorem scan_append (l h : List Int) : ∀ was, scanL was (l ++ h) = (scanL was l).bind fun z => scanL z h := by
  induction l with
  | nil => intro was; rfl
  | cons n l ih =>
    intro was
    simp only [List.cons_append, scanL]
    by_cases c1 : n ≤ was
    · rw [if_pos c1, if_pos c1]; rfl
    by_cases c2 : 128 < n
    · rw [if_neg c1, if_pos c2, if_neg c1, if_pos c2]; rfl
    by_cases c3 : n = 65
    · rw [if_neg c1, if_neg c2, if_pos c3, if_neg c1, if_neg c2, if_pos c3]; rfl
    rw [if_neg c1, if_neg c2, if_neg c3, if_neg c1, if_neg c2, if_neg c3, ih]
theorem scan_snoc (l : List Int) (was z n : Int) (h : scanL was l = some z) (h1 : z < n) (h2 : n ≤ 128) (h3 : n ≠ 65) : scanL was (l ++ [n]) = some n := by
  rw [scan_append, h, Option.bind_some]
  simp only [scanL]
  rw [if_neg (by omega), if_neg (by omega), if_neg h3]
end Go.Proofs.Ytfjfmlajnamlpaa.MB
