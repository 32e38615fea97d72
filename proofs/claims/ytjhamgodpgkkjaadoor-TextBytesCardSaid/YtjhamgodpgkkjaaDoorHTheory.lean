/- Plain: the reference's way of reading a character is the library's; how many characters a text has, over lists of bytes. No program in sight. -/
import Derived.Test.YtjhamgodpgkkjaaDoorMTx3
import Derived.Test.YtjhamgodpgkkjaaDoorHPlain
import Derived.Laws.BitsLemmas
import Derived.Lib.ValidLaws
namespace Go.Proofs.YtjhamgodpgkkjaaDoor.MT
set_option linter.unusedSectionVars false
set_option linter.unusedSimpArgs false
set_option linter.unusedVariables false
open Go.RowKit Go.Proofs.YtjhamgodpgkkjaaDoorW.PrintWords Go.Proofs.YtjhamgodpgkkjaaDoorW.PrintLast Go.Proofs.YtjhamgodpgkkjaaDoorW.PrintMore

theorem wraps_i64 (n : Int) (h₀ : 0 ≤ n) (h₁ : n < 2 ^ 63) : IntKind.i64.wrap n = n := by rw [IntKind.wrap_i64]; omega
theorem i64_or6 (x y : Int) (hx₀ : 0 ≤ x) (hx : x % 64 = 0) (hx₁ : x < 2 ^ 63) (h₀ : 0 ≤ y) (h₁ : y < 64) : Go.bits .or .i64 x y = x + y :=
  bits_join .i64 63 (by decide) wraps_i64 6 x y hx₀ hx hx₁ h₀ h₁ (by omega)
theorem i64_and31 (x : Int) (h₀ : 0 ≤ x) (h₁ : x < 256) : Go.bits .and .i64 x 31 = x % 32 := bits_mask .i64 63 (by decide) wraps_i64 5 (by decide) x h₀ (by omega)
theorem i64_and15 (x : Int) (h₀ : 0 ≤ x) (h₁ : x < 256) : Go.bits .and .i64 x 15 = x % 16 := bits_mask .i64 63 (by decide) wraps_i64 4 (by decide) x h₀ (by omega)
theorem i64_and7 (x : Int) (h₀ : 0 ≤ x) (h₁ : x < 256) : Go.bits .and .i64 x 7 = x % 8 := bits_mask .i64 63 (by decide) wraps_i64 3 (by decide) x h₀ (by omega)
set_option maxRecDepth 100000 in
theorem u8_and192 : ∀ b : Fin 256, (Go.bits .and .u8 ((b.val : Nat) : Int) 192 = 128) ↔ b.val / 64 = 2 := by decide
theorem u8_192 (b : Nat) (h : b < 256) : (Go.bits .and .u8 (b : Int) 192 = 128) ↔ b / 64 = 2 := u8_and192 ⟨b, h⟩
theorem w64 (x : Int) (h₀ : 0 ≤ x) (h₁ : x < 9223372036854775808) : wrap64 x = x := by unfold wrap64; omega
theorem bt_g (s : ByteArray) (i : Nat) (h : i < s.size) : bt s (i : Int) = ((s.get! i).toNat : Int) := by
  rw [bt_get s i (by simpa using h), ← Lib.getD_get!']
  simp [List.getD_eq_getElem?_getD, h]
theorem g_lt (s : ByteArray) (i : Nat) : (s.get! i).toNat < 256 := UInt8.toNat_lt _

def charOf (c : Nat) : Bool := mayR c && (decide (c < 55296) || (decide (57344 ≤ c) && decide (c ≤ 1114111)))
theorem Char_eq (c : Nat) : comptoirref01_Char.f (c : Int) = some (charOf c) := by
  unfold comptoirref01_Char.f charOf mayR
  repeat' split
  all_goals
    rw [Option.some.injEq, Bool.eq_iff_iff]
    simp only [Bool.and_eq_true, Bool.or_eq_true, decide_eq_true_eq, beq_iff_eq, bne_iff_ne, ne_eq, true_iff, Bool.false_eq_true, false_iff]
    omega

theorem w_ik (i k : Nat) (h : i + k < 9223372036854775808) : wrap64 ((i : Int) + k) = ((i + k : Nat) : Int) := by rw [w64 _ (by omega) (by omega)]; omega
theorem w_k (k : Nat) (h : k < 9223372036854775807) : wrap64 ((k : Int) + 1) = ((k + 1 : Nat) : Int) := by rw [w64 _ (by omega) (by omega)]; omega
theorem or6 (c b : Nat) (hc : c < 1048576) : Go.bits .or .i64 ((c : Int) * 64) ((b : Int) % 64) = (c : Int) * 64 + (b : Int) % 64 := i64_or6 _ _ (by omega) (by omega) (by omega) (by omega) (by omega)
theorem and63 (b : Nat) (hb : b < 256) : Go.bits .and .u8 (b : Int) 63 = (b : Int) % 64 := u8_and63 _ (by omega) (by omega)
theorem val_step (c b : Nat) (hc : c < 1048576) (hb : b < 256) : Go.bits .or .i64 (wrap64 ((c : Int) * 64)) (wrap64 (Go.bits .and .u8 (b : Int) 63)) = ((c * 64 + b % 64 : Nat) : Int) := by
  rw [and63 b hb, w64 ((c : Int) * 64) (by omega) (by omega), w64 ((b : Int) % 64) (by omega) (by omega), or6 c b hc]
  omega
section
variable (s : ByteArray) (i n : Nat) (least : Int) (hs : s.size < 1099511627776) (hn : n ≤ 4)
include hs hn
theorem l0_bad (K k c : Nat) (hk : k < n) (hik : i + k < s.size) (hb : ¬ (s.get! (i + k)).toNat / 64 = 2) :
    comptoirref01_char.l0 (K + 1) s i (c : Int) n least k = some (0, 0) := by
  simp only [comptoirref01_char.l0]
  rw [if_pos (Int.ofNat_lt.2 hk), w_ik i k (by omega), if_pos (Int.natCast_nonneg _), if_pos (Int.ofNat_lt.2 hik), bt_g s _ hik, if_neg]
  intro h
  exact hb ((u8_192 _ (g_lt s (i + k))).1 h)
theorem l0_step (K k c : Nat) (hk : k < n) (hc : c < 1048576) (hik : i + k < s.size) (hb : (s.get! (i + k)).toNat / 64 = 2) :
    comptoirref01_char.l0 (K + 1) s i (c : Int) n least k = comptoirref01_char.l0 K s i ((c * 64 + (s.get! (i + k)).toNat % 64 : Nat) : Int) n least ((k + 1 : Nat) : Int) := by
  simp only [comptoirref01_char.l0]
  rw [if_pos (Int.ofNat_lt.2 hk), w_ik i k (by omega), if_pos (Int.natCast_nonneg _), if_pos (Int.ofNat_lt.2 hik), bt_g s _ hik, if_pos ((u8_192 _ (g_lt s (i + k))).2 hb), val_step _ _ hc (g_lt s (i + k)), w_k k (by omega)]
theorem l0_end (K c : Nat) : comptoirref01_char.l0 (K + 1) s i (c : Int) n least n = if (c : Int) < least then some (0, 0) else if charOf c = true then some ((c : Int), (n : Int)) else some (0, 0) := by
  simp only [comptoirref01_char.l0]
  rw [if_neg (by omega), Char_eq]
  rfl
end
def refChar (d : Nat × Nat) : Int × Int := if d.1 = 65533 ∧ d.2 = 1 then (0, 0) else if mayR d.1 = true then ((d.1 : Int), (d.2 : Int)) else (0, 0)
theorem refChar_bad : refChar (65533, 1) = (0, 0) := by unfold refChar; rw [if_pos ⟨rfl, rfl⟩]
theorem refChar_of (c n : Nat) (h : ¬ (c = 65533 ∧ n = 1)) (hc : c < 55296 ∨ (57344 ≤ c ∧ c ≤ 1114111)) : (if charOf c = true then some ((c : Int), (n : Int)) else some (0, 0)) = some (refChar (c, n)) := by
  have : charOf c = mayR c := by
    unfold charOf
    have : (decide (c < 55296) || (decide (57344 ≤ c) && decide (c ≤ 1114111))) = true := by
      rw [Bool.or_eq_true, Bool.and_eq_true, decide_eq_true_eq, decide_eq_true_eq, decide_eq_true_eq]
      exact hc
    rw [this, Bool.and_true]
  rw [this]
  unfold refChar
  rw [if_neg h]
  split <;> rfl
theorem refChar_none (c n : Nat) (hc : ¬ (c < 55296 ∨ (57344 ≤ c ∧ c ≤ 1114111))) : (if charOf c = true then some ((c : Int), (n : Int)) else some (0, 0)) = some (0, 0) := by
  have : charOf c = false := by
    unfold charOf
    have : (decide (c < 55296) || (decide (57344 ≤ c) && decide (c ≤ 1114111))) = false := by
      rw [Bool.eq_false_iff]
      intro h
      rw [Bool.or_eq_true, Bool.and_eq_true, decide_eq_true_eq, decide_eq_true_eq, decide_eq_true_eq] at h
      exact hc h
    rw [this, Bool.and_false]
  rw [this]
  rfl
theorem and31 (b : Nat) (hb : b < 256) : Go.bits .and .i64 (b : Int) 31 = ((b % 32 : Nat) : Int) := by rw [i64_and31 _ (by omega) (by omega)]; omega
theorem and15 (b : Nat) (hb : b < 256) : Go.bits .and .i64 (b : Int) 15 = ((b % 16 : Nat) : Int) := by rw [i64_and15 _ (by omega) (by omega)]; omega
theorem and7 (b : Nat) (hb : b < 256) : Go.bits .and .i64 (b : Int) 7 = ((b % 8 : Nat) : Int) := by rw [i64_and7 _ (by omega) (by omega)]; omega
theorem j2_eq (s : ByteArray) (i n K : Nat) (c least : Int) (hs : s.size < 1099511627776) (hi : i < s.size) (hn : n ≤ 4) :
    comptoirref01_char.j2 (K + 1) s i c n least = if s.size < i + n then some (0, 0) else comptoirref01_char.l0 K s i c n least 1 := by
  simp only [comptoirref01_char.j2]
  rw [w_ik i n (by omega)]
  by_cases h : s.size < i + n
  · rw [if_pos h, if_pos (Int.ofNat_lt.2 h)]
  · rw [if_neg h, if_neg (fun h' => h (Int.ofNat_lt.1 h'))]
theorem two_eq (s : ByteArray) (i K b0 : Nat) (hs : s.size < 1099511627776) (hi : i < s.size) (h : b0 / 32 = 6) (hb : b0 < 256) :
    comptoirref01_char.j2 (K + 4) s i ((b0 % 32 : Nat) : Int) 2 128 = some (refChar (Lib.decodeN (s.size - i) b0 (s.get! (i + 1)).toNat (s.get! (i + 2)).toNat (s.get! (i + 3)).toNat)) := by
  have hj := j2_eq s i 2 (K + 3) ((b0 % 32 : Nat) : Int) 128 hs hi (by omega)
  rw [show ((2 : Nat) : Int) = 2 from rfl] at hj
  rw [hj]
  unfold Lib.decodeN
  rw [if_neg (show ¬ b0 < 128 by omega)]
  by_cases h2 : s.size < i + 2
  · rw [if_pos h2, if_neg (by omega), if_neg (by omega), if_neg (by omega), refChar_bad]
  rw [if_neg h2]
  by_cases c1 : (s.get! (i + 1)).toNat / 64 = 2
  · have s1 := l0_step s i 2 128 hs (by omega) (K + 2) 1 (b0 % 32) (by omega) (by omega) (by omega) c1
    have s2 := l0_end s i 2 128 hs (by omega) (K + 1) (b0 % 32 * 64 + (s.get! (i + 1)).toNat % 64)
    rw [show ((2 : Nat) : Int) = 2 from rfl, show ((1 : Nat) : Int) = 1 from rfl] at s1
    rw [show ((2 : Nat) : Int) = 2 from rfl] at s2
    rw [s1, s2, if_pos (show b0 / 32 = 6 ∧ 1 < s.size - i ∧ (s.get! (i + 1)).toNat / 64 = 2 from ⟨h, by omega, c1⟩)]
    generalize (s.get! (i + 1)).toNat = b1
    have hcb : b0 % 32 * 64 + b1 % 64 < 2048 := by omega
    generalize b0 % 32 * 64 + b1 % 64 = c at hcb
    by_cases h3 : c < 128
    · rw [if_pos (by omega), if_neg (by omega), refChar_bad]
    · rw [if_neg (by omega), if_pos (show c ≥ 128 by omega)]
      exact refChar_of c 2 (by omega) (by omega)
  · have s1 := l0_bad s i 2 128 hs (by omega) (K + 2) 1 (b0 % 32) (by omega) (by omega) c1
    rw [show ((2 : Nat) : Int) = 2 from rfl, show ((1 : Nat) : Int) = 1 from rfl] at s1
    rw [s1, if_neg (by rintro ⟨_, _, h'⟩; exact c1 h'), if_neg (by omega), if_neg (by omega), refChar_bad]
theorem three_eq (s : ByteArray) (i K b0 : Nat) (hs : s.size < 1099511627776) (hi : i < s.size) (h : b0 / 16 = 14) (hb : b0 < 256) :
    comptoirref01_char.j2 (K + 5) s i ((b0 % 16 : Nat) : Int) 3 2048 = some (refChar (Lib.decodeN (s.size - i) b0 (s.get! (i + 1)).toNat (s.get! (i + 2)).toNat (s.get! (i + 3)).toNat)) := by
  have hj := j2_eq s i 3 (K + 4) ((b0 % 16 : Nat) : Int) 2048 hs hi (by omega)
  rw [show ((3 : Nat) : Int) = 3 from rfl] at hj
  rw [hj]
  unfold Lib.decodeN
  rw [if_neg (show ¬ b0 < 128 by omega), if_neg (show ¬ (b0 / 32 = 6 ∧ 1 < s.size - i ∧ (s.get! (i + 1)).toNat / 64 = 2) by omega)]
  by_cases h2 : s.size < i + 3
  · rw [if_pos h2, if_neg (by omega), if_neg (by omega), refChar_bad]
  rw [if_neg h2]
  by_cases c1 : (s.get! (i + 1)).toNat / 64 = 2
  · have s1 := l0_step s i 3 2048 hs (by omega) (K + 3) 1 (b0 % 16) (by omega) (by omega) (by omega) c1
    rw [show ((3 : Nat) : Int) = 3 from rfl, show ((1 : Nat) : Int) = 1 from rfl] at s1
    rw [s1]
    by_cases c2 : (s.get! (i + 2)).toNat / 64 = 2
    · have s2 := l0_step s i 3 2048 hs (by omega) (K + 2) 2 (b0 % 16 * 64 + (s.get! (i + 1)).toNat % 64) (by omega) (by omega) (by omega) c2
      have s3 := l0_end s i 3 2048 hs (by omega) (K + 1) ((b0 % 16 * 64 + (s.get! (i + 1)).toNat % 64) * 64 + (s.get! (i + 2)).toNat % 64)
      rw [show ((3 : Nat) : Int) = 3 from rfl] at s2 s3
      rw [show ((1 + 1 : Nat) : Int) = ((2 : Nat) : Int) from rfl, s2, s3, if_pos (show b0 / 16 = 14 ∧ (1 < s.size - i ∧ (s.get! (i + 1)).toNat / 64 = 2) ∧ (2 < s.size - i ∧ (s.get! (i + 2)).toNat / 64 = 2) from ⟨h, ⟨by omega, c1⟩, by omega, c2⟩)]
      generalize (s.get! (i + 1)).toNat = b1
      generalize (s.get! (i + 2)).toNat = b2
      rw [show (b0 % 16 * 64 + b1 % 64) * 64 + b2 % 64 = b0 % 16 * 4096 + b1 % 64 * 64 + b2 % 64 by omega]
      generalize hc : b0 % 16 * 4096 + b1 % 64 * 64 + b2 % 64 = c
      by_cases h3 : c < 2048
      · rw [if_pos (by omega), if_neg (by omega), refChar_bad]
      · rw [if_neg (by omega)]
        by_cases h4 : c < 55296 ∨ (57344 ≤ c ∧ c ≤ 1114111)
        · rw [if_pos (show c ≥ 2048 ∧ (c < 55296 ∨ 57344 ≤ c ∧ c ≤ 1114111) from ⟨by omega, h4⟩)]
          exact refChar_of c 3 (by omega) h4
        · rw [if_neg (show ¬ (c ≥ 2048 ∧ (c < 55296 ∨ 57344 ≤ c ∧ c ≤ 1114111)) from fun h' => h4 h'.2), refChar_bad]
          exact refChar_none c 3 h4
    · have s2 := l0_bad s i 3 2048 hs (by omega) (K + 2) 2 (b0 % 16 * 64 + (s.get! (i + 1)).toNat % 64) (by omega) (by omega) c2
      rw [show ((3 : Nat) : Int) = 3 from rfl] at s2
      rw [show ((1 + 1 : Nat) : Int) = ((2 : Nat) : Int) from rfl, s2, if_neg (by rintro ⟨_, _, _, h'⟩; exact c2 h'), if_neg (by omega), refChar_bad]
  · have s1 := l0_bad s i 3 2048 hs (by omega) (K + 3) 1 (b0 % 16) (by omega) (by omega) c1
    rw [show ((3 : Nat) : Int) = 3 from rfl, show ((1 : Nat) : Int) = 1 from rfl] at s1
    rw [s1, if_neg (by rintro ⟨_, ⟨_, h'⟩, _⟩; exact c1 h'), if_neg (by omega), refChar_bad]
theorem four_eq (s : ByteArray) (i K b0 : Nat) (hs : s.size < 1099511627776) (hi : i < s.size) (h : b0 / 8 = 30) (hb : b0 < 256) :
    comptoirref01_char.j2 (K + 6) s i ((b0 % 8 : Nat) : Int) 4 65536 = some (refChar (Lib.decodeN (s.size - i) b0 (s.get! (i + 1)).toNat (s.get! (i + 2)).toNat (s.get! (i + 3)).toNat)) := by
  have hj := j2_eq s i 4 (K + 5) ((b0 % 8 : Nat) : Int) 65536 hs hi (by omega)
  rw [show ((4 : Nat) : Int) = 4 from rfl] at hj
  rw [hj]
  unfold Lib.decodeN
  rw [if_neg (show ¬ b0 < 128 by omega), if_neg (show ¬ (b0 / 32 = 6 ∧ 1 < s.size - i ∧ (s.get! (i + 1)).toNat / 64 = 2) by omega), if_neg (show ¬ (b0 / 16 = 14 ∧ (1 < s.size - i ∧ (s.get! (i + 1)).toNat / 64 = 2) ∧ (2 < s.size - i ∧ (s.get! (i + 2)).toNat / 64 = 2)) by omega)]
  by_cases h2 : s.size < i + 4
  · rw [if_pos h2, if_neg (by omega), refChar_bad]
  rw [if_neg h2]
  by_cases c1 : (s.get! (i + 1)).toNat / 64 = 2
  · have s1 := l0_step s i 4 65536 hs (by omega) (K + 4) 1 (b0 % 8) (by omega) (by omega) (by omega) c1
    rw [show ((4 : Nat) : Int) = 4 from rfl, show ((1 : Nat) : Int) = 1 from rfl] at s1
    rw [s1]
    by_cases c2 : (s.get! (i + 2)).toNat / 64 = 2
    · have s2 := l0_step s i 4 65536 hs (by omega) (K + 3) 2 (b0 % 8 * 64 + (s.get! (i + 1)).toNat % 64) (by omega) (by omega) (by omega) c2
      rw [show ((4 : Nat) : Int) = 4 from rfl] at s2
      rw [show ((1 + 1 : Nat) : Int) = ((2 : Nat) : Int) from rfl, s2]
      by_cases c3 : (s.get! (i + 3)).toNat / 64 = 2
      · have s3 := l0_step s i 4 65536 hs (by omega) (K + 2) 3 ((b0 % 8 * 64 + (s.get! (i + 1)).toNat % 64) * 64 + (s.get! (i + 2)).toNat % 64) (by omega) (by omega) (by omega) c3
        have s4 := l0_end s i 4 65536 hs (by omega) (K + 1) (((b0 % 8 * 64 + (s.get! (i + 1)).toNat % 64) * 64 + (s.get! (i + 2)).toNat % 64) * 64 + (s.get! (i + 3)).toNat % 64)
        rw [show ((4 : Nat) : Int) = 4 from rfl] at s3 s4
        rw [show ((2 + 1 : Nat) : Int) = ((3 : Nat) : Int) from rfl, s3, s4, if_pos (show b0 / 8 = 30 ∧ (1 < s.size - i ∧ (s.get! (i + 1)).toNat / 64 = 2) ∧ (2 < s.size - i ∧ (s.get! (i + 2)).toNat / 64 = 2) ∧ (3 < s.size - i ∧ (s.get! (i + 3)).toNat / 64 = 2) from ⟨h, ⟨by omega, c1⟩, ⟨by omega, c2⟩, by omega, c3⟩)]
        generalize (s.get! (i + 1)).toNat = b1
        generalize (s.get! (i + 2)).toNat = b2
        generalize (s.get! (i + 3)).toNat = b3
        rw [show ((b0 % 8 * 64 + b1 % 64) * 64 + b2 % 64) * 64 + b3 % 64 = b0 % 8 * 262144 + b1 % 64 * 4096 + b2 % 64 * 64 + b3 % 64 by omega]
        generalize hc : b0 % 8 * 262144 + b1 % 64 * 4096 + b2 % 64 * 64 + b3 % 64 = c
        by_cases h3 : c < 65536
        · rw [if_pos (by omega), if_neg (by omega), refChar_bad]
        · rw [if_neg (by omega)]
          by_cases h4 : c < 55296 ∨ (57344 ≤ c ∧ c ≤ 1114111)
          · rw [if_pos (show c ≥ 65536 ∧ (c < 55296 ∨ 57344 ≤ c ∧ c ≤ 1114111) from ⟨by omega, h4⟩)]
            exact refChar_of c 4 (by omega) h4
          · rw [if_neg (show ¬ (c ≥ 65536 ∧ (c < 55296 ∨ 57344 ≤ c ∧ c ≤ 1114111)) from fun h' => h4 h'.2), refChar_bad]
            exact refChar_none c 4 h4
      · have s3 := l0_bad s i 4 65536 hs (by omega) (K + 2) 3 ((b0 % 8 * 64 + (s.get! (i + 1)).toNat % 64) * 64 + (s.get! (i + 2)).toNat % 64) (by omega) (by omega) c3
        rw [show ((4 : Nat) : Int) = 4 from rfl] at s3
        rw [show ((2 + 1 : Nat) : Int) = ((3 : Nat) : Int) from rfl, s3, if_neg (by rintro ⟨_, _, _, _, h'⟩; exact c3 h'), refChar_bad]
    · have s2 := l0_bad s i 4 65536 hs (by omega) (K + 3) 2 (b0 % 8 * 64 + (s.get! (i + 1)).toNat % 64) (by omega) (by omega) c2
      rw [show ((4 : Nat) : Int) = 4 from rfl] at s2
      rw [show ((1 + 1 : Nat) : Int) = ((2 : Nat) : Int) from rfl, s2, if_neg (by rintro ⟨_, _, ⟨_, h'⟩, _⟩; exact c2 h'), refChar_bad]
  · have s1 := l0_bad s i 4 65536 hs (by omega) (K + 4) 1 (b0 % 8) (by omega) (by omega) c1
    rw [show ((4 : Nat) : Int) = 4 from rfl, show ((1 : Nat) : Int) = 1 from rfl] at s1
    rw [s1, if_neg (by rintro ⟨_, ⟨_, h'⟩, _⟩; exact c1 h'), refChar_bad]
theorem char_eq (s : ByteArray) (i K : Nat) (hi : i < s.size) (hs : s.size < 1099511627776) : comptoirref01_char.f (K + 12) s i = some (refChar (Utf8.decode s i)) := by
  rw [Lib.decode_at]
  have l0 := g_lt s i
  have l1 := g_lt s (i + 1)
  have l2 := g_lt s (i + 2)
  have l3 := g_lt s (i + 3)
  unfold comptoirref01_char.f
  rw [if_pos (by omega), if_pos (by omega), bt_g s i hi, w64 _ (by omega) (by omega)]
  by_cases h1 : (s.get! i).toNat < 128
  · rw [if_pos (by omega)]
    have hd : Lib.decodeN (s.size - i) (s.get! i).toNat (s.get! (i + 1)).toNat (s.get! (i + 2)).toNat (s.get! (i + 3)).toNat = ((s.get! i).toNat, 1) := by unfold Lib.decodeN; rw [if_pos h1]
    rw [hd]
    simp only [comptoirref01_char.j2]
    rw [w64 _ (by omega) (by omega), if_neg (by omega)]
    have := l0_end s i 1 0 hs (by omega) (K + 10) (s.get! i).toNat
    rw [show ((1 : Nat) : Int) = 1 from rfl] at this
    rw [this, if_neg (by omega)]
    exact refChar_of (s.get! i).toNat 1 (by omega) (by omega)
  rw [if_neg (by omega)]
  by_cases h2 : (s.get! i).toNat / 32 = 6
  · rw [if_pos (by omega), decide_eq_true (by omega)]
    simp only [comptoirref01_char.j0]
    rw [if_pos trivial, and31 _ l0]
    exact two_eq s i (K + 7) _ hs hi h2 l0
  by_cases h3 : (s.get! i).toNat / 16 = 14
  · rw [if_pos (by omega), decide_eq_false (by omega)]
    simp only [comptoirref01_char.j0]
    rw [if_neg (by decide), if_pos (by omega), decide_eq_true (by omega)]
    simp only [comptoirref01_char.j1]
    rw [if_pos trivial, and15 _ l0]
    exact three_eq s i (K + 5) _ hs hi h3 l0
  by_cases h4 : (s.get! i).toNat / 8 = 30
  · rw [if_pos (by omega), decide_eq_false (by omega)]
    simp only [comptoirref01_char.j0]
    rw [if_neg (by decide), if_pos (by omega), decide_eq_false (by omega)]
    simp only [comptoirref01_char.j1]
    rw [if_neg (by decide), if_pos (by omega), if_pos (by omega), and7 _ l0]
    exact four_eq s i (K + 4) _ hs hi h4 l0
  have hd : Lib.decodeN (s.size - i) (s.get! i).toNat (s.get! (i + 1)).toNat (s.get! (i + 2)).toNat (s.get! (i + 3)).toNat = (65533, 1) := by
    unfold Lib.decodeN
    rw [if_neg h1, if_neg (fun h => h2 h.1), if_neg (fun h => h3 h.1), if_neg (fun h => h4 h.1)]
  rw [hd, refChar_bad]
  by_cases h5 : 192 ≤ (s.get! i).toNat
  · rw [if_pos (by omega), decide_eq_false (by omega)]
    simp only [comptoirref01_char.j0]
    rw [if_neg (by decide), if_pos (by omega), decide_eq_false (by omega)]
    simp only [comptoirref01_char.j1]
    rw [if_neg (by decide), if_pos (by omega), if_neg (by omega)]
  · rw [if_neg (by omega)]
    simp only [comptoirref01_char.j0]
    rw [if_neg (by decide), if_neg (by omega)]
    simp only [comptoirref01_char.j1]
    rw [if_neg (by decide), if_neg (by omega)]
end Go.Proofs.YtjhamgodpgkkjaaDoor.MT
