/- Plain: texts one behind the other; a character cut short; what is plain, over lists of bytes. No program in sight. -/
import Derived.Test.YtjhamgodpgkkjaaDoorHEqs
namespace Go.Proofs.YtjhamgodpgkkjaaDoor.MT
open Go.RowKit Go.Proofs.YtjhamgodpgkkjaaDoorW.PrintWords Go.Proofs.YtjhamgodpgkkjaaDoorW.PrintLast Go.Proofs.YtjhamgodpgkkjaaDoorW.PrintMore
open Go.Lib (decodeL decodeL_N decodeN)

theorem dN_two (n b0 b1 b2 b3 : Nat) (c0 : ¬ b0 < 128) (c1 : b0 / 32 = 6) : decodeN n b0 b1 b2 b3 = if 1 < n ∧ b1 / 64 = 2 then (if b0 % 32 * 64 + b1 % 64 ≥ 128 then (b0 % 32 * 64 + b1 % 64, 2) else (65533, 1)) else (65533, 1) := by
  unfold decodeN
  rw [if_neg c0]
  by_cases c : 1 < n ∧ b1 / 64 = 2
  · rw [if_pos c, if_pos (show b0 / 32 = 6 ∧ (1 < n ∧ b1 / 64 = 2) from ⟨c1, c⟩)]
  · rw [if_neg c, if_neg (show ¬ (b0 / 32 = 6 ∧ (1 < n ∧ b1 / 64 = 2)) from fun h => c h.2), if_neg (by omega), if_neg (by omega)]
theorem dN_three (n b0 b1 b2 b3 : Nat) (c0 : ¬ b0 < 128) (c1 : b0 / 16 = 14) : decodeN n b0 b1 b2 b3 = if (1 < n ∧ b1 / 64 = 2) ∧ (2 < n ∧ b2 / 64 = 2) then
    (if b0 % 16 * 4096 + b1 % 64 * 64 + b2 % 64 ≥ 2048 ∧ (b0 % 16 * 4096 + b1 % 64 * 64 + b2 % 64 < 55296 ∨ (57344 ≤ b0 % 16 * 4096 + b1 % 64 * 64 + b2 % 64 ∧ b0 % 16 * 4096 + b1 % 64 * 64 + b2 % 64 ≤ 1114111))
     then (b0 % 16 * 4096 + b1 % 64 * 64 + b2 % 64, 3) else (65533, 1)) else (65533, 1) := by
  unfold decodeN
  rw [if_neg c0, if_neg (show ¬ (b0 / 32 = 6 ∧ (1 < n ∧ b1 / 64 = 2)) by omega)]
  by_cases c : (1 < n ∧ b1 / 64 = 2) ∧ (2 < n ∧ b2 / 64 = 2)
  · rw [if_pos c, if_pos (show b0 / 16 = 14 ∧ (1 < n ∧ b1 / 64 = 2) ∧ (2 < n ∧ b2 / 64 = 2) from ⟨c1, c⟩)]
  · rw [if_neg c, if_neg (show ¬ (b0 / 16 = 14 ∧ (1 < n ∧ b1 / 64 = 2) ∧ (2 < n ∧ b2 / 64 = 2)) from fun h => c h.2), if_neg (by omega)]
theorem dN_four (n b0 b1 b2 b3 : Nat) (c0 : ¬ b0 < 128) (c1 : b0 / 8 = 30) : decodeN n b0 b1 b2 b3 = if (1 < n ∧ b1 / 64 = 2) ∧ (2 < n ∧ b2 / 64 = 2) ∧ (3 < n ∧ b3 / 64 = 2) then
    (if b0 % 8 * 262144 + b1 % 64 * 4096 + b2 % 64 * 64 + b3 % 64 ≥ 65536 ∧ (b0 % 8 * 262144 + b1 % 64 * 4096 + b2 % 64 * 64 + b3 % 64 < 55296 ∨ (57344 ≤ b0 % 8 * 262144 + b1 % 64 * 4096 + b2 % 64 * 64 + b3 % 64 ∧ b0 % 8 * 262144 + b1 % 64 * 4096 + b2 % 64 * 64 + b3 % 64 ≤ 1114111))
     then (b0 % 8 * 262144 + b1 % 64 * 4096 + b2 % 64 * 64 + b3 % 64, 4) else (65533, 1)) else (65533, 1) := by
  unfold decodeN
  rw [if_neg c0, if_neg (show ¬ (b0 / 32 = 6 ∧ (1 < n ∧ b1 / 64 = 2)) by omega), if_neg (show ¬ (b0 / 16 = 14 ∧ (1 < n ∧ b1 / 64 = 2) ∧ (2 < n ∧ b2 / 64 = 2)) by omega)]
  by_cases c : (1 < n ∧ b1 / 64 = 2) ∧ (2 < n ∧ b2 / 64 = 2) ∧ (3 < n ∧ b3 / 64 = 2)
  · rw [if_pos c, if_pos (show b0 / 8 = 30 ∧ (1 < n ∧ b1 / 64 = 2) ∧ (2 < n ∧ b2 / 64 = 2) ∧ (3 < n ∧ b3 / 64 = 2) from ⟨c1, c⟩)]
  · rw [if_neg c, if_neg (show ¬ (b0 / 8 = 30 ∧ (1 < n ∧ b1 / 64 = 2) ∧ (2 < n ∧ b2 / 64 = 2) ∧ (3 < n ∧ b3 / 64 = 2)) from fun h => c h.2)]
theorem decodeN_more (n n' b0 b1 b2 b3 b1' b2' b3' : Nat) (hn : n ≤ n') (h1 : 1 < n → b1' = b1) (h2 : 2 < n → b2' = b2) (h3 : 3 < n → b3' = b3) (h : decodeN n b0 b1 b2 b3 ≠ (65533, 1)) :
    decodeN n' b0 b1' b2' b3' = decodeN n b0 b1 b2 b3 := by
  by_cases c0 : b0 < 128
  · unfold decodeN; rw [if_pos c0, if_pos c0]
  by_cases c1 : b0 / 32 = 6
  · rw [dN_two _ _ _ _ _ c0 c1] at h ⊢
    by_cases c : 1 < n ∧ b1 / 64 = 2
    · have e := h1 c.1
      subst e
      rw [dN_two _ _ _ _ _ c0 c1, if_pos c, if_pos (show 1 < n' ∧ b1' / 64 = 2 from ⟨by omega, c.2⟩)]
    · rw [if_neg c] at h; exact absurd rfl h
  by_cases c2 : b0 / 16 = 14
  · rw [dN_three _ _ _ _ _ c0 c2] at h ⊢
    by_cases c : (1 < n ∧ b1 / 64 = 2) ∧ (2 < n ∧ b2 / 64 = 2)
    · have e := h1 c.1.1
      have e2 := h2 c.2.1
      subst e e2
      rw [dN_three _ _ _ _ _ c0 c2, if_pos c, if_pos (show (1 < n' ∧ b1' / 64 = 2) ∧ (2 < n' ∧ b2' / 64 = 2) from ⟨⟨by omega, c.1.2⟩, by omega, c.2.2⟩)]
    · rw [if_neg c] at h; exact absurd rfl h
  by_cases c3 : b0 / 8 = 30
  · rw [dN_four _ _ _ _ _ c0 c3] at h ⊢
    by_cases c : (1 < n ∧ b1 / 64 = 2) ∧ (2 < n ∧ b2 / 64 = 2) ∧ (3 < n ∧ b3 / 64 = 2)
    · have e := h1 c.1.1
      have e2 := h2 c.2.1.1
      have e3 := h3 c.2.2.1
      subst e e2 e3
      rw [dN_four _ _ _ _ _ c0 c3, if_pos c, if_pos (show (1 < n' ∧ b1' / 64 = 2) ∧ (2 < n' ∧ b2' / 64 = 2) ∧ (3 < n' ∧ b3' / 64 = 2) from ⟨⟨by omega, c.1.2⟩, ⟨by omega, c.2.1.2⟩, by omega, c.2.2.2⟩)]
    · rw [if_neg c] at h; exact absurd rfl h
  · exfalso
    apply h
    unfold decodeN
    rw [if_neg c0, if_neg (fun h' => c1 h'.1), if_neg (fun h' => c2 h'.1), if_neg (fun h' => c3 h'.1)]
theorem okS_ne (d : Nat × Nat) (h : okS d = true) : d ≠ (65533, 1) := by
  rintro rfl
  cases h
theorem getD_app (l m : List UInt8) (j : Nat) (h : j < l.length) : (l ++ m).getD j 0 = l.getD j 0 := by
  simp [List.getD_eq_getElem?_getD, List.getElem?_append_left h]
theorem decodeL_app (l m : List UInt8) (hne : l ≠ []) (h : okS (decodeL l) = true) : decodeL (l ++ m) = decodeL l := by
  have hl : 0 < l.length := List.length_pos_iff.2 hne
  have hn := okS_ne _ h
  rw [decodeL_N] at hn
  rw [decodeL_N, decodeL_N, getD_app l m 0 hl]
  exact decodeN_more _ _ _ _ _ _ _ _ _ (by rw [List.length_append]; omega) (fun h => by rw [getD_app l m 1 h]) (fun h => by rw [getD_app l m 2 h]) (fun h => by rw [getD_app l m 3 h]) hn
theorem cnt_app (m : List UInt8) : ∀ (n : Nat) (l : List UInt8) (k : Nat), l.length ≤ n → cnt l = some k → cnt (l ++ m) = (cnt m).map (k + ·)
  | 0, l, k, hn, h => by
    obtain rfl : l = [] := List.length_eq_zero_iff.1 (by omega)
    cases h
    rw [List.nil_append]
    cases cnt m <;> simp
  | n + 1, l, k, hn, h => by
    by_cases hne : l = []
    · subst hne; cases h
      rw [List.nil_append]
      cases cnt m <;> simp
    · have hw := width_pos l
      have hwl := Lib.decodeL_le l hne
      have hl : 0 < l.length := List.length_pos_iff.2 hne
      rw [cnt_step l hne] at h
      by_cases ho : okS (decodeL l) = true
      · rw [if_pos ho] at h
        obtain ⟨j, hj, rfl⟩ := Option.map_eq_some_iff.1 h
        have ih := cnt_app m n (l.drop (decodeL l).2) j (by rw [List.length_drop]; omega) hj
        rw [cnt_step (l ++ m) (by simp [hne]), decodeL_app l m hne ho, if_pos ho, List.drop_append_of_le_length hwl, ih]
        cases cnt m with
        | none => rfl
        | some i => simp only [Option.map_some]; congr 1; omega
      · rw [if_neg ho] at h; cases h
theorem cnt_bad (b : UInt8) (m : List UInt8) (h : 128 ≤ b.toNat) : cnt (b :: 120 :: m) = none := by
  rw [cnt_step _ (by simp), decodeL_N]
  have e0 : (b :: 120 :: m).getD 0 0 = b := rfl
  have e1 : (b :: 120 :: m).getD 1 0 = 120 := rfl
  rw [e0, e1]
  have : ∀ n x y, decodeN n b.toNat (120 : UInt8).toNat x y = (65533, 1) := by
    intro n x y
    have e : (120 : UInt8).toNat = 120 := rfl
    rw [e]
    unfold decodeN
    rw [if_neg (by omega), if_neg (by omega), if_neg (by omega), if_neg (by omega)]
  rw [this]
  rfl
/-! what is plain, over lists -/
def plainL (l : List UInt8) (low top : Int) : Bool :=
  match cnt l with
  | none => false
  | some m => decide (low ≤ (m : Int)) && (decide ((m : Int) ≤ top) && (l.all (fun b => decide (32 ≤ b.toNat)) && (!(l.head? == some 32) && !(l.getLast? == some 32))))
theorem beq32 (b : UInt8) : ((b.toNat : Int) == 32) = (some b == some 32) := by
  rw [Bool.eq_iff_iff, beq_iff_eq, beq_iff_eq]
  constructor
  · intro e
    have : b = 32 := UInt8.toNat_inj.1 (show b.toNat = (32 : UInt8).toNat by have : (32 : UInt8).toNat = 32 := rfl; omega)
    rw [this]
  · intro e; cases e; rfl
theorem head_is (s : ByteArray) : (decide (0 < s.size) && (bt s 0 == 32)) = (s.data.toList.head? == some 32) := by
  have hsz : s.data.toList.length = s.size := Array.length_toList
  by_cases h : 0 < s.size
  · have hb := bt_get s 0 (by omega)
    rw [decide_eq_true h, Bool.true_and, show (0 : Int) = ((0 : Nat) : Int) from rfl, hb, List.head?_eq_getElem?, List.getElem?_eq_getElem (by omega)]
    exact beq32 _
  · rw [decide_eq_false h, Bool.false_and]
    have : s.data.toList = [] := List.length_eq_zero_iff.1 (by omega)
    rw [this]; rfl
theorem last_is (s : ByteArray) : (decide (0 < s.size) && (bt s ((s.size - 1 : Nat) : Int) == 32)) = (s.data.toList.getLast? == some 32) := by
  have hsz : s.data.toList.length = s.size := Array.length_toList
  by_cases h : 0 < s.size
  · have hb := bt_get s (s.size - 1) (by omega)
    have e : s.data.toList.length - 1 = s.size - 1 := by omega
    rw [decide_eq_true h, Bool.true_and, hb, List.getLast?_eq_getElem?, e, List.getElem?_eq_getElem (by omega)]
    exact beq32 _
  · rw [decide_eq_false h, Bool.false_and]
    have : s.data.toList = [] := List.length_eq_zero_iff.1 (by omega)
    rw [this]; rfl
theorem plainB_L (s : ByteArray) (low top : Int) : plainB s low top = plainL s.data.toList low top := by
  unfold plainB plainL
  rw [← allB_from, head_is, last_is]
  have : allB s [(32, 255)] = s.data.toList.all (fun b => decide (32 ≤ b.toNat)) := by
    unfold allB
    congr 1
    funext b
    have := UInt8.toNat_lt b
    rw [Bool.eq_iff_iff]
    simp [anyB, inB]
    omega
  rw [this]
  cases cnt s.data.toList <;> rfl
end Go.Proofs.YtjhamgodpgkkjaaDoor.MT
