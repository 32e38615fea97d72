/- Plain: how many characters a text has, over lists of bytes; that the code and the reference tell it alike. No program in sight. -/
import Derived.Test.YtjhamgodpgkkjaaDoorHTheory
import Derived.Lib.MapLaws
namespace Go.Proofs.YtjhamgodpgkkjaaDoor.MT
open Go.RowKit Go.Proofs.YtjhamgodpgkkjaaDoorW.PrintWords Go.Proofs.YtjhamgodpgkkjaaDoorW.PrintLast Go.Proofs.YtjhamgodpgkkjaaDoorW.PrintMore
open Go.Lib (decodeL decodeL_drop decodeL_le validGoD idxFuncFrom runeCountFrom validD idxFunc runeCount)

def okS (d : Nat × Nat) : Bool := !(d.1 == 65533 && d.2 == 1) && mayR d.1
def cntL : Nat → List UInt8 → Option Nat
  | 0, _ => some 0
  | n + 1, l => if l = [] then some 0 else if okS (decodeL l) = true then (cntL n (l.drop (decodeL l).2)).map (· + 1) else none
def cnt (l : List UInt8) : Option Nat := cntL l.length l
theorem cntL_nil : ∀ n, cntL n [] = some 0
  | 0 => rfl
  | n + 1 => by simp [cntL]
theorem width_pos (l : List UInt8) : 1 ≤ (decodeL l).2 := Lib.decodeL_width l
theorem cntL_fuel : ∀ (n m : Nat) (l : List UInt8), l.length ≤ n → l.length ≤ m → cntL n l = cntL m l
  | 0, m, l, hn, _ => by
    obtain rfl : l = [] := List.length_eq_zero_iff.1 (by omega)
    rw [cntL_nil, cntL_nil]
  | n + 1, 0, l, _, hm => by
    obtain rfl : l = [] := List.length_eq_zero_iff.1 (by omega)
    rw [cntL_nil, cntL_nil]
  | n + 1, m + 1, l, hn, hm => by
    unfold cntL
    by_cases hne : l = []
    · rw [if_pos hne, if_pos hne]
    · have hw := width_pos l
      have hl : 0 < l.length := List.length_pos_iff.2 hne
      rw [if_neg hne, if_neg hne, cntL_fuel n m (l.drop (decodeL l).2) (by rw [List.length_drop]; omega) (by rw [List.length_drop]; omega)]
theorem cnt_nil : cnt [] = some 0 := rfl
theorem cnt_step (l : List UInt8) (hne : l ≠ []) : cnt l = if okS (decodeL l) = true then (cnt (l.drop (decodeL l).2)).map (· + 1) else none := by
  have hw := width_pos l
  have hl : 0 < l.length := List.length_pos_iff.2 hne
  unfold cnt
  rw [show l.length = (l.length - 1) + 1 by omega]
  rw [cntL, if_neg hne, cntL_fuel (l.length - 1) (l.drop (decodeL l).2).length _ (by rw [List.length_drop]; omega) (Nat.le_refl _)]
theorem cnt_le : ∀ (n : Nat) (l : List UInt8) (k : Nat), l.length ≤ n → cnt l = some k → k ≤ l.length
  | 0, l, k, hn, h => by
    obtain rfl : l = [] := List.length_eq_zero_iff.1 (by omega)
    cases h; exact Nat.le_refl _
  | n + 1, l, k, hn, h => by
    by_cases hne : l = []
    · subst hne; cases h; exact Nat.le_refl _
    · have hw := width_pos l
      have hl : 0 < l.length := List.length_pos_iff.2 hne
      rw [cnt_step l hne] at h
      by_cases ho : okS (decodeL l) = true
      · rw [if_pos ho] at h
        obtain ⟨m, hm, rfl⟩ := Option.map_eq_some_iff.1 h
        have := cnt_le n (l.drop (decodeL l).2) m (by rw [List.length_drop]; omega) hm
        rw [List.length_drop] at this
        omega
      · rw [if_neg ho] at h; cases h
theorem drop_ne (l : List UInt8) (pos : Nat) (h : pos < l.length) : l.drop pos ≠ [] := by
  intro h'
  have := congrArg List.length h'
  rw [List.length_drop] at this
  simp at this
  omega
theorem both_from (s : ByteArray) : ∀ f pos, s.size ≤ pos + f →
    (validGoD f (s.data.toList.drop pos) && decide (idxFuncFrom (fun x => !mayR x) true s f pos < 0)) = (cntL f (s.data.toList.drop pos)).isSome ∧ ∀ k, cntL f (s.data.toList.drop pos) = some k → runeCountFrom s f pos = k
  | 0, pos, h => by
    refine ⟨?_, fun k hk => ?_⟩
    · simp [validGoD, idxFuncFrom, cntL]
    · simp only [cntL, Option.some.injEq] at hk
      subst hk
      rfl
  | f + 1, pos, h => by
    have hsz : s.data.toList.length = s.size := Array.length_toList
    by_cases hp : pos < s.size
    · have hne := drop_ne s.data.toList pos (by omega)
      have hw := width_pos (s.data.toList.drop pos)
      obtain ⟨ih1, ih2⟩ := both_from s f (pos + (decodeL (s.data.toList.drop pos)).2) (by omega)
      unfold validGoD idxFuncFrom cntL runeCountFrom
      rw [if_neg hne, if_neg hne, if_pos hp, if_pos hp, List.drop_drop]
      rw [← decodeL_drop s pos]
      generalize decodeL (s.data.toList.drop pos) = d at ih1 ih2
      by_cases hb : d.1 = 65533 ∧ d.2 = 1
      · have ho : okS d = false := by unfold okS; simp [hb.1, hb.2]
        rw [if_pos hb, ho]
        exact ⟨rfl, fun k hk => by cases hk⟩
      · rw [if_neg hb]
        have hb' : (d.1 == 65533 && d.2 == 1) = false := by
          rw [Bool.eq_false_iff]
          intro h'
          rw [Bool.and_eq_true, beq_iff_eq, beq_iff_eq] at h'
          exact hb h'
        cases hm : mayR d.1 with
        | false =>
          have ho : okS d = false := by unfold okS; rw [hm, Bool.and_false]
          rw [ho]
          refine ⟨?_, fun k hk => by cases hk⟩
          have hn : ¬ ((pos : Int) < 0) := by omega
          simp [hn]
        | true =>
          have ho : okS d = true := by unfold okS; rw [hm, hb']; rfl
          rw [ho, if_pos rfl, if_neg (by decide)]
          refine ⟨by rw [ih1]; cases cntL f _ <;> rfl, fun k hk => ?_⟩
          obtain ⟨m, hm2, rfl⟩ := Option.map_eq_some_iff.1 hk
          rw [ih2 m hm2, Nat.add_comm]
    · have he : s.data.toList.drop pos = [] := List.drop_of_length_le (by omega)
      unfold validGoD idxFuncFrom cntL runeCountFrom
      rw [if_pos he, if_pos he, if_neg hp, if_neg hp]
      exact ⟨rfl, fun k hk => by cases hk; rfl⟩
theorem utf8B_eq (s : ByteArray) : utf8B s = (cnt s.data.toList).isSome := by
  have hsz : s.data.toList.length = s.size := Array.length_toList
  have := (both_from s s.size 0 (by omega)).1
  rw [List.drop_zero] at this
  unfold utf8B validD idxFunc cnt
  rw [hsz]
  exact this
theorem count_of (s : ByteArray) (k : Nat) (h : cnt s.data.toList = some k) : runeCount s = k := by
  have hsz : s.data.toList.length = s.size := Array.length_toList
  have := (both_from s s.size 0 (by omega)).2 k (by rw [List.drop_zero, ← hsz]; exact h)
  exact this
theorem runesI_eq (s : ByteArray) : runesI s = ((cnt s.data.toList).getD 0 : Nat) := by
  unfold runesI
  rw [utf8B_eq]
  cases h : cnt s.data.toList with
  | none => rfl
  | some k => rw [count_of s k h]; rfl

/-! ### the reference -/
def cntI (s : ByteArray) : Int := match cnt s.data.toList with
  | some k => (k : Int)
  | none => -1
theorem refChar_ok (d : Nat × Nat) (h : okS d = true) : refChar d = ((d.1 : Int), (d.2 : Int)) := by
  unfold okS at h
  rw [Bool.and_eq_true, Bool.not_eq_true', ← Bool.not_eq_true, Bool.and_eq_true, beq_iff_eq, beq_iff_eq] at h
  unfold refChar
  rw [if_neg h.1, if_pos h.2]
theorem refChar_no (d : Nat × Nat) (h : okS d = false) : refChar d = (0, 0) := by
  unfold refChar
  by_cases hb : d.1 = 65533 ∧ d.2 = 1
  · rw [if_pos hb]
  · rw [if_neg hb]
    by_cases hm : mayR d.1 = true
    · exfalso
      unfold okS at h
      rw [hm, Bool.and_true] at h
      rw [Bool.not_eq_false', Bool.and_eq_true, beq_iff_eq, beq_iff_eq] at h
      exact hb h
    · rw [if_neg hm]
def atEnd (n : Nat) : Option Nat → Int
  | some m => ((n + m : Nat) : Int)
  | none => -1
theorem count_from (s : ByteArray) (hs : s.size < 1099511627776) : ∀ f pos n K, s.size ≤ pos + f → pos ≤ s.size → n ≤ pos → f + 13 ≤ K →
    comptoirref01_count.l0 K s (n : Int) (pos : Int) = some (atEnd n (cntL f (s.data.toList.drop pos)))
  | 0, pos, n, K, h, hp, hn, hK => by
    obtain ⟨K, rfl⟩ : ∃ m, K = m + 1 := ⟨K - 1, by omega⟩
    simp only [comptoirref01_count.l0, cntL, atEnd]
    rw [if_neg (by omega), Nat.add_zero]
  | f + 1, pos, n, K, h, hp, hn, hK => by
    obtain ⟨K, rfl⟩ : ∃ m, K = m + 13 := ⟨K - 13, by omega⟩
    have hsz : s.data.toList.length = s.size := Array.length_toList
    by_cases hlt : pos < s.size
    · have hne := drop_ne s.data.toList pos (by omega)
      have hw := width_pos (s.data.toList.drop pos)
      have hwl := decodeL_le (s.data.toList.drop pos) hne
      rw [List.length_drop] at hwl
      have hc := char_eq s pos K hlt hs
      have ih := fun n => count_from s hs f (pos + (decodeL (s.data.toList.drop pos)).2) n (K + 12) (by omega) (by omega)
      unfold comptoirref01_count.l0 cntL
      rw [if_pos (Int.ofNat_lt.2 hlt), if_neg hne, hc, Option.bind_some, List.drop_drop]
      rw [← decodeL_drop s pos]
      generalize decodeL (s.data.toList.drop pos) = d at ih hw hwl
      cases ho : okS d with
      | false =>
        rw [refChar_no d ho, if_pos rfl]
        rfl
      | true =>
        rw [refChar_ok d ho, if_neg (show ¬ ((d.2 : Int) = 0) by omega), if_pos rfl]
        show comptoirref01_count.l0 (K + 12) s (wrap64 ((n : Int) + 1)) (wrap64 ((pos : Int) + (d.2 : Int))) = _
        rw [w_k n (by omega), w_ik pos d.2 (by omega), ih (n + 1) (by omega) (by omega)]
        cases cntL f (s.data.toList.drop (pos + d.2)) with
        | none => rfl
        | some m => simp only [atEnd, Option.map_some]; congr 2; omega
    · have he : s.data.toList.drop pos = [] := List.drop_of_length_le (by omega)
      rw [he]
      unfold comptoirref01_count.l0 cntL
      rw [if_neg (by omega), if_pos rfl]
      rfl
theorem count_eq (s : ByteArray) (K : Nat) (hs : s.size < 1099511627776) (hK : s.size + 13 ≤ K) : comptoirref01_count.f K s = some (cntI s) := by
  have hsz : s.data.toList.length = s.size := Array.length_toList
  have := count_from s hs s.size 0 0 K (by omega) (by omega) (by omega) hK
  unfold comptoirref01_count.f
  rw [List.drop_zero] at this
  refine this.trans ?_
  unfold cntI cnt
  rw [hsz]
  cases cntL s.size s.data.toList with
  | none => rfl
  | some m => simp only [atEnd, Nat.zero_add]
end Go.Proofs.YtjhamgodpgkkjaaDoor.MT
