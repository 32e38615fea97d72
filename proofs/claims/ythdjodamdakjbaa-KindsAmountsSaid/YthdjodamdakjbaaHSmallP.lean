/- play.Small always tells, given fuel. -/
import Derived.Test.YthdjodamdakjbaaMKx4
namespace Go.Proofs.Ythdjodamdakjbaa.MK
open Go.RowKit Go.Proofs.YthdjodamdakjbaaW.PrintWords Go.Proofs.YthdjodamdakjbaaW.PrintLast
set_option linter.unusedVariables false
set_option linter.unusedSimpArgs false
theorem w64_in (n : Int) (h : -9223372036854775808 ≤ n ∧ n ≤ 9223372036854775807) : wrap64 n = n := by unfold wrap64; omega
section
variable (a0 : Int) (a1 : Int) (a2 : ByteArray) (a3 : ByteArray) (a4 : ByteArray) (a5 : ByteArray) (a6 : Int) (a7 : ByteArray) (a8 : ByteArray) (a9 : ByteArray) (a10 : ByteArray) (a11 : Int) (a12 : ByteArray) (a13 : ByteArray) (a14 : Int) (a15 : ByteArray) (l16 : List S51) (a17 : ByteArray) (a18 : ByteArray) (l19 : List S53) (l20 : List S55)
theorem small_l2 (h : l20.length ≤ 4398046511104) : ∀ (d i k : Nat) (x3 : Int), i + d = l20.length → d + 0 < k → ∃ b, comptoirplay_Small.l2 k x3 (i : Int) a0 a1 a2 a3 a4 a5 a6 a7 a8 a9 a10 a11 a12 a13 a14 a15 l16 a17 a18 l19 l20 = some b
  | 0, i, 0, x3, _, hk => by omega
  | 0, i, k + 1, x3, hi, hk => by
    simp only [comptoirplay_Small.l2]
    rw [if_neg (by omega)]
    exact ⟨_, rfl⟩
  | d + 1, i, 0, x3, _, hk => by omega
  | d + 1, i, k + 1, x3, hi, hk => by
    have h2 : wrap64 ((i : Int) + 1) = ((i + 1 : Nat) : Int) := by rw [w64_in _ ⟨by omega, by omega⟩]; omega
    simp only [comptoirplay_Small.l2]
    rw [if_pos (by omega), if_pos (by omega), h2]
    exact small_l2 h d (i + 1) k _ (by omega) (by omega)
theorem small_l1 (h : l19.length ≤ 4398046511104) (h20 : l20.length ≤ 4398046511104) : ∀ (d i k : Nat) (x3 : Int), i + d = l19.length → d + l20.length + 1 < k → ∃ b, comptoirplay_Small.l1 k x3 (i : Int) a0 a1 a2 a3 a4 a5 a6 a7 a8 a9 a10 a11 a12 a13 a14 a15 l16 a17 a18 l19 l20 = some b
  | 0, i, 0, x3, _, hk => by omega
  | 0, i, k + 1, x3, hi, hk => by
    simp only [comptoirplay_Small.l1]
    rw [if_neg (by omega)]
    exact small_l2 a0 a1 a2 a3 a4 a5 a6 a7 a8 a9 a10 a11 a12 a13 a14 a15 l16 a17 a18 l19 l20 h20 l20.length 0 k x3 (by omega) (by omega)
  | d + 1, i, 0, x3, _, hk => by omega
  | d + 1, i, k + 1, x3, hi, hk => by
    have h2 : wrap64 ((i : Int) + 1) = ((i + 1 : Nat) : Int) := by rw [w64_in _ ⟨by omega, by omega⟩]; omega
    simp only [comptoirplay_Small.l1]
    rw [if_pos (by omega), if_pos (by omega), h2]
    exact small_l1 h h20 d (i + 1) k _ (by omega) (by omega)
theorem small_l0 (h : l16.length ≤ 4398046511104) (h19 : l19.length ≤ 4398046511104) (h20 : l20.length ≤ 4398046511104) : ∀ (d i k : Nat) (x3 : Int), i + d = l16.length → d + l19.length + l20.length + 2 < k → ∃ b, comptoirplay_Small.l0 k x3 (i : Int) a0 a1 a2 a3 a4 a5 a6 a7 a8 a9 a10 a11 a12 a13 a14 a15 l16 a17 a18 l19 l20 = some b
  | 0, i, 0, x3, _, hk => by omega
  | 0, i, k + 1, x3, hi, hk => by
    simp only [comptoirplay_Small.l0]
    rw [if_neg (by omega)]
    exact small_l1 a0 a1 a2 a3 a4 a5 a6 a7 a8 a9 a10 a11 a12 a13 a14 a15 l16 a17 a18 l19 l20 h19 h20 l19.length 0 k x3 (by omega) (by omega)
  | d + 1, i, 0, x3, _, hk => by omega
  | d + 1, i, k + 1, x3, hi, hk => by
    have h2 : wrap64 ((i : Int) + 1) = ((i + 1 : Nat) : Int) := by rw [w64_in _ ⟨by omega, by omega⟩]; omega
    simp only [comptoirplay_Small.l0]
    rw [if_pos (by omega), if_pos (by omega), h2]
    exact small_l0 h h19 h20 d (i + 1) k _ (by omega) (by omega)
theorem small_tells (h16 : l16.length ≤ 4398046511104) (h19 : l19.length ≤ 4398046511104) (h20 : l20.length ≤ 4398046511104) (k : Nat) (hk : l16.length + l19.length + l20.length + 2 < k) : ∃ b, comptoirplay_Small.f k a0 a1 a2 a3 a4 a5 a6 a7 a8 a9 a10 a11 a12 a13 a14 a15 l16 a17 a18 l19 l20 = some b := by
  unfold comptoirplay_Small.f
  exact small_l0 a0 a1 a2 a3 a4 a5 a6 a7 a8 a9 a10 a11 a12 a13 a14 a15 l16 a17 a18 l19 l20 h16 h19 h20 l16.length 0 k _ (by omega) (by omega)
end
end Go.Proofs.Ythdjodamdakjbaa.MK
