/- ResidueBack: part 3 of its proof. -/
import Derived.Test.YthapknnppabdaaaGreatZ02
namespace Go.Proofs.YthapknnppabdaaaGreat.MQ
open Go.RowKit Go.Proofs.YthapknnppabdaaaGreatW.PrintWords Go.Proofs.YthapknnppabdaaaGreatW.PrintLast Go.Proofs.YthapknnppabdaaaGreatW.PrintMore
set_option linter.unusedVariables false
set_option linter.unusedSimpArgs false
def aln (c : Int) : Bool := (decide (48 ≤ c) && decide (c ≤ 57)) || (decide (65 ≤ c) && decide (c ≤ 90)) || (decide (97 ≤ c) && decide (c ≤ 122))
def alnF (s : ByteArray) (low top : Int) : Bool := (bs s).all aln && decide (low ≤ (s.size : Int)) && decide ((s.size : Int) ≤ top)
set_option maxHeartbeats 4000000 in
theorem aln_e (s : ByteArray) (low top : Int) (w : World) (hs : s.size ≤ 140737488355328) : Calls Tryz.prog 42 #[.string s, .int .i64 low, .int .i64 top] w fun e w' => e = .returned (.bool (alnF s low top)) ∧ Drawn0 w w' := by
  have HS := Aside0.mk hs
  go_enter Tryz.func42, Tryz.ntmps42
  go_wp2_with fail
  go_loopg [7] s.size (fun gg s7 wr => ∃ kk : Nat, kk ≤ s.size ∧ s.size - kk ≤ gg ∧ s7 = .int .i64 kk ∧ Aside0 (Drawn0 w wr) ∧ Aside0 (((bs s).take kk).all aln = true))
  case atStart => exact ⟨0, Nat.zero_le _, by omega, rfl, ⟨Drawn0.refl w⟩, ⟨rfl⟩⟩
  case round =>
    obtain ⟨kk, hkk, hg, rfl, BW, HA⟩ := hrel
    by_cases hlt : kk < s.size
    · have hltz : (kk : Int) < (s.size : Int) := by omega
      have hx := byte_at s kk
      obtain ⟨c, HC⟩ : ∃ c, Aside0 (c = bt s (kk : Int)) := ⟨_, ⟨rfl⟩⟩
      rw [← HC.out] at hx
      by_cases r0 : c < 48
      · skip
        have HF : Aside0 (alnF s low top = false) := ⟨by unfold alnF; rw [all_no hlt (by rw [← HC.out]; simp only [aln]; simp; omega)]; rfl⟩
        go_wp2_with fail
        go_ret
        exact ⟨by rw [HF.out]; rfl, BW.out⟩
      by_cases r1 : c ≤ 57
      · skip
        have HN := Aside0.mk (all_snoc hlt HA.out (by rw [← HC.out]; simp only [aln]; simp; omega))
        go_wp2_with fail
        go_roundg (s.size - (kk + 1))
        case measure => omega
        case rel => exact ⟨kk + 1, by omega, by omega, by have := HS.out; go_num, BW, HN⟩
      by_cases r2 : c < 65
      · skip
        have HF : Aside0 (alnF s low top = false) := ⟨by unfold alnF; rw [all_no hlt (by rw [← HC.out]; simp only [aln]; simp; omega)]; rfl⟩
        go_wp2_with fail
        go_ret
        exact ⟨by rw [HF.out]; rfl, BW.out⟩
      by_cases r3 : c ≤ 90
      · skip
        have HN := Aside0.mk (all_snoc hlt HA.out (by rw [← HC.out]; simp only [aln]; simp; omega))
        go_wp2_with fail
        go_roundg (s.size - (kk + 1))
        case measure => omega
        case rel => exact ⟨kk + 1, by omega, by omega, by have := HS.out; go_num, BW, HN⟩
      by_cases r4 : c < 97
      · skip
        have HF : Aside0 (alnF s low top = false) := ⟨by unfold alnF; rw [all_no hlt (by rw [← HC.out]; simp only [aln]; simp; omega)]; rfl⟩
        go_wp2_with fail
        go_ret
        exact ⟨by rw [HF.out]; rfl, BW.out⟩
      by_cases r5 : c ≤ 122
      · skip
        have HN := Aside0.mk (all_snoc hlt HA.out (by rw [← HC.out]; simp only [aln]; simp; omega))
        go_wp2_with fail
        go_roundg (s.size - (kk + 1))
        case measure => omega
        case rel => exact ⟨kk + 1, by omega, by omega, by have := HS.out; go_num, BW, HN⟩
      have HF : Aside0 (alnF s low top = false) := ⟨by unfold alnF; rw [all_no hlt (by rw [← HC.out]; simp only [aln]; simp; omega)]; rfl⟩
      go_wp2_with fail
      go_ret
      exact ⟨by rw [HF.out]; rfl, BW.out⟩
    · have hltz : ¬ (kk : Int) < (s.size : Int) := by omega
      have HB : Aside0 ((bs s).all aln = true) := ⟨by
        have e : kk = s.size := by omega
        rw [← bs_all, ← e]; exact HA.out⟩
      by_cases q1 : low ≤ (s.size : Int)
      · have HF : Aside0 (alnF s low top = decide ((s.size : Int) ≤ top)) := ⟨by unfold alnF; rw [HB.out, decide_eq_true q1]; simp⟩
        by_cases q2 : (s.size : Int) ≤ top
        · go_wp2_with fail
          go_ret
          exact ⟨by rw [HF.out]; first | (rw [decide_eq_true (show _ from q2)]; rfl) | (rw [decide_eq_false (by omega)]; rfl) | rfl, BW.out⟩
        · go_wp2_with fail
          go_ret
          exact ⟨by rw [HF.out]; first | (rw [decide_eq_true (show _ from q2)]; rfl) | (rw [decide_eq_false (by omega)]; rfl) | rfl, BW.out⟩
      · have HF : Aside0 (alnF s low top = false) := ⟨by unfold alnF; rw [decide_eq_false q1]; simp⟩
        go_wp2_with fail
        go_ret
        exact ⟨by rw [HF.out]; rfl, BW.out⟩
def ink (c : Int) : Bool := decide (32 ≤ c) && decide (c ≤ 126)
def ansF (s : ByteArray) (top : Int) : Bool := (bs s).all ink && decide (1 ≤ (s.size : Int)) && decide ((s.size : Int) ≤ top)
set_option maxHeartbeats 4000000 in
theorem ans_e (s : ByteArray) (top : Int) (w : World) (hs : s.size ≤ 140737488355328) : Calls Tryz.prog 107 #[.string s, .int .i64 top] w fun e w' => e = .returned (.bool (ansF s top)) ∧ Drawn0 w w' := by
  have HS := Aside0.mk hs
  go_enter Tryz.func107, Tryz.ntmps107
  go_wp2_with fail
  go_loopg [5] s.size (fun gg s7 wr => ∃ kk : Nat, kk ≤ s.size ∧ s.size - kk ≤ gg ∧ s7 = .int .i64 kk ∧ Aside0 (Drawn0 w wr) ∧ Aside0 (((bs s).take kk).all ink = true))
  case atStart => exact ⟨0, Nat.zero_le _, by omega, rfl, ⟨Drawn0.refl w⟩, ⟨rfl⟩⟩
  case round =>
    obtain ⟨kk, hkk, hg, rfl, BW, HA⟩ := hrel
    by_cases hlt : kk < s.size
    · have hltz : (kk : Int) < (s.size : Int) := by omega
      have hx := byte_at s kk
      obtain ⟨c, HC⟩ : ∃ c, Aside0 (c = bt s (kk : Int)) := ⟨_, ⟨rfl⟩⟩
      rw [← HC.out] at hx
      by_cases r0 : c < 32
      · skip
        have HF : Aside0 (ansF s top = false) := ⟨by unfold ansF; rw [all_no hlt (by rw [← HC.out]; simp only [ink]; simp; omega)]; rfl⟩
        go_wp2_with fail
        go_ret
        exact ⟨by rw [HF.out]; rfl, BW.out⟩
      by_cases r1 : c ≤ 126
      · skip
        have HN := Aside0.mk (all_snoc hlt HA.out (by rw [← HC.out]; simp only [ink]; simp; omega))
        go_wp2_with fail
        go_roundg (s.size - (kk + 1))
        case measure => omega
        case rel => exact ⟨kk + 1, by omega, by omega, by have := HS.out; go_num, BW, HN⟩
      have HF : Aside0 (ansF s top = false) := ⟨by unfold ansF; rw [all_no hlt (by rw [← HC.out]; simp only [ink]; simp; omega)]; rfl⟩
      go_wp2_with fail
      go_ret
      exact ⟨by rw [HF.out]; rfl, BW.out⟩
    · have hltz : ¬ (kk : Int) < (s.size : Int) := by omega
      have HB : Aside0 ((bs s).all ink = true) := ⟨by
        have e : kk = s.size := by omega
        rw [← bs_all, ← e]; exact HA.out⟩
      by_cases q1 : 1 ≤ (s.size : Int)
      · have HF : Aside0 (ansF s top = decide ((s.size : Int) ≤ top)) := ⟨by unfold ansF; rw [HB.out, decide_eq_true q1]; simp⟩
        by_cases q2 : (s.size : Int) ≤ top
        · go_wp2_with fail
          go_ret
          exact ⟨by rw [HF.out]; first | (rw [decide_eq_true (show _ from q2)]; rfl) | (rw [decide_eq_false (by omega)]; rfl) | rfl, BW.out⟩
        · go_wp2_with fail
          go_ret
          exact ⟨by rw [HF.out]; first | (rw [decide_eq_true (show _ from q2)]; rfl) | (rw [decide_eq_false (by omega)]; rfl) | rfl, BW.out⟩
      · have HF : Aside0 (ansF s top = false) := ⟨by unfold ansF; rw [decide_eq_false q1]; simp⟩
        go_wp2_with fail
        go_ret
        exact ⟨by rw [HF.out]; rfl, BW.out⟩
def cap (c : Int) : Bool := decide (65 ≤ c) && decide (c ≤ 90)
def capF (s : ByteArray) (n : Int) : Bool := (bs s).all cap && decide ((s.size : Int) = n)
set_option maxHeartbeats 4000000 in
theorem cap_e (s : ByteArray) (n : Int) (w : World) (hs : s.size ≤ 140737488355328) : Calls Tryz.prog 116 #[.string s, .int .i64 n] w fun e w' => e = .returned (.bool (capF s n)) ∧ Drawn0 w w' := by
  have HS := Aside0.mk hs
  go_enter Tryz.func116, Tryz.ntmps116
  go_wp2_with fail
  go_loopg [5] s.size (fun gg s7 wr => ∃ kk : Nat, kk ≤ s.size ∧ s.size - kk ≤ gg ∧ s7 = .int .i64 kk ∧ Aside0 (Drawn0 w wr) ∧ Aside0 (((bs s).take kk).all cap = true))
  case atStart => exact ⟨0, Nat.zero_le _, by omega, rfl, ⟨Drawn0.refl w⟩, ⟨rfl⟩⟩
  case round =>
    obtain ⟨kk, hkk, hg, rfl, BW, HA⟩ := hrel
    by_cases hlt : kk < s.size
    · have hltz : (kk : Int) < (s.size : Int) := by omega
      have hx := byte_at s kk
      obtain ⟨c, HC⟩ : ∃ c, Aside0 (c = bt s (kk : Int)) := ⟨_, ⟨rfl⟩⟩
      rw [← HC.out] at hx
      by_cases r0 : c < 65
      · skip
        have HF : Aside0 (capF s n = false) := ⟨by unfold capF; rw [all_no hlt (by rw [← HC.out]; simp only [cap]; simp; omega)]; rfl⟩
        go_wp2_with fail
        go_ret
        exact ⟨by rw [HF.out]; rfl, BW.out⟩
      by_cases r1 : c ≤ 90
      · skip
        have HN := Aside0.mk (all_snoc hlt HA.out (by rw [← HC.out]; simp only [cap]; simp; omega))
        go_wp2_with fail
        go_roundg (s.size - (kk + 1))
        case measure => omega
        case rel => exact ⟨kk + 1, by omega, by omega, by have := HS.out; go_num, BW, HN⟩
      have HF : Aside0 (capF s n = false) := ⟨by unfold capF; rw [all_no hlt (by rw [← HC.out]; simp only [cap]; simp; omega)]; rfl⟩
      go_wp2_with fail
      go_ret
      exact ⟨by rw [HF.out]; rfl, BW.out⟩
    · have hltz : ¬ (kk : Int) < (s.size : Int) := by omega
      have HB : Aside0 ((bs s).all cap = true) := ⟨by
        have e : kk = s.size := by omega
        rw [← bs_all, ← e]; exact HA.out⟩
      have HF : Aside0 (capF s n = decide ((s.size : Int) = n)) := ⟨by unfold capF; rw [HB.out]; simp⟩
      by_cases q1 : (s.size : Int) = n
      · have q2 : ((s.size : Int) == n) = true := beq_iff_eq.mpr q1
        have q3 : decide ((s.size : Int) = n) = true := decide_eq_true q1
        replace q1 := Aside0.mk q1
        go_wp2_with fail
        go_ret
        exact ⟨by rw [HF.out, q3]; first | rfl | (rw [q1.out]; simp), BW.out⟩
      · have q2 : ((s.size : Int) == n) = false := beq_eq_false_iff_ne.mpr q1
        have q3 : decide ((s.size : Int) = n) = false := decide_eq_false q1
        replace q1 := Aside0.mk q1
        go_wp2_with fail
        go_ret
        exact ⟨by rw [HF.out, q3]; rfl, BW.out⟩
def signF (c : Int) : Int := if 48 ≤ c ∧ c ≤ 57 then c - 48 else if 65 ≤ c ∧ c ≤ 70 then c - 55 else 16
theorem sign_e (c : Int) (w : World) : Calls Tryz.prog 75 #[.int .u8 c] w fun e w' => e = .returned (.int .u8 (signF c)) ∧ Drawn0 w w' := by
  have HB := Aside0.mk (Drawn0.refl w)
  by_cases r0 : c < 48
  · skip
    have HF : Aside0 (signF c = 16) := ⟨by unfold signF; first | (rw [if_pos (by omega)]) | (rw [if_neg (by omega), if_pos (by omega)]) | (rw [if_neg (by omega), if_neg (by omega)])⟩
    go_enter Tryz.func75, Tryz.ntmps75; go_wp2_with fail; go_ret
    exact ⟨by rw [HF.out]; rfl, HB.out⟩
  by_cases r1 : c ≤ 57
  · skip
    have HF : Aside0 (signF c = c - 48) := ⟨by unfold signF; first | (rw [if_pos (by omega)]) | (rw [if_neg (by omega), if_pos (by omega)]) | (rw [if_neg (by omega), if_neg (by omega)])⟩
    go_enter Tryz.func75, Tryz.ntmps75; go_wp2_with fail; go_ret
    have e : (c - 48) % 256 = c - 48 := Int.emod_eq_of_lt (by omega) (by omega)
    exact ⟨by rw [HF.out]; first | rfl | (rw [← e]; rfl) | (simp only [e]; rfl), HB.out⟩
  by_cases r2 : c < 65
  · skip
    have HF : Aside0 (signF c = 16) := ⟨by unfold signF; first | (rw [if_pos (by omega)]) | (rw [if_neg (by omega), if_pos (by omega)]) | (rw [if_neg (by omega), if_neg (by omega)])⟩
    go_enter Tryz.func75, Tryz.ntmps75; go_wp2_with fail; go_ret
    exact ⟨by rw [HF.out]; rfl, HB.out⟩
  by_cases r3 : c ≤ 70
  · skip
    have HF : Aside0 (signF c = c - 55) := ⟨by unfold signF; first | (rw [if_pos (by omega)]) | (rw [if_neg (by omega), if_pos (by omega)]) | (rw [if_neg (by omega), if_neg (by omega)])⟩
    go_enter Tryz.func75, Tryz.ntmps75; go_wp2_with fail; go_ret
    have e3 : c - 65 + 10 = c - 55 := by omega
    exact ⟨by rw [HF.out, ← e3]; rfl, HB.out⟩
  have HF : Aside0 (signF c = 16) := ⟨by unfold signF; first | (rw [if_pos (by omega)]) | (rw [if_neg (by omega), if_pos (by omega)]) | (rw [if_neg (by omega), if_neg (by omega)])⟩
  go_enter Tryz.func75, Tryz.ntmps75; go_wp2_with fail; go_ret
  exact ⟨by rw [HF.out]; rfl, HB.out⟩
/-- A byte with which a name may begin, which may stand in it. -/
def firstF (c : Int) : Bool := (decide (65 ≤ c) && decide (c ≤ 90)) || (decide (97 ≤ c) && decide (c ≤ 122)) || decide (c = 95)
def withinF (c : Int) : Bool := firstF c || (decide (48 ≤ c) && decide (c ≤ 57)) || decide (c = 45) || decide (c = 46) || decide (c = 58)
theorem first_e (c : Int) (w : World) : Calls Tryz.prog 123 #[.int .u8 c] w fun e w' => e = .returned (.bool (firstF c)) ∧ Drawn0 w w' := by
  have HB := Aside0.mk (Drawn0.refl w)
  by_cases r0 : c = 95
  · skip
    subst r0
    go_enter Tryz.func123, Tryz.ntmps123; go_wp2_with fail; go_ret
    exact ⟨rfl, HB.out⟩
  have r0b : (c == 95) = false := beq_eq_false_iff_ne.mpr r0
  by_cases r1 : c < 65
  · skip
    have HF : Aside0 (firstF c = false) := ⟨by simp only [firstF]; simp; omega⟩
    go_enter Tryz.func123, Tryz.ntmps123; go_wp2_with fail; go_ret
    exact ⟨by rw [HF.out]; rfl, HB.out⟩
  by_cases r2 : c ≤ 90
  · skip
    have HF : Aside0 (firstF c = true) := ⟨by simp only [firstF]; simp; omega⟩
    go_enter Tryz.func123, Tryz.ntmps123; go_wp2_with fail; go_ret
    exact ⟨by rw [HF.out]; rfl, HB.out⟩
  by_cases r3 : c < 97
  · skip
    have HF : Aside0 (firstF c = false) := ⟨by simp only [firstF]; simp; omega⟩
    go_enter Tryz.func123, Tryz.ntmps123; go_wp2_with fail; go_ret
    exact ⟨by rw [HF.out]; rfl, HB.out⟩
  by_cases r4 : c ≤ 122
  · skip
    have HF : Aside0 (firstF c = true) := ⟨by simp only [firstF]; simp; omega⟩
    go_enter Tryz.func123, Tryz.ntmps123; go_wp2_with fail; go_ret
    exact ⟨by rw [HF.out]; rfl, HB.out⟩
  have HF : Aside0 (firstF c = false) := ⟨by simp only [firstF]; simp; omega⟩
  go_enter Tryz.func123, Tryz.ntmps123; go_wp2_with fail; go_ret
  exact ⟨by rw [HF.out]; rfl, HB.out⟩
theorem within_e (c : Int) (w : World) : Calls Tryz.prog 122 #[.int .u8 c] w fun e w' => e = .returned (.bool (withinF c)) ∧ Drawn0 w w' := by
  go_enter Tryz.func122, Tryz.ntmps122
  go_wp2_with fail
  refine (first_e c w).mono ?_
  rintro e w1 ⟨rfl, hb⟩
  obtain ⟨b, HF⟩ : ∃ b, Aside0 (b = firstF c) := ⟨_, ⟨rfl⟩⟩
  rw [← HF.out]
  cases b with
  | true =>
    have HW : Aside0 (withinF c = true) := ⟨by unfold withinF; rw [← HF.out]; rfl⟩
    go_wp2_with fail
    go_ret
    exact ⟨by rw [HW.out]; rfl, hb⟩
  | false =>
    have HV : Aside0 (withinF c = ((decide (48 ≤ c) && decide (c ≤ 57)) || decide (c = 45) || decide (c = 46) || decide (c = 58))) := ⟨by unfold withinF; rw [← HF.out]; rfl⟩
    by_cases r0 : c = 45
    · subst r0
      have HW : Aside0 (withinF 45 = true) := ⟨by decide⟩
      clear HV
      go_wp2_with fail; go_ret
      exact ⟨by rw [HW.out]; rfl, hb⟩
    by_cases r1 : c = 46
    · subst r1
      have HW : Aside0 (withinF 46 = true) := ⟨by decide⟩
      clear HV
      go_wp2_with fail; go_ret
      exact ⟨by rw [HW.out]; rfl, hb⟩
    by_cases r2 : c = 58
    · subst r2
      have HW : Aside0 (withinF 58 = true) := ⟨by decide⟩
      clear HV
      go_wp2_with fail; go_ret
      exact ⟨by rw [HW.out]; rfl, hb⟩
    have b0 : (c == 45) = false := beq_eq_false_iff_ne.mpr r0
    have b1 : (c == 46) = false := beq_eq_false_iff_ne.mpr r1
    have b2 : (c == 58) = false := beq_eq_false_iff_ne.mpr r2
    by_cases r3 : c < 48
    · skip
      have HW : Aside0 (withinF c = false) := ⟨by rw [HV.out]; simp; omega⟩
      go_wp2_with fail; go_ret
      exact ⟨by rw [HW.out]; first | rfl | (rw [show decide (c ≤ 57) = false from decide_eq_false (by omega)]; rfl), hb⟩
    by_cases r4 : c ≤ 57
    · skip
      have HW : Aside0 (withinF c = true) := ⟨by rw [HV.out]; simp; omega⟩
      go_wp2_with fail; go_ret
      exact ⟨by rw [HW.out]; first | rfl | (rw [show decide (c ≤ 57) = false from decide_eq_false (by omega)]; rfl), hb⟩
    have HW : Aside0 (withinF c = false) := ⟨by rw [HV.out]; simp; omega⟩
    go_wp2_with fail; go_ret
    exact ⟨by rw [HW.out]; first | rfl | (rw [show decide (c ≤ 57) = false from decide_eq_false (by omega)]; rfl), hb⟩
def nameF (s : ByteArray) : Bool := (bs s).all withinF && decide (s.size ≠ 0) && firstF (bt s 0)
set_option maxHeartbeats 4000000 in
theorem name_e (s : ByteArray) (w : World) (hs : s.size ≤ 140737488355328) (hn : nameF s = true) : Calls Tryz.prog 110 #[.string s] w fun e w' => e = .returned (.bool true) ∧ Drawn0 w w' := by
  unfold nameF at hn
  rw [Bool.and_eq_true, Bool.and_eq_true, decide_eq_true_eq] at hn
  have HS := Aside0.mk hs
  have HN := Aside0.mk hn
  clear hn
  go_enter Tryz.func110, Tryz.ntmps110
  go_wp2_with fail
  go_loopg [3] s.size (fun gg s7 wr => ∃ kk : Nat, kk ≤ s.size ∧ s.size - kk ≤ gg ∧ s7 = .int .i64 kk ∧ Aside0 (Drawn0 w wr))
  case atStart => exact ⟨0, Nat.zero_le _, by omega, rfl, ⟨Drawn0.refl w⟩⟩
  case round =>
    obtain ⟨kk, hkk, hg, rfl, BW⟩ := hrel
    by_cases hlt : kk < s.size
    · have hltz : (kk : Int) < (s.size : Int) := by omega
      have hx := byte_at s kk
      obtain ⟨c, HC⟩ : ∃ c, Aside0 (c = bt s (kk : Int)) := ⟨_, ⟨rfl⟩⟩
      rw [← HC.out] at hx
      have HW : Aside0 (withinF c = true) := ⟨by
        have h1 := HN.out.1.1
        rw [List.all_eq_true] at h1
        have := h1 _ (List.getElem_mem (show kk < (bs s).length by rw [bs_len]; exact hlt))
        rw [bs_get s kk hlt, ← HC.out] at this
        exact this⟩
      go_wp2_with fail
      refine (within_e c _).mono ?_
      rintro e w1 ⟨rfl, hb⟩
      rw [HW.out]
      have BB := Aside0.mk (Drawn0.trans BW.out hb)
      clear hb
      go_wp2_with fail
      go_roundg (s.size - (kk + 1))
      case measure => omega
      case rel => exact ⟨kk + 1, by omega, by omega, by have := HS.out; go_num, BB⟩
    · have hltz : ¬ (kk : Int) < (s.size : Int) := by omega
      have h0 : 0 < s.size := Nat.pos_of_ne_zero HN.out.1.2
      have h0z : (0 : Int) < (s.size : Int) := by omega
      have hne : s.toList ≠ [] := fun h => by
        have e : s.toList = s.data.toList := ByteArray.toList_eq s
        rw [e] at h
        have : s.data.toList.length = 0 := by rw [h]; rfl
        have e2 : s.size = s.data.toList.length := rfl
        omega
      have hx := byte_at s 0
      simp only [Int.natCast_zero] at hx
      obtain ⟨c, HC⟩ : ∃ c, Aside0 (c = bt s 0) := ⟨_, ⟨rfl⟩⟩
      rw [← HC.out] at hx
      have HW : Aside0 (firstF c = true) := ⟨by rw [HC.out]; exact HN.out.2⟩
      go_wp2_with fail
      refine (first_e c _).mono ?_
      rintro e w1 ⟨rfl, hb⟩
      rw [HW.out]
      have BB := Aside0.mk (Drawn0.trans BW.out hb)
      clear hb
      go_wp2_with fail
      go_ret
      have he : s.toList.isEmpty = false := by
        cases h : s.toList with
        | nil => exact absurd h hne
        | cons a l => rfl
      exact ⟨by rw [he]; rfl, BB.out⟩

def stamp (s : ByteArray) : ByteArray := s.extract 0 4 ++ ⟨#[45]⟩ ++ s.extract 4 6 ++ ⟨#[45]⟩ ++ s.extract 6 8 ++ ⟨#[84]⟩ ++ s.extract 8 10 ++ ⟨#[58]⟩ ++ s.extract 10 12 ++ ⟨#[58]⟩ ++ s.extract 12 14
def textF (s : ByteArray) : ByteArray := if timeF s = true then stamp s else ⟨#[]⟩
def textE (s : ByteArray) : Int := if timeF s = true then 0 else 14
set_option maxHeartbeats 4000000 in
set_option maxRecDepth 100000 in
theorem timeText_e (s : ByteArray) (w : World) (hs : s.size ≤ 140737488355328) : Calls Tryz.prog 108 #[.string s] w fun e w' => e = .returned (.tuple #[.string (textF s), .int .i64 (textE s)]) ∧ Drawn0 w w' := by
  go_enter Tryz.func108, Tryz.ntmps108
  go_wp2_with fail
  refine (time_e s w hs).mono ?_
  rintro e w1 ⟨rfl, hb⟩
  have BB := Aside0.mk hb
  clear hb
  obtain ⟨b, HF⟩ : ∃ b, Aside0 (b = timeF s) := ⟨_, ⟨rfl⟩⟩
  rw [← HF.out]
  cases b with
  | false =>
    go_wp2_with fail
    go_ret2
    exact ⟨by unfold textF textE; rw [if_neg (by rw [← HF.out]; decide), if_neg (by rw [← HF.out]; decide)]; rfl, BB.out⟩
  | true =>
    have h14 := (right_iff.1 (timeF_right HF.out.symm)).2
    have hsz : s.size = 14 := by omega
    have HH := Aside0.mk hsz
    go_upto_region 3 with fail
    go_quiet (go_simp)
    go_wp2_with fail
    go_ret2
    have E : Aside0 (textF s = stamp s ∧ textE s = 0) := ⟨by unfold textF textE; rw [if_pos HF.out.symm, if_pos HF.out.symm]; exact ⟨rfl, rfl⟩⟩
    exact ⟨by rw [E.out.1, E.out.2]; rfl, Drawn0.trans BB.out ((Drawn0.refl _).step _)⟩
theorem bs_inj {s t : ByteArray} (h : bs s = bs t) : s = t := by
  have h1 : s.data.toList = t.data.toList := by
    unfold bs at h
    refine (List.map_inj_right (f := fun b : UInt8 => (b.toNat : Int)) (fun a b e => ?_)).1 h
    exact UInt8.toNat_inj.1 (by exact_mod_cast e)
  have : s.data = t.data := Array.toList_inj.1 h1
  cases s; cases t; simp_all
def unstamp (s : ByteArray) : ByteArray := s.extract 0 4 ++ s.extract 5 7 ++ s.extract 8 10 ++ s.extract 11 13 ++ s.extract 14 16 ++ s.extract 17 19
theorem stamp_size (s : ByteArray) (h : s.size = 14) : (stamp s).size = 19 := by
  unfold stamp
  simp only [ByteArray.size_append, ByteArray.size_extract, h]
  rfl
theorem unstamp_stamp (s : ByteArray) (h : s.size = 14) : unstamp (stamp s) = s := by
  apply bs_inj
  have hl : (bs s).length = 14 := by rw [bs_len, h]
  unfold unstamp stamp
  have b45 : bs ⟨#[45]⟩ = [45] := rfl
  have b84 : bs ⟨#[84]⟩ = [84] := rfl
  have b58 : bs ⟨#[58]⟩ = [58] := rfl
  simp only [bs_append, bs_extract, b45, b84, b58]
  generalize bs s = l at hl
  match l, hl with
  | [a0, a1, a2, a3, a4, a5, a6, a7, a8, a9, a10, a11, a12, a13], _ => simp only [List.take_succ_cons, List.drop_succ_cons, List.take_zero, List.drop_zero, List.cons_append, List.nil_append, List.drop_nil, List.take_nil, List.append_nil]
def ofE (s : ByteArray) : Int := if (s.size : Int) = 19 then (if timeF (unstamp s) = true then (if stamp (unstamp s) = s then 0 else 14) else 14) else 14
theorem ofE_ok {s : ByteArray} (h : timeF s = true) : ofE (stamp s) = 0 := by
  have hz := (right_iff.1 (timeF_right h)).2
  have h14 : s.size = 14 := by omega
  unfold ofE
  rw [stamp_size s h14, unstamp_stamp s h14, if_pos (by rfl), if_pos h, if_pos rfl]
set_option maxRecDepth 100000 in
theorem timeOf_e (s : ByteArray) (w : World) (hs : s.size ≤ 140737488355328) : Calls Tryz.prog 117 #[.string s] w fun e w' => ∃ t, e = .returned (.tuple #[.string t, .int .i64 (ofE s)]) ∧ Drawn0 w w' := by
  by_cases h19 : (s.size : Int) = 19
  · have hsz : s.size = 19 := by omega
    have HH := Aside0.mk hsz
    have hus : (unstamp s).size ≤ 140737488355328 := by
      unfold unstamp; simp only [ByteArray.size_append, ByteArray.size_extract, hsz]; decide
    have HT := Aside0.mk hus
    clear hus h19
    go_enter Tryz.func117, Tryz.ntmps117
    go_upto_region 3 with fail
    go_quiet (go_simp)
    go_upto_region 4 with fail
    clear hsz
    have e : unstamp s = s.extract 0 4 ++ s.extract 5 7 ++ s.extract 8 10 ++ s.extract 11 13 ++ s.extract 14 16 ++ s.extract 17 19 := rfl
    rw [← e]
    clear e
    go_wp2_with fail
    refine (timeText_e (unstamp s) _ HT.out).mono ?_
    rintro e w1 ⟨rfl, hb⟩
    have BB := Aside0.mk (Drawn0.trans ((Drawn0.refl w).step _) hb)
    clear hb
    obtain ⟨u, HU⟩ : ∃ u, Aside0 (u = unstamp s) := ⟨_, ⟨rfl⟩⟩
    rw [← HU.out]
    obtain ⟨b, HF⟩ : ∃ b, Aside0 (b = timeF u) := ⟨_, ⟨rfl⟩⟩
    cases b with
    | false =>
      have E : Aside0 (textF u = ⟨#[]⟩ ∧ textE u = 14) := ⟨by unfold textF textE; rw [if_neg (by rw [← HF.out]; decide), if_neg (by rw [← HF.out]; decide)]; exact ⟨rfl, rfl⟩⟩
      have O : Aside0 (ofE s = 14) := ⟨by unfold ofE; rw [HH.out, if_pos (by rfl), ← HU.out, if_neg (by rw [← HF.out]; decide)]⟩
      rw [E.out.1, E.out.2]
      go_wp2_with fail
      go_ret2
      exact ⟨_, by rw [O.out]; rfl, BB.out⟩
    | true =>
      have E : Aside0 (textF u = stamp u ∧ textE u = 0) := ⟨by unfold textF textE; rw [if_pos HF.out.symm, if_pos HF.out.symm]; exact ⟨rfl, rfl⟩⟩
      rw [E.out.1, E.out.2]
      by_cases q : stamp u = s
      · have O : Aside0 (ofE s = 0) := ⟨by unfold ofE; rw [HH.out, if_pos (by rfl), ← HU.out, if_pos HF.out.symm, if_pos q]⟩
        rw [q]
        clear E q
        go_wp2_with fail
        go_ret2
        exact ⟨_, by rw [O.out]; rfl, BB.out⟩
      · have O : Aside0 (ofE s = 14) := ⟨by unfold ofE; rw [HH.out, if_pos (by rfl), ← HU.out, if_pos HF.out.symm, if_neg q]⟩
        obtain ⟨v, hv⟩ : ∃ v, v = stamp u := ⟨_, rfl⟩
        rw [← hv] at q ⊢
        clear hv E
        have q1 : (v.toList == s.toList) = false := beq_eq_false_iff_ne.mpr (fun h => q (by apply bs_inj; unfold bs; rw [← ByteArray.toList_eq, ← ByteArray.toList_eq, h]))
        go_wp2_with fail
        go_ret2
        exact ⟨_, by rw [O.out]; rfl, BB.out⟩
  · have O : Aside0 (ofE s = 14) := ⟨by unfold ofE; rw [if_neg h19]⟩
    have BB := Aside0.mk (Drawn0.refl w)
    have q2 : ((s.size : Int) == 19) = false := beq_eq_false_iff_ne.mpr h19
    go_enter Tryz.func117, Tryz.ntmps117
    go_wp2_with fail
    go_ret2
    exact ⟨_, by rw [O.out]; rfl, BB.out⟩
end Go.Proofs.YthapknnppabdaaaGreat.MQ
