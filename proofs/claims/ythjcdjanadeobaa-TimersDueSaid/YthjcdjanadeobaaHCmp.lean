/- What cmp.Compare, cmp.Or come to, and pile.Less: walked. -/
import Derived.Test.YthjcdjanadeobaaProg
import Derived.Test.YthjcdjanadeobaaWMore
import Derived.Test.YthjcdjanadeobaaWLast
import Derived.Test.YthjcdjanadeobaaWKept
import Derived.Test.YthjcdjanadeobaaHHeap
import Derived.RegionTactic
import Derived.ChangeAlike
import Derived.Shelf.Abstract
import Derived.StillTailTactics
import Derived.Deep.QuietTactic
import Derived.BigQuiet
namespace Go.Proofs.Ythjcdjanadeobaa.MH
open Go.RowKit Go.Proofs.YthjcdjanadeobaaW.PrintWords Go.Proofs.YthjcdjanadeobaaW.PrintLast Go.Proofs.YthjcdjanadeobaaW.PrintMore Go.Proofs.Ythjcdjanadeobaa.Heap
set_option linter.unusedVariables false
set_option linter.unusedSimpArgs false

theorem w64_in (n : Int) (h : -9223372036854775808 ≤ n ∧ n ≤ 9223372036854775807) : wrap64 n = n := by unfold wrap64; omega
def cmpI (x y : Int) : Int := if x < y then -1 else if y < x then 1 else 0
set_option maxHeartbeats 4000000 in
theorem nan52 (x : Int) (w : World) : Calls Try.prog 52 #[.int .u64 x] w fun e w' => e = .returned (.bool false) ∧ w' = w := by
  go_enter Try.func52, Try.ntmps52
  go_wp2
  go_ret
  exact ⟨by simp, rfl⟩
set_option maxHeartbeats 4000000 in
theorem nan53 (x : Int) (w : World) : Calls Try.prog 53 #[.int .i64 x] w fun e w' => e = .returned (.bool false) ∧ w' = w := by
  go_enter Try.func53, Try.ntmps53
  go_wp2
  go_ret
  exact ⟨by simp, rfl⟩
set_option maxHeartbeats 4000000 in
theorem cmp50 (x y : Int) (w : World) : Calls Try.prog 50 #[.int .u64 x, .int .u64 y] w fun e w' => e = .returned (.int .i64 (cmpI x y)) ∧ w' = w := by
  by_cases c1 : x < y
  · have HE : Aside0 (cmpI x y = -1) := ⟨by unfold cmpI; rw [if_pos c1]⟩
    have q1 : decide (x < y) = true := decide_eq_true c1
    go_enter Try.func50, Try.ntmps50
    go_wp2_with (go_at_call 52; refine (nan52 _ _).mono ?_; rintro e w' ⟨rfl, rfl⟩)
    go_ret
    exact ⟨by rw [HE.out]; rfl, rfl⟩
  · have q1 : decide (x < y) = false := decide_eq_false c1
    by_cases c2 : y < x
    · have HE : Aside0 (cmpI x y = 1) := ⟨by unfold cmpI; rw [if_neg c1, if_pos c2]⟩
      have q2 : decide (x > y) = true := decide_eq_true c2
      have q3 : decide (y < x) = true := decide_eq_true c2
      go_enter Try.func50, Try.ntmps50
      go_wp2_with (go_at_call 52; refine (nan52 _ _).mono ?_; rintro e w' ⟨rfl, rfl⟩)
      go_ret
      exact ⟨by rw [HE.out]; rfl, rfl⟩
    · have HE : Aside0 (cmpI x y = 0) := ⟨by unfold cmpI; rw [if_neg c1, if_neg c2]⟩
      have q2 : decide (x > y) = false := decide_eq_false c2
      have q3 : decide (y < x) = false := decide_eq_false c2
      go_enter Try.func50, Try.ntmps50
      go_wp2_with (go_at_call 52; refine (nan52 _ _).mono ?_; rintro e w' ⟨rfl, rfl⟩)
      go_ret
      exact ⟨by rw [HE.out]; rfl, rfl⟩
set_option maxHeartbeats 4000000 in
theorem cmp51 (x y : Int) (w : World) : Calls Try.prog 51 #[.int .i64 x, .int .i64 y] w fun e w' => e = .returned (.int .i64 (cmpI x y)) ∧ w' = w := by
  by_cases c1 : x < y
  · have HE : Aside0 (cmpI x y = -1) := ⟨by unfold cmpI; rw [if_pos c1]⟩
    have q1 : decide (x < y) = true := decide_eq_true c1
    go_enter Try.func51, Try.ntmps51
    go_wp2_with (go_at_call 53; refine (nan53 _ _).mono ?_; rintro e w' ⟨rfl, rfl⟩)
    go_ret
    exact ⟨by rw [HE.out]; rfl, rfl⟩
  · have q1 : decide (x < y) = false := decide_eq_false c1
    by_cases c2 : y < x
    · have HE : Aside0 (cmpI x y = 1) := ⟨by unfold cmpI; rw [if_neg c1, if_pos c2]⟩
      have q2 : decide (x > y) = true := decide_eq_true c2
      have q3 : decide (y < x) = true := decide_eq_true c2
      go_enter Try.func51, Try.ntmps51
      go_wp2_with (go_at_call 53; refine (nan53 _ _).mono ?_; rintro e w' ⟨rfl, rfl⟩)
      go_ret
      exact ⟨by rw [HE.out]; rfl, rfl⟩
    · have HE : Aside0 (cmpI x y = 0) := ⟨by unfold cmpI; rw [if_neg c1, if_neg c2]⟩
      have q2 : decide (x > y) = false := decide_eq_false c2
      have q3 : decide (y < x) = false := decide_eq_false c2
      go_enter Try.func51, Try.ntmps51
      go_wp2_with (go_at_call 53; refine (nan53 _ _).mono ?_; rintro e w' ⟨rfl, rfl⟩)
      go_ret
      exact ⟨by rw [HE.out]; rfl, rfl⟩
/-- cmp.Or of two. -/
def orI (a b : Int) : Int := if a = 0 then b else a
set_option maxHeartbeats 4000000 in
theorem or49 (g : Nat) (a b : Int) (w : World) (hg : w.heap[g]? = some (.cells #[.int .i64 a, .int .i64 b] 3 (0, 0))) : Calls Try.prog 49 #[.slice (some ⟨g, 0, none⟩) 2 2] w fun e w' => e = .returned (.int .i64 (orI a b)) ∧ w' = w := by
  have HC0 : w.cell? ⟨g, 0, none⟩ = some (.int .i64 a) := (blk_cell hg 0).trans rfl
  have HC1 : w.cell? ⟨g, 1, none⟩ = some (.int .i64 b) := (blk_cell hg 1).trans rfl
  clear hg
  by_cases ca : a = 0
  · have HE : Aside0 (orI a b = b) := ⟨by unfold orI; rw [if_pos ca]⟩
    subst ca
    by_cases cb : b = 0
    · subst cb
      go_enter Try.func49, Try.ntmps49
      go_wp2
      go_loopg [8] 2 (fun gg s8 wr => ∃ kk : Nat, kk ≤ 2 ∧ 2 - kk ≤ gg ∧ s8 = .int .i64 kk ∧ wr = w)
      case atStart => exact ⟨0, by decide, by decide, rfl, rfl⟩
      case round =>
        obtain ⟨kk, hk, hgg, rfl, rfl⟩ := hrel
        rcases (show kk = 0 ∨ kk = 1 ∨ kk = 2 by omega) with rfl | rfl | rfl
        · go_wp2
          go_roundg 1
          case measure => omega
          case rel => exact ⟨1, by decide, by decide, rfl, rfl⟩
        · go_wp2
          go_roundg 0
          case measure => omega
          case rel => exact ⟨2, by decide, by decide, rfl, rfl⟩
        · go_wp2
          go_ret
          exact ⟨by rw [HE.out]; rfl, rfl⟩
    · have q : (b != 0) = true := bne_iff_ne.2 cb
      go_enter Try.func49, Try.ntmps49
      go_wp2
      go_loopg [8] 2 (fun gg s8 wr => ∃ kk : Nat, kk ≤ 1 ∧ 2 - kk ≤ gg ∧ s8 = .int .i64 kk ∧ wr = w)
      case atStart => exact ⟨0, by decide, by decide, rfl, rfl⟩
      case round =>
        obtain ⟨kk, hk, hgg, rfl, rfl⟩ := hrel
        rcases (show kk = 0 ∨ kk = 1 by omega) with rfl | rfl
        · go_wp2
          go_roundg 1
          case measure => omega
          case rel => exact ⟨1, by decide, by decide, rfl, rfl⟩
        · go_wp2
          go_ret
          exact ⟨by rw [HE.out]; rfl, rfl⟩
  · have HE : Aside0 (orI a b = a) := ⟨by unfold orI; rw [if_neg ca]⟩
    have q : (a != 0) = true := bne_iff_ne.2 ca
    go_enter Try.func49, Try.ntmps49
    go_wp2
    go_loopg [8] 2 (fun gg s8 wr => s8 = .int .i64 0 ∧ wr = w)
    case atStart => exact ⟨rfl, rfl⟩
    case round =>
      obtain ⟨rfl, rfl⟩ := hrel
      go_wp2
      go_ret
      exact ⟨by rw [HE.out]; rfl, rfl⟩
end Go.Proofs.Ythjcdjanadeobaa.MH
