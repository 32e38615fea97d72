/- TimersAgain where nothing is set; and whatever is handed in. -/
import Derived.Test.YthjcdjanadeobaaHAgain
namespace Go.Proofs.Ythjcdjanadeobaa.MH
open Go.RowKit Go.Proofs.YthjcdjanadeobaaW.PrintWords Go.Proofs.YthjcdjanadeobaaW.PrintLast Go.Proofs.YthjcdjanadeobaaW.PrintMore Go.Proofs.Ythjcdjanadeobaa.Heap
set_option linter.unusedVariables false
set_option linter.unusedSimpArgs false

set_option maxHeartbeats 8000000 in
set_option maxRecDepth 100000 in
theorem again_empty (A0 : Option Addr) (c0 : Nat) (A1 : Option Addr) (c1 n1 : Nat) (A2 : Option Addr) (c2 n2 : Nat) (w : World) :
    Calls Try.prog 5 #[.slice A0 0 c0, .slice A1 n1 c1, .slice A2 n2 c2] w fun e w' => e = .returned (.bool true) ∧ Below w.heap.size w w' := by
  have s1 : (0 : Int) ≤ (c0 : Int) := by omega
  go_enter Try.func5, Try.ntmps5
  go_wp2_with fail
  refine (new7 w).mono ?_
  rintro e w1 ⟨hb, rfl, hp, hf⟩
  have HP1 := Aside0.mk hp
  have HN1 := Aside0.mk (Now.foot hf (S := fun b => w.heap.size ≤ b ∧ b < w1.heap.size) (fun b hb => hb.1))
  have HA := Aside0.mk (awake8 w1)
  clear hp hf
  go_wp2_with fail
  refine HA.out.mono ?_
  rintro e w2 ⟨rfl, hbel⟩
  have HP2 := Aside0.mk (HP1.out.still hbel)
  have HN2 := Aside0.mk (HN1.out.below hbel)
  clear hbel
  cases A0 with
  | none =>
    go_wp2_with fail
    go_loopg [11] 0 (fun gg s11 wr => s11 = .int .i64 0 ∧ wr = w2)
    case atStart => exact ⟨rfl, rfl⟩
    case round =>
      obtain ⟨rfl, hw⟩ := hrel
      rw [hw]
      go_wp2_with fail
      go_loopg [10, 12] 0 (fun gg s10 s12 wr => s10 = .int .i64 0 ∧ s12 = .int .i64 0 ∧ wr = w2)
      case atStart => exact ⟨rfl, rfl, rfl⟩
      case round =>
        obtain ⟨rfl, rfl, hw2⟩ := hrel
        rw [hw2]
        have HL := Aside0.mk (len18 hb _ [] w2 HP2.out)
        simp only [List.length_nil, Int.natCast_zero] at HL
        go_wp2_with fail
        refine HL.out.mono ?_
        rintro e w5 ⟨rfl, hw5⟩
        rw [hw5]
        go_wp2_with fail
        go_loopg [10] 0 (fun gg s10 wr => s10 = .int .i64 0 ∧ wr = w2)
        case atStart => exact ⟨rfl, rfl⟩
        case round =>
          obtain ⟨rfl, hw3⟩ := hrel
          rw [hw3]
          go_wp2_with fail
          refine HL.out.mono ?_
          rintro e w6 ⟨rfl, hw6⟩
          rw [hw6]
          go_wp2_with fail
          go_ret
          exact ⟨rfl, HN2.out.bel⟩
  | some ad =>
    go_wp2_with fail
    go_loopg [11] 0 (fun gg s11 wr => s11 = .int .i64 0 ∧ wr = w2)
    case atStart => exact ⟨rfl, rfl⟩
    case round =>
      obtain ⟨rfl, hw⟩ := hrel
      rw [hw]
      go_wp2_with fail
      go_loopg [10, 12] 0 (fun gg s10 s12 wr => s10 = .int .i64 0 ∧ s12 = .int .i64 0 ∧ wr = w2)
      case atStart => exact ⟨rfl, rfl, rfl⟩
      case round =>
        obtain ⟨rfl, rfl, hw2⟩ := hrel
        rw [hw2]
        have HL := Aside0.mk (len18 hb _ [] w2 HP2.out)
        simp only [List.length_nil, Int.natCast_zero] at HL
        go_wp2_with fail
        refine HL.out.mono ?_
        rintro e w5 ⟨rfl, hw5⟩
        rw [hw5]
        go_wp2_with fail
        go_loopg [10] 0 (fun gg s10 wr => s10 = .int .i64 0 ∧ wr = w2)
        case atStart => exact ⟨rfl, rfl⟩
        case round =>
          obtain ⟨rfl, hw3⟩ := hrel
          rw [hw3]
          go_wp2_with fail
          refine HL.out.mono ?_
          rintro e w6 ⟨rfl, hw6⟩
          rw [hw6]
          go_wp2_with fail
          go_ret
          exact ⟨rfl, HN2.out.bel⟩
theorem again_all (A0 : Option Addr) (c0 : Nat) (l0 : List Int) (A1 : Option Addr) (c1 : Nat) (l1 : List Int) (A2 : Option Addr) (c2 : Nat) (l2 : List Bool) (w : World)
    (hr0 : Kd.C (Kd.int .u64) w A0 l0.length l0) (hc0 : l0.length ≤ c0) (_ : l0.length ≤ maxLen ∧ l0.length * 8 ≤ 140737488351232 ∧ ∀ x ∈ l0, (fun x : Int => (Lit.int .u64 x).wf = true) x)
    (hr1 : Kd.C (Kd.int .u64) w A1 l1.length l1) (hc1 : l1.length ≤ c1) (_ : l1.length ≤ maxLen ∧ l1.length * 8 ≤ 140737488351232 ∧ ∀ x ∈ l1, (fun x : Int => (Lit.int .u64 x).wf = true) x)
    (hr2 : Kd.C Kd.bool w A2 l2.length l2) (hc2 : l2.length ≤ c2) (_ : l2.length ≤ maxLen ∧ l2.length * 1 ≤ 140737488351232 ∧ ∀ x ∈ l2, (fun _ : Bool => True) x) :
    Calls Try.prog 5 #[.slice A0 l0.length c0, .slice A1 l1.length c1, .slice A2 l2.length c2] w fun e w' => e = .returned (.bool true) ∧ Below w.heap.size w w' := by
  rcases Nat.eq_zero_or_pos l0.length with h | h
  · rw [h]
    exact again_empty A0 c0 A1 c1 l1.length A2 c2 l2.length w
  · obtain ⟨ad, rfl, _⟩ := num_at hr0 0 h
    exact again_walk ad c0 l0 A1 c1 l1 A2 c2 l2 w h hr0 hc0 hr1 hc1 hr2 hc2
end Go.Proofs.Ythjcdjanadeobaa.MH
