/- container/heap's down, walked over a pile. -/
import Derived.Test.YthjcdjanadeobaaHUp
namespace Go.Proofs.Ythjcdjanadeobaa.MH
open Go.RowKit Go.Proofs.YthjcdjanadeobaaW.PrintWords Go.Proofs.YthjcdjanadeobaaW.PrintLast Go.Proofs.YthjcdjanadeobaaW.PrintMore Go.Proofs.Ythjcdjanadeobaa.Heap
set_option linter.unusedVariables false
set_option linter.unusedSimpArgs false

theorem down_succ (f : Nat) (l : List Heap.Item) (i n : Nat) : down (f + 1) l i n = if 2 * i + 1 ≥ n then (l, i) else if less (at_ l (child l i n)) (at_ l i) = true then down f (Heap.swap l i (child l i n)) (child l i n) n else (l, i) := rfl
set_option maxHeartbeats 8000000 in
set_option maxRecDepth 100000 in
theorem down27 (pb mb sb cap F i n : Nat) (l : List Heap.Item) (w : World) (h : Pile w pb mb sb cap l) (hi : i ≤ l.length) (hn : n ≤ l.length) (hF : n ≤ i + F) :
    Calls Try.prog 27 #[.iface 47 (.pointer (some ⟨pb, 0, none⟩)), .int .i64 i, .int .i64 n] w fun e w' => e = .returned (.bool (decide (i < (down F l i n).2))) ∧ Pile w' pb mb sb cap (down F l i n).1 ∧ Foot (Its mb sb) w w' := by
  have hm1 : ∀ w : World, (method 191 47 (.pointer (some ⟨pb, 0, none⟩)) "Less").run Try.prog w = .ok (45, .pointer (some ⟨pb, 0, none⟩)) w := fun _ => by kernel_rfl
  have hm2 : ∀ w : World, (method 191 47 (.pointer (some ⟨pb, 0, none⟩)) "Swap").run Try.prog w = .ok (48, .pointer (some ⟨pb, 0, none⟩)) w := fun _ => by kernel_rfl
  have eg1 : ∀ args w, (callFunc 45 args).run Try.prog w = .ok (.enter 45 args) w := enters_of Try.func45 (by kernel_rfl) rfl
  have eg2 : ∀ args w, (callFunc 48 args).run Try.prog w = .ok (.enter 48 args) w := enters_of Try.func48 (by kernel_rfl) rfl
  have HZ := Aside0.mk h
  have HS := Aside0.mk (pile_size h)
  have HJ := Aside0.mk (And.intro hi (And.intro hn hF))
  clear h hi hn hF
  go_enter Try.func27, Try.ntmps27
  go_wp2
  go_loopg [7] F (fun gg s7 wr => ∃ (ii fu : Nat) (l2 : List Heap.Item), s7 = .int .i64 ii ∧ ii ≤ l2.length ∧ l2.length = l.length ∧ fu ≤ gg ∧ n ≤ ii + fu ∧ Aside0 (down F l i n = down fu l2 ii n) ∧ Aside0 (Pile wr pb mb sb cap l2) ∧ Aside0 (Foot (Its mb sb) w wr))
  case atStart => exact ⟨i, F, l, rfl, HJ.out.1, rfl, Nat.le_refl _, HJ.out.2.2, ⟨rfl⟩, HZ, ⟨Foot.refl _ _⟩⟩
  case round =>
    obtain ⟨ii, fu, l2, rfl, hil, hll, hgg, hfu, HU, HP, HF⟩ := hrel
    have hb : ii ≤ 1000000000 := by have := HS.out; omega
    have hnb : n ≤ l2.length := by have := HJ.out; omega
    obtain ⟨j1, hj1⟩ : ∃ j1, j1 = 2 * ii + 1 := ⟨_, rfl⟩
    obtain ⟨j2, hj2⟩ : ∃ j2, j2 = 2 * ii + 2 := ⟨_, rfl⟩
    have r1 : 2 * (ii : Int) + 1 = (j1 : Int) := by omega
    have r2 : (j1 : Int) + 1 = (j2 : Int) := by omega
    have r3 : decide ((j1 : Int) < 0) = false := decide_eq_false (by omega)
    have r4 : wrap64 ((j1 : Int) + 1) = (j2 : Int) := by rw [w64_in _ ⟨by omega, by omega⟩]; exact r2
    have r5 : wrap64 (wrap64 (2 * (ii : Int)) + 1) = (j1 : Int) := by rw [w64_in (2 * (ii : Int)) ⟨by omega, by omega⟩, w64_in _ ⟨by omega, by omega⟩]; exact r1
    by_cases c0 : j1 ≥ n
    · have q0 : decide ((j1 : Int) ≥ (n : Int)) = true := decide_eq_true (by omega)
      have q0' : decide ((n : Int) ≤ (j1 : Int)) = true := decide_eq_true (by omega)
      have hz : down fu l2 ii n = (l2, ii) := by
        cases fu with
        | zero => rfl
        | succ k => rw [down_succ, if_pos (by omega)]
      have HU2 := Aside0.mk (HU.out.trans hz)
      have q1 : decide ((ii : Int) > (i : Int)) = decide (i < ii) := by rw [decide_eq_decide]; omega
      have q1' : decide ((i : Int) < (ii : Int)) = decide (i < ii) := by rw [decide_eq_decide]; omega
      clear hj1 hj2 hz
      go_wp2_with fail
      go_ret
      exact ⟨by rw [HU2.out]; first | rfl | simp [q1, q1'], by rw [HU2.out]; exact HP.out, HF.out⟩
    · have q0 : decide ((j1 : Int) ≥ (n : Int)) = false := decide_eq_false (by omega)
      have q0' : decide ((n : Int) ≤ (j1 : Int)) = false := decide_eq_false (by omega)
      obtain ⟨fu', rfl⟩ : ∃ q, fu = q + 1 := ⟨fu - 1, by omega⟩
      have hup := HU.out
      rw [down_succ, if_neg (by omega)] at hup
      have hil2 : ii < l2.length := by omega
      have hj1l : j1 < l2.length := by omega
      have hch : child l2 ii n = if j2 < n ∧ less (at_ l2 j2) (at_ l2 j1) = true then j2 else j1 := by unfold child; rw [hj1, hj2]
      by_cases c2 : j2 < n
      · have q2 : decide ((j2 : Int) < (n : Int)) = true := decide_eq_true (by omega)
        have q2' : (j2 : Int) < (n : Int) := by omega
        have HL1 := Aside0.mk (pile_less HP.out j2 j1 (by omega) hj1l)
        have hj2l : j2 < l2.length := by omega
        cases hq : less (at_ l2 j2) (at_ l2 j1) with
        | true =>
          rw [hq, if_pos ⟨c2, rfl⟩] at hch
          rw [hch] at hup
          rw [hq] at HL1
          have HUP := Aside0.mk hup
          have HN := Aside0.mk (And.intro hj1 (And.intro hj2 (And.intro hfu hgg)))
          clear hj1 hj2 hch hup hq
          go_wp2_with fail
          refine HL1.out.mono ?_
          rintro e w' ⟨rfl, hpile, hfoot⟩
          have HP2 := Aside0.mk hpile
          have HF2 := Aside0.mk (HF.out.trans hfoot (fun _ _ h => h))
          clear hpile hfoot
          go_wp2_with fail
          have q1 : decide ((ii : Int) > (i : Int)) = decide (i < ii) := by rw [decide_eq_decide]; omega
          have q1' : decide ((i : Int) < (ii : Int)) = decide (i < ii) := by rw [decide_eq_decide]; omega
          have HL2 := Aside0.mk (pile_less HP2.out j2 ii hj2l hil2)
          have hnej : ii ≠ j2 := by have := HN.out; omega
          have hsl := swap_len l2 ii j2
          have hfin : n ≤ j2 + fu' := by have := HN.out; omega
          cases hq2 : less (at_ l2 j2) (at_ l2 ii) with
          | false =>
            have hu := HUP.out
            rw [hq2, if_neg (by simp)] at hu
            rw [hq2] at HL2
            have HU2 := Aside0.mk hu
            clear hq2 hu
            refine HL2.out.mono ?_
            rintro e w' ⟨rfl, hpile, hfoot⟩
            have HP3 := Aside0.mk hpile
            have HF3 := Aside0.mk (HF2.out.trans hfoot (fun _ _ h => h))
            clear hpile hfoot
            go_wp2_with fail
            go_ret
            exact ⟨by rw [HU2.out]; first | rfl | simp [q1, q1'], by rw [HU2.out]; exact HP3.out, HF3.out⟩
          | true =>
            have hu := HUP.out
            rw [hq2, if_pos rfl] at hu
            rw [hq2] at HL2
            have HU2 := Aside0.mk hu
            clear hq2 hu
            refine HL2.out.mono ?_
            rintro e w' ⟨rfl, hpile, hfoot⟩
            have HP3 := Aside0.mk hpile
            have HF3 := Aside0.mk (HF2.out.trans hfoot (fun _ _ h => h))
            clear hpile hfoot
            go_wp2_with fail
            refine (pile_swap HP3.out ii j2 hil2 hj2l hnej).mono ?_
            rintro e w'' ⟨rfl, hpile, hfoot⟩
            have HP4 := Aside0.mk hpile
            have HF4 := Aside0.mk (HF3.out.trans hfoot (fun _ _ h => h))
            clear hpile hfoot
            go_wp2_with fail
            go_roundg fu'
            case measure => omega
            case rel => exact ⟨j2, fu', Heap.swap l2 ii j2, rfl, by omega, by omega, Nat.le_refl _, hfin, HU2, HP4, HF4⟩
        | false =>
          rw [hq, if_neg (by simp)] at hch
          rw [hch] at hup
          rw [hq] at HL1
          have HUP := Aside0.mk hup
          have HN := Aside0.mk (And.intro hj1 (And.intro hj2 (And.intro hfu hgg)))
          clear hj1 hj2 hch hup hq
          go_wp2_with fail
          refine HL1.out.mono ?_
          rintro e w' ⟨rfl, hpile, hfoot⟩
          have HP2 := Aside0.mk hpile
          have HF2 := Aside0.mk (HF.out.trans hfoot (fun _ _ h => h))
          clear hpile hfoot
          go_wp2_with fail
          have q1 : decide ((ii : Int) > (i : Int)) = decide (i < ii) := by rw [decide_eq_decide]; omega
          have q1' : decide ((i : Int) < (ii : Int)) = decide (i < ii) := by rw [decide_eq_decide]; omega
          have HL2 := Aside0.mk (pile_less HP2.out j1 ii hj1l hil2)
          have hnej : ii ≠ j1 := by have := HN.out; omega
          have hsl := swap_len l2 ii j1
          have hfin : n ≤ j1 + fu' := by have := HN.out; omega
          cases hq2 : less (at_ l2 j1) (at_ l2 ii) with
          | false =>
            have hu := HUP.out
            rw [hq2, if_neg (by simp)] at hu
            rw [hq2] at HL2
            have HU2 := Aside0.mk hu
            clear hq2 hu
            refine HL2.out.mono ?_
            rintro e w' ⟨rfl, hpile, hfoot⟩
            have HP3 := Aside0.mk hpile
            have HF3 := Aside0.mk (HF2.out.trans hfoot (fun _ _ h => h))
            clear hpile hfoot
            go_wp2_with fail
            go_ret
            exact ⟨by rw [HU2.out]; first | rfl | simp [q1, q1'], by rw [HU2.out]; exact HP3.out, HF3.out⟩
          | true =>
            have hu := HUP.out
            rw [hq2, if_pos rfl] at hu
            rw [hq2] at HL2
            have HU2 := Aside0.mk hu
            clear hq2 hu
            refine HL2.out.mono ?_
            rintro e w' ⟨rfl, hpile, hfoot⟩
            have HP3 := Aside0.mk hpile
            have HF3 := Aside0.mk (HF2.out.trans hfoot (fun _ _ h => h))
            clear hpile hfoot
            go_wp2_with fail
            refine (pile_swap HP3.out ii j1 hil2 hj1l hnej).mono ?_
            rintro e w'' ⟨rfl, hpile, hfoot⟩
            have HP4 := Aside0.mk hpile
            have HF4 := Aside0.mk (HF3.out.trans hfoot (fun _ _ h => h))
            clear hpile hfoot
            go_wp2_with fail
            go_roundg fu'
            case measure => omega
            case rel => exact ⟨j1, fu', Heap.swap l2 ii j1, rfl, by omega, by omega, Nat.le_refl _, hfin, HU2, HP4, HF4⟩
      · have q2 : decide ((j2 : Int) < (n : Int)) = false := decide_eq_false (by omega)
        rw [if_neg (fun h => c2 h.1)] at hch
        rw [hch] at hup
        have HUP := Aside0.mk hup
        have HN := Aside0.mk (And.intro hj1 (And.intro hj2 (And.intro hfu hgg)))
        clear hj1 hj2 hch hup
        go_wp2_with fail
        have q1 : decide ((ii : Int) > (i : Int)) = decide (i < ii) := by rw [decide_eq_decide]; omega
        have q1' : decide ((i : Int) < (ii : Int)) = decide (i < ii) := by rw [decide_eq_decide]; omega
        have HL2 := Aside0.mk (pile_less HP.out j1 ii hj1l hil2)
        have hnej : ii ≠ j1 := by have := HN.out; omega
        have hsl := swap_len l2 ii j1
        have hfin : n ≤ j1 + fu' := by have := HN.out; omega
        cases hq2 : less (at_ l2 j1) (at_ l2 ii) with
        | false =>
          have hu := HUP.out
          rw [hq2, if_neg (by simp)] at hu
          rw [hq2] at HL2
          have HU2 := Aside0.mk hu
          clear hq2 hu
          refine HL2.out.mono ?_
          rintro e w' ⟨rfl, hpile, hfoot⟩
          have HP3 := Aside0.mk hpile
          have HF3 := Aside0.mk (HF.out.trans hfoot (fun _ _ h => h))
          clear hpile hfoot
          go_wp2_with fail
          go_ret
          exact ⟨by rw [HU2.out]; first | rfl | simp [q1, q1'], by rw [HU2.out]; exact HP3.out, HF3.out⟩
        | true =>
          have hu := HUP.out
          rw [hq2, if_pos rfl] at hu
          rw [hq2] at HL2
          have HU2 := Aside0.mk hu
          clear hq2 hu
          refine HL2.out.mono ?_
          rintro e w' ⟨rfl, hpile, hfoot⟩
          have HP3 := Aside0.mk hpile
          have HF3 := Aside0.mk (HF.out.trans hfoot (fun _ _ h => h))
          clear hpile hfoot
          go_wp2_with fail
          refine (pile_swap HP3.out ii j1 hil2 hj1l hnej).mono ?_
          rintro e w'' ⟨rfl, hpile, hfoot⟩
          have HP4 := Aside0.mk hpile
          have HF4 := Aside0.mk (HF3.out.trans hfoot (fun _ _ h => h))
          clear hpile hfoot
          go_wp2_with fail
          go_roundg fu'
          case measure => omega
          case rel => exact ⟨j1, fu', Heap.swap l2 ii j1, rfl, by omega, by omega, Nat.le_refl _, hfin, HU2, HP4, HF4⟩
end Go.Proofs.Ythjcdjanadeobaa.MH
