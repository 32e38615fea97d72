/- comptoirplay's pieces, by what they leave: numbers and times. -/
import Derived.Test.YthdjodamdakjbaaMKx0
namespace Go.Proofs.Ythdjodamdakjbaa.MK
open Go.RowKit Go.Proofs.YthdjodamdakjbaaW.PrintWords Go.Proofs.YthdjodamdakjbaaW.PrintLast Go.Proofs.YthdjodamdakjbaaW.PrintMore
set_option linter.unusedVariables false
set_option linter.unusedSimpArgs false

/-- A bool, a number, a text come back, of which this is known; nothing that was there is touched. -/
def OutB (P : Bool → Prop) (w : World) (e : Ending) (w' : World) : Prop := ∃ b, e = .returned (.bool b) ∧ P b ∧ Below w.heap.size w w'
def OutI (P : Int → Prop) (w : World) (e : Ending) (w' : World) : Prop := ∃ r, e = .returned (.int .i64 r) ∧ P r ∧ Below w.heap.size w w'
def OutS (P : ByteArray → Prop) (w : World) (e : Ending) (w' : World) : Prop := ∃ s, e = .returned (.string s) ∧ P s ∧ Below w.heap.size w w'
def OutT (P : Value → Value → World → Prop) (w : World) (e : Ending) (w' : World) : Prop := ∃ u v, e = .returned (.tuple #[u, v]) ∧ P u v w' ∧ Below w.heap.size w w'
theorem byte_at (s : ByteArray) (kk : Nat) : ∀ h : kk < s.size, ((s[kk]'h).toNat : Int) = bt s (kk : Int) := fun h => by
  have := bt_at s (kk : Int); simp only [Int.toNat_natCast] at this; exact this h
theorem mod_is (v n : Int) (h0 : 0 < n) (h1 : n ≤ 9223372036854775807) : 0 ≤ wrap64 ((IntKind.u64.wrap v).tmod n) ∧ wrap64 ((IntKind.u64.wrap v).tmod n) < n := by
  have hu : 0 ≤ IntKind.u64.wrap v := by
    have e : (2 : Int) ^ IntKind.u64.bits = 18446744073709551616 := by decide
    simp only [IntKind.wrap, IntKind.u64]
    exact Int.emod_nonneg _ (by decide)
  rw [Int.tmod_eq_emod_of_nonneg hu]
  have a := Int.emod_nonneg (IntKind.u64.wrap v) (show n ≠ 0 by omega)
  have b := Int.emod_lt_of_pos (IntKind.u64.wrap v) h0
  unfold wrap64
  omega
/-- A number from 0 to one below. -/
def InMod (n r : Int) : Prop := 0 ≤ r ∧ r < n
def AnyI (r : Int) : Prop := True
def AnyB (b : Bool) : Prop := True
/-- If it says yes, the text is so long at least, at most. -/
def Long (s : ByteArray) (low top : Int) (b : Bool) : Prop := b = true → low ≤ s.size ∧ (s.size : Int) ≤ top
def NumErr (u v : Value) (w : World) : Prop := (∃ n, u = .int .u64 n) ∧ ∃ e, v = .int .i64 e
theorem mod_x (v n : Int) (w : World) (h0 : 0 < n) (h1 : n ≤ 9223372036854775807) : Calls Try.prog 28 #[.int .i64 v, .int .i64 n] w (OutI (InMod n) w) := by
  have HN := Aside0.mk (mod_is v n h0 h1)
  go_enter Try.func28, Try.ntmps28
  go_wp2
  go_ret
  exact ⟨_, rfl, HN.out, Below.refl _ w⟩
set_option maxHeartbeats 4000000 in
theorem right_x (s : ByteArray) (low top : Int) (w : World) (hs : s.size ≤ 140737488355328) : Calls Try.prog 60 #[.string s, .int .i64 low, .int .i64 top] w (OutB (Long s low top) w) := by
  go_enter Try.func60, Try.ntmps60
  go_wp2
  go_loopg [7] s.size (fun gg s7 wr => ∃ kk : Nat, kk ≤ s.size ∧ s.size - kk ≤ gg ∧ s7 = .int .i64 kk ∧ Aside0 (Below w.heap.size w wr))
  case atStart => exact ⟨0, Nat.zero_le _, by omega, rfl, ⟨Below.refl _ w⟩⟩
  case round =>
    obtain ⟨kk, hkk, hg, rfl, BW⟩ := hrel
    by_cases hlt : kk < s.size
    · have hltz : (kk : Int) < (s.size : Int) := by omega
      have hx := byte_at s kk
      generalize bt s (kk : Int) = c at hx
      by_cases q1 : c < 48
      · go_wp2
        go_ret
        exact ⟨false, rfl, fun h => absurd h (by decide), BW.out⟩
      · by_cases q2 : 57 < c
        · go_wp2
          go_ret
          exact ⟨false, rfl, fun h => absurd h (by decide), BW.out⟩
        · go_wp2
          go_roundg (s.size - (kk + 1))
          case measure => omega
          case rel => exact ⟨kk + 1, by omega, by omega, by go_num, BW⟩
    · have hltz : ¬ (kk : Int) < (s.size : Int) := by omega
      by_cases q1 : low ≤ (s.size : Int)
      · by_cases q2 : (s.size : Int) ≤ top
        · have HQ := Aside0.mk (And.intro q1 q2)
          go_wp2
          go_ret
          exact ⟨true, rfl, fun _ => HQ.out, BW.out⟩
        · go_wp2
          go_ret
          exact ⟨false, rfl, fun h => absurd h (by decide), BW.out⟩
      · go_wp2
        go_ret
        exact ⟨false, rfl, fun h => absurd h (by decide), BW.out⟩
set_option maxHeartbeats 4000000 in
theorem number_x (s : ByteArray) (w : World) (hs : s.size ≤ 140737488355328) : Calls Try.prog 70 #[.string s] w (OutT NumErr w) := by
  go_enter Try.func70, Try.ntmps70
  go_wp2_with fail
  refine (right_x s 1 18 w hs).mono ?_
  rintro e w1 ⟨b, rfl, -, hB⟩
  have B1 := Aside0.mk hB
  clear hB
  cases b with
  | false =>
    go_wp2
    go_ret2
    exact ⟨_, _, rfl, ⟨⟨_, rfl⟩, ⟨_, rfl⟩⟩, B1.out⟩
  | true =>
    go_wp2
    go_loopg [4, 5] s.size (fun gg s4 s5 wr => ∃ (kk : Nat) (n : Int), kk ≤ s.size ∧ s.size - kk ≤ gg ∧ s5 = .int .i64 kk ∧ s4 = .int .u64 n ∧ Aside0 (Below w.heap.size w wr))
    case atStart => exact ⟨0, 0, Nat.zero_le _, by omega, rfl, rfl, B1⟩
    case round =>
      obtain ⟨kk, n, hkk, hg, rfl, rfl, BW⟩ := hrel
      by_cases hlt : kk < s.size
      · have hltz : (kk : Int) < (s.size : Int) := by omega
        have hx := byte_at s kk
        generalize bt s (kk : Int) = c at hx
        go_wp2
        go_roundg (s.size - (kk + 1))
        case measure => omega
        case rel => exact ⟨kk + 1, _, by omega, by omega, by go_num, rfl, BW⟩
      · have hltz : ¬ (kk : Int) < (s.size : Int) := by omega
        go_wp2
        go_ret2
        exact ⟨_, _, rfl, ⟨⟨_, rfl⟩, ⟨_, rfl⟩⟩, BW.out⟩
set_option maxHeartbeats 4000000 in
theorem part_x (s : ByteArray) (i j : Int) (w : World) (hs : s.size ≤ 140737488355328) (h0 : 0 ≤ i) (h1 : i ≤ j) (h2 : j ≤ (s.size : Int)) : Calls Try.prog 61 #[.string s, .int .i64 i, .int .i64 j] w (OutI AnyI w) := by
  have hn : (s.extract i.toNat j.toNat).size ≤ 140737488355328 := by rw [ByteArray.size_extract]; omega
  have HN := Aside0.mk (number_x (s.extract i.toNat j.toNat) w hn)
  clear hn
  go_enter Try.func61, Try.ntmps61
  go_wp2_with fail
  refine HN.out.mono ?_
  rintro e w1 ⟨_, _, rfl, ⟨⟨n, rfl⟩, ⟨e, rfl⟩⟩, hB⟩
  go_wp2_with fail
  go_ret
  exact ⟨_, rfl, trivial, hB⟩
set_option maxHeartbeats 4000000 in
theorem days_x (y m : Int) (w : World) : Calls Try.prog 62 #[.int .i64 y, .int .i64 m] w (OutI AnyI w) := by
  have HB := Aside0.mk (Below.refl w.heap.size w)
  by_cases h4 : m = 4
  · subst h4; go_enter Try.func62, Try.ntmps62; go_wp2; go_ret; exact ⟨_, rfl, trivial, HB.out⟩
  by_cases h6 : m = 6
  · subst h6; go_enter Try.func62, Try.ntmps62; go_wp2; go_ret; exact ⟨_, rfl, trivial, HB.out⟩
  by_cases h9 : m = 9
  · subst h9; go_enter Try.func62, Try.ntmps62; go_wp2; go_ret; exact ⟨_, rfl, trivial, HB.out⟩
  by_cases h11 : m = 11
  · subst h11; go_enter Try.func62, Try.ntmps62; go_wp2; go_ret; exact ⟨_, rfl, trivial, HB.out⟩
  by_cases h2 : m = 2
  · subst h2
    by_cases r4 : y.tmod 4 = 0
    · by_cases r1 : y.tmod 100 = 0
      · by_cases r3 : y.tmod 400 = 0
        · go_enter Try.func62, Try.ntmps62; go_wp2; go_ret; exact ⟨_, rfl, trivial, HB.out⟩
        · go_enter Try.func62, Try.ntmps62; go_wp2; go_ret; exact ⟨_, rfl, trivial, HB.out⟩
      · go_enter Try.func62, Try.ntmps62; go_wp2; go_ret; exact ⟨_, rfl, trivial, HB.out⟩
    · go_enter Try.func62, Try.ntmps62; go_wp2; go_ret; exact ⟨_, rfl, trivial, HB.out⟩
  · have b4 : (m == 4) = false := beq_eq_false_iff_ne.mpr h4
    have b6 : (m == 6) = false := beq_eq_false_iff_ne.mpr h6
    have b9 : (m == 9) = false := beq_eq_false_iff_ne.mpr h9
    have b11 : (m == 11) = false := beq_eq_false_iff_ne.mpr h11
    have b2 : (m == 2) = false := beq_eq_false_iff_ne.mpr h2
    go_enter Try.func62, Try.ntmps62; go_wp2; go_ret; exact ⟨_, rfl, trivial, HB.out⟩
set_option maxHeartbeats 4000000 in
theorem time_x (s : ByteArray) (w : World) (hs : s.size ≤ 140737488355328) : Calls Try.prog 48 #[.string s] w (OutB (Long s 14 14) w) := by
  go_enter Try.func48, Try.ntmps48
  go_wp2_with fail
  refine (right_x s 14 14 w hs).mono ?_
  rintro e w1 ⟨b, rfl, hb, BB⟩
  cases b with
  | false =>
    go_wp2_with fail
    go_ret
    exact ⟨false, rfl, fun h => absurd h (by decide), BB⟩
  | true =>
      have HL := Aside0.mk (fun _ => hb rfl : ∀ {b : Bool}, Long s 14 14 b)
      have h14 : 14 ≤ (s.size : Int) := (hb rfl).1
      clear hb
      go_wp2_with fail
      refine (part_x s 0 4 _ hs (by omega) (by omega) (by omega)).mono ?_
      rintro e w2 ⟨y, rfl, -, hB⟩
      replace BB := below_step BB hB; clear hB
      go_wp2_with fail
      refine (part_x s 4 6 _ hs (by omega) (by omega) (by omega)).mono ?_
      rintro e w3 ⟨m, rfl, -, hB⟩
      replace BB := below_step BB hB; clear hB
      go_wp2_with fail
      refine (part_x s 6 8 _ hs (by omega) (by omega) (by omega)).mono ?_
      rintro e w4 ⟨d, rfl, -, hB⟩
      replace BB := below_step BB hB; clear hB
      by_cases q0 : 0 < y
      rotate_left
      · go_wp2_with fail
        go_ret
        exact ⟨false, rfl, HL.out, BB⟩
      by_cases q1 : 1 ≤ m
      rotate_left
      · go_wp2_with fail
        go_ret
        exact ⟨false, rfl, HL.out, BB⟩
      by_cases q2 : m ≤ 12
      rotate_left
      · go_wp2_with fail
        go_ret
        exact ⟨false, rfl, HL.out, BB⟩
      by_cases q3 : 1 ≤ d
      rotate_left
      · go_wp2_with fail
        go_ret
        exact ⟨false, rfl, HL.out, BB⟩
      go_wp2_with fail
      refine (days_x y m _).mono ?_
      rintro e w6 ⟨z, rfl, -, hB⟩
      replace BB := below_step BB hB; clear hB
      by_cases q5 : d ≤ z
      rotate_left
      · go_wp2_with fail
        go_ret
        exact ⟨false, rfl, HL.out, BB⟩
      go_wp2_with fail
      refine (part_x s 8 10 _ hs (by omega) (by omega) (by omega)).mono ?_
      rintro e w7 ⟨z0, rfl, -, hB⟩
      replace BB := below_step BB hB; clear hB
      by_cases p0 : z0 < 24
      rotate_left
      · go_wp2_with fail
        go_ret
        exact ⟨false, rfl, HL.out, BB⟩
      go_wp2_with fail
      refine (part_x s 10 12 _ hs (by omega) (by omega) (by omega)).mono ?_
      rintro e w8 ⟨z1, rfl, -, hB⟩
      replace BB := below_step BB hB; clear hB
      by_cases p1 : z1 < 60
      rotate_left
      · go_wp2_with fail
        go_ret
        exact ⟨false, rfl, HL.out, BB⟩
      go_wp2_with fail
      refine (part_x s 12 14 _ hs (by omega) (by omega) (by omega)).mono ?_
      rintro e w9 ⟨z2, rfl, -, hB⟩
      replace BB := below_step BB hB; clear hB
      go_wp2_with fail
      go_ret
      exact ⟨_, rfl, HL.out, BB⟩
/-- A text that may stand for one that is wanted: something, not too much. -/
def Some1 (s : ByteArray) : Prop := 1 ≤ s.size ∧ s.size ≤ 140737488355328
theorem playTime_x (s : ByteArray) (w : World) (hs : s.size ≤ 140737488355328) : Calls Try.prog 29 #[.string s] w (OutS Some1 w) := by
  go_enter Try.func29, Try.ntmps29
  go_wp2_with fail
  refine (time_x s w hs).mono ?_
  rintro e w1 ⟨b, rfl, hb, BB⟩
  cases b with
  | false =>
    go_wp2_with fail
    go_ret
    exact ⟨_, rfl, by unfold Some1; decide, BB⟩
  | true =>
    have h14 : 14 ≤ (s.size : Int) := (hb rfl).1
    clear hb
    go_wp2_with fail
    go_ret
    exact ⟨s, rfl, ⟨by omega, hs⟩, BB⟩
end Go.Proofs.Ythdjodamdakjbaa.MK
