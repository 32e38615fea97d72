/- comptoirplay's pieces, by what they leave: characters, Plain. -/
import Derived.Test.YthdjodamdakjbaaHPlayB
namespace Go.Proofs.Ythdjodamdakjbaa.MK
open Go.RowKit Go.Proofs.YthdjodamdakjbaaW.PrintWords Go.Proofs.YthdjodamdakjbaaW.PrintLast Go.Proofs.YthdjodamdakjbaaW.PrintMore
set_option linter.unusedVariables false
set_option linter.unusedSimpArgs false

set_option maxHeartbeats 4000000 in
theorem char_is (c : Int) (w : World) : Calls Try.prog 74 #[.int .i64 c] w (OutB AnyB w) := by
  have HB := Aside0.mk (Below.refl w.heap.size w)
  by_cases h9 : c = 9
  · subst h9; go_enter Try.func74, Try.ntmps74; go_wp2_with fail; go_ret; exact ⟨_, rfl, trivial, HB.out⟩
  by_cases h10 : c = 10
  · subst h10; go_enter Try.func74, Try.ntmps74; go_wp2_with fail; go_ret; exact ⟨_, rfl, trivial, HB.out⟩
  by_cases h13 : c = 13
  · subst h13; go_enter Try.func74, Try.ntmps74; go_wp2_with fail; go_ret; exact ⟨_, rfl, trivial, HB.out⟩
  have b9 : (c == 9) = false := beq_eq_false_iff_ne.mpr h9
  have b10 : (c == 10) = false := beq_eq_false_iff_ne.mpr h10
  have b13 : (c == 13) = false := beq_eq_false_iff_ne.mpr h13
  clear h9 h10 h13
  by_cases r32 : c < 32
  · go_enter Try.func74, Try.ntmps74; go_wp2_with fail; go_ret; exact ⟨_, rfl, trivial, HB.out⟩
  by_cases r55296 : c < 55296
  · go_enter Try.func74, Try.ntmps74; go_wp2_with fail; go_ret; exact ⟨_, rfl, trivial, HB.out⟩
  by_cases r57343 : c ≤ 57343
  · go_enter Try.func74, Try.ntmps74; go_wp2_with fail; go_ret; exact ⟨_, rfl, trivial, HB.out⟩
  by_cases r65534 : c < 65534
  · go_enter Try.func74, Try.ntmps74; go_wp2_with fail; go_ret; exact ⟨_, rfl, trivial, HB.out⟩
  by_cases r65535 : c ≤ 65535
  · go_enter Try.func74, Try.ntmps74; go_wp2_with fail; go_ret; exact ⟨_, rfl, trivial, HB.out⟩
  by_cases r1114111 : c ≤ 1114111
  · go_enter Try.func74, Try.ntmps74; go_wp2_with fail; go_ret; exact ⟨_, rfl, trivial, HB.out⟩
  go_enter Try.func74, Try.ntmps74; go_wp2_with fail; go_ret; exact ⟨_, rfl, trivial, HB.out⟩
/-- How long the character is that was read: none, or so long that it stands in the text. -/
def CharEnd (s : ByteArray) (i : Int) (u v : Value) (w : World) : Prop := (∃ c, u = .int .i64 c) ∧ ∃ n : Int, v = .int .i64 n ∧ 0 ≤ n ∧ i + n ≤ s.size
set_option maxHeartbeats 8000000 in
set_option maxRecDepth 4000 in
theorem char_x (s : ByteArray) (i : Nat) (w : World) (hs : s.size ≤ 140737488355328) (hi : i < s.size) : Calls Try.prog 71 #[.string s, .int .i64 i] w (OutT (CharEnd s i) w) := by
  have HS := Aside0.mk hs
  have hx := byte_at s i
  have hiz : (i : Int) < (s.size : Int) := by omega
  generalize bt s (i : Int) = c at hx
  have hc : 0 ≤ c ∧ c < 256 := by rw [← hx hi]; have := UInt8.toNat_lt (s[i]'hi); omega
  have hc0 := hc.1
  have hc1 := hc.2
  have ew : wrap64 c = c := by unfold wrap64; omega
  clear hc
  have HB := Aside0.mk (Below.refl w.heap.size w)
  have Z : Aside0 (∀ c : Int, CharEnd s i (.int .i64 c) (.int .i64 0) w) := ⟨fun c => ⟨⟨_, rfl⟩, 0, rfl, by omega, by omega⟩⟩
  go_enter Try.func71, Try.ntmps71
  go_upto_block 0 with fail
  go_cut [6, 7, 8] from 14 to 43 (fun s6 s7 s8 wc => ∃ c n l : Int, s6 = .int .i64 c ∧ s7 = .int .i64 n ∧ s8 = .int .i64 l ∧ 1 ≤ n ∧ n ≤ 4 ∧ Aside0 (Below w.heap.size w wc))
  case first =>
    by_cases r128 : c < 128
    · go_wp2_with fail
      go_meet
      exact ⟨_, _, _, rfl, rfl, rfl, by omega, by omega, HB⟩
    by_cases r192 : c < 192
    · go_wp2_with fail
      go_ret2
      exact ⟨_, _, rfl, Z.out _, HB.out⟩
    by_cases r224 : c < 224
    · go_wp2_with fail
      go_meet
      exact ⟨_, _, _, rfl, rfl, rfl, by omega, by omega, HB⟩
    by_cases r240 : c < 240
    · go_wp2_with fail
      go_meet
      exact ⟨_, _, _, rfl, rfl, rfl, by omega, by omega, HB⟩
    by_cases r248 : c < 248
    · go_wp2_with fail
      go_meet
      exact ⟨_, _, _, rfl, rfl, rfl, by omega, by omega, HB⟩
    go_wp2_with fail
    go_ret2
    exact ⟨_, _, rfl, Z.out _, HB.out⟩
  case rest =>
    obtain ⟨c', n, l, rfl, rfl, rfl, hn1, hn2, BW⟩ := hcut
    clear hx
    by_cases hin : (s.size : Int) < (i : Int) + n
    · have hw : wrap64 ((i : Int) + n) = (i : Int) + n := by have := HS.out; unfold wrap64; omega
      go_wp2_with fail
      go_ret2
      exact ⟨_, _, rfl, Z.out _, BW.out⟩
    · have hin2 : (i : Int) + n ≤ (s.size : Int) := by omega
      have hw : wrap64 ((i : Int) + n) = (i : Int) + n := by have := HS.out; unfold wrap64; omega
      go_wp2_with fail
      go_loopg [6, 9] 4 (fun gg s6 s9 wr => ∃ (k : Nat) (c : Int), s6 = .int .i64 c ∧ s9 = .int .i64 k ∧ 1 ≤ k ∧ (k : Int) ≤ n ∧ n - k ≤ gg ∧ Aside0 (Below w.heap.size w wr))
      case atStart => exact ⟨1, c', rfl, rfl, by omega, by omega, by omega, BW⟩
      case round =>
        obtain ⟨k, c, rfl, rfl, hk1, hk2, hg, BW⟩ := hrel
        by_cases hk : (k : Int) < n
        · have hik : i + k < s.size := by omega
          have hikz : ((i : Int) + (k : Int)) < (s.size : Int) := by omega
          have hx := byte_at s (i + k)
          have ek : wrap64 ((i : Int) + (k : Int)) = ((i + k : Nat) : Int) := by have := HS.out; unfold wrap64; omega
          generalize bt s ((i + k : Nat) : Int) = d at hx
          go_wp2_with fail
          · go_ret2
            exact ⟨_, _, rfl, Z.out _, BW.out⟩
          · go_roundg (n.toNat - (k + 1))
            case measure => omega
            case rel => exact ⟨k + 1, _, rfl, by go_num, by omega, by omega, by omega, BW⟩
        · have HE : Aside0 (∀ c : Int, CharEnd s i (.int .i64 c) (.int .i64 n) w) := ⟨fun c => ⟨⟨_, rfl⟩, n, rfl, by omega, hin2⟩⟩
          by_cases q : c < l
          · go_wp2_with fail
            go_ret2
            exact ⟨_, _, rfl, Z.out _, BW.out⟩
          · go_wp2_with fail
            refine (char_is c _).mono ?_
            rintro e w1 ⟨b, rfl, -, hB⟩
            replace BW := Aside0.mk (below_step BW.out hB)
            clear hB
            cases b with
            | true =>
              go_wp2_with fail
              go_ret2
              exact ⟨_, _, rfl, HE.out _, BW.out⟩
            | false =>
              go_wp2_with fail
              go_ret2
              exact ⟨_, _, rfl, Z.out _, BW.out⟩
/-- How many characters: none too many. -/
def NoMore (s : ByteArray) (n : Int) : Prop := n ≤ s.size
set_option maxHeartbeats 4000000 in
set_option maxRecDepth 4000 in
theorem count_x (s : ByteArray) (w : World) (hs : s.size ≤ 140737488355328) : Calls Try.prog 63 #[.string s] w (OutI (NoMore s) w) := by
  have HS := Aside0.mk hs
  go_enter Try.func63, Try.ntmps63
  go_wp2_with fail
  go_loopg [3, 4] s.size (fun gg s3 s4 wr => ∃ i k : Nat, s4 = .int .i64 i ∧ s3 = .int .i64 k ∧ i ≤ s.size ∧ k ≤ i ∧ s.size - i ≤ gg ∧ Aside0 (Below w.heap.size w wr))
  case atStart => exact ⟨0, 0, rfl, rfl, by omega, by omega, by omega, ⟨Below.refl _ w⟩⟩
  case round =>
    obtain ⟨i, k, rfl, rfl, hi, hk, hg, BW⟩ := hrel
    by_cases hlt : i < s.size
    · have hltz : (i : Int) < (s.size : Int) := by omega
      go_wp2_with fail
      refine (char_x s i _ hs hlt).mono ?_
      rintro e w1 ⟨_, _, rfl, ⟨⟨c, rfl⟩, n, rfl, hn0, hn1⟩, hB⟩
      replace BW := Aside0.mk (below_step BW.out hB)
      clear hB
      obtain ⟨n, rfl⟩ := Int.eq_ofNat_of_zero_le hn0
      by_cases q : (n : Int) = 0
      · have q' : ((n : Int) == 0) = true := beq_iff_eq.mpr q
        go_wp2_with fail
        go_ret
        exact ⟨_, rfl, by unfold NoMore; omega, BW.out⟩
      · have q' : ((n : Int) == 0) = false := beq_eq_false_iff_ne.mpr q
        have e1 : wrap64 ((i : Int) + (n : Int)) = ((i + n : Nat) : Int) := by have := HS.out; unfold wrap64; omega
        have e2 : wrap64 ((k : Int) + 1) = ((k + 1 : Nat) : Int) := by have := HS.out; unfold wrap64; omega
        go_wp2_with fail
        go_roundg (s.size - (i + n))
        case measure => omega
        case rel => exact ⟨i + n, k + 1, by go_num, by go_num, by omega, by omega, by omega, BW⟩
    · have hltz : ¬ (i : Int) < (s.size : Int) := by omega
      have HQ : Aside0 (NoMore s k) := ⟨by unfold NoMore; omega⟩
      go_wp2_with fail
      go_ret
      exact ⟨_, rfl, HQ.out, BW.out⟩
/-- If it says yes, there is something. -/
def Sure (s : ByteArray) (low : Int) (b : Bool) : Prop := b = true → low ≤ s.size
set_option maxHeartbeats 4000000 in
set_option maxRecDepth 4000 in
theorem plain_x (s : ByteArray) (low top : Int) (w : World) (hs : s.size ≤ 140737488355328) : Calls Try.prog 50 #[.string s, .int .i64 low, .int .i64 top] w (OutB (Sure s low) w) := by
  have HS := Aside0.mk hs
  go_enter Try.func50, Try.ntmps50
  go_wp2_with fail
  refine (count_x s _ hs).mono ?_
  rintro e w1 ⟨n, rfl, hn, BW⟩
  replace BW := Aside0.mk BW
  have HN := Aside0.mk hn
  clear hn
  have NO : Aside0 (Sure s low false) := ⟨fun h => absurd h (by decide)⟩
  go_wp2_with fail
  go_loopg [8] s.size (fun gg s8 wr => ∃ kk : Nat, kk ≤ s.size ∧ s.size - kk ≤ gg ∧ s8 = .int .i64 kk ∧ Aside0 (Below w.heap.size w wr))
  case atStart => exact ⟨0, Nat.zero_le _, by omega, rfl, BW⟩
  case round =>
    obtain ⟨kk, hkk, hg, rfl, BW⟩ := hrel
    by_cases hlt : kk < s.size
    · have hltz : (kk : Int) < (s.size : Int) := by omega
      have hx := byte_at s kk
      generalize bt s (kk : Int) = c at hx
      by_cases q1 : c < 32
      · go_wp2_with fail
        go_ret
        exact ⟨_, rfl, NO.out, BW.out⟩
      · go_wp2_with fail
        go_roundg (s.size - (kk + 1))
        case measure => omega
        case rel => exact ⟨kk + 1, by omega, by omega, by go_num, BW⟩
    · have hltz : ¬ (kk : Int) < (s.size : Int) := by omega
      by_cases p1 : 0 ≤ n
      rotate_left
      · go_wp2_with fail
        go_ret
        exact ⟨_, rfl, NO.out, BW.out⟩
      by_cases p2 : low ≤ n
      rotate_left
      · go_wp2_with fail
        go_ret
        exact ⟨_, rfl, NO.out, BW.out⟩
      by_cases p3 : n ≤ top
      rotate_left
      · go_wp2_with fail
        go_ret
        exact ⟨_, rfl, NO.out, BW.out⟩
      have YES : Aside0 (∀ b, Sure s low b) := ⟨fun b _ => by have : n ≤ s.size := HN.out; omega⟩
      by_cases h0 : s.toList = []
      · have m0 : (s.toList == ([] : List UInt8)) = true := beq_iff_eq.mpr h0
        replace h0 := Aside0.mk h0
        go_wp2_with fail
        go_ret
        exact ⟨_, rfl, YES.out _, BW.out⟩
      · have m0 : (s.toList == ([] : List UInt8)) = false := beq_eq_false_iff_ne.mpr h0
        have hp : 0 < s.size := by
          rcases Nat.eq_zero_or_pos s.size with h | h
          · exact absurd (List.eq_nil_of_length_eq_zero (by rw [ByteArray.toList_eq]; exact h)) h0
          · exact h
        have hpz : (0 : Int) < (s.size : Int) := by omega
        have hx0 := byte_at s 0
        have hx1 := byte_at s (s.size - 1)
        have e1 : wrap64 ((s.size : Int) - 1) = ((s.size - 1 : Nat) : Int) := by have := HS.out; unfold wrap64; omega
        have e2 : (s.size : Int) - 1 = ((s.size - 1 : Nat) : Int) := by omega
        have l1 : s.size - 1 < s.size := by omega
        have l2 : ((s.size - 1 : Nat) : Int) < (s.size : Int) := by omega
        generalize bt s ((0 : Nat) : Int) = c0 at hx0
        generalize bt s ((s.size - 1 : Nat) : Int) = c1 at hx1
        replace h0 := Aside0.mk h0
        by_cases q0 : c0 = 32
        · have q0' : (c0 != 32) = false := bne_eq_false_iff_eq.mpr q0
          go_wp2_with fail
          go_ret
          exact ⟨_, rfl, YES.out _, BW.out⟩
        · have q0' : (c0 != 32) = true := bne_iff_ne.mpr q0
          go_wp2_with fail
          go_ret
          exact ⟨_, rfl, YES.out _, BW.out⟩
end Go.Proofs.Ythdjodamdakjbaa.MK
