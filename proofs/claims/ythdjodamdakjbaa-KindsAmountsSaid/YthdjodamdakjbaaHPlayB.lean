/- comptoirplay's pieces, by what they leave: digits, alnum. -/
import Derived.Test.YthdjodamdakjbaaHPlayA
import Derived.Deep.CutBlock
import Derived.Deep.CutRange
namespace Go.Proofs.Ythdjodamdakjbaa.MK
open Go.RowKit Go.Proofs.YthdjodamdakjbaaW.PrintWords Go.Proofs.YthdjodamdakjbaaW.PrintLast Go.Proofs.YthdjodamdakjbaaW.PrintMore
set_option linter.unusedVariables false
set_option linter.unusedSimpArgs false

/-- A text of so many bytes at least, at most. -/
def Sized (low top : Int) (s : ByteArray) : Prop := low ≤ s.size ∧ (s.size : Int) ≤ top
set_option maxHeartbeats 4000000 in
set_option maxRecDepth 4000 in
theorem digits_x (s : ByteArray) (low top : Int) (w : World) (hs : s.size ≤ 140737488355328) (h0 : 0 ≤ low) (h1 : low ≤ top) (h2 : top ≤ 1000) : Calls Try.prog 30 #[.string s, .int .i64 low, .int .i64 top] w (OutS (Sized low top) w) := by
  have HS := Aside0.mk hs; clear hs
  go_enter Try.func30, Try.ntmps30
  go_upto_block 0 with fail
  go_cut [7] from 8 to 37 (fun s7 wc => ∃ t : ByteArray, s7 = .string t ∧ (t.size : Int) ≤ top ∧ Aside0 (Below w.heap.size w wc))
  case first =>
    go_wp2_with fail
    go_loopg [7, 8] s.size (fun gg s7 s8 wr => ∃ (i : Int) (t : ByteArray), 0 ≤ i ∧ i ≤ (s.size : Int) ∧ (s.size : Int) - i ≤ gg ∧ s8 = .int .i64 i ∧ s7 = .string t ∧ (t.size : Int) ≤ top ∧ Aside0 (Below w.heap.size w wr))
    case atStart => exact ⟨0, ⟨#[]⟩, by omega, by omega, by omega, rfl, rfl, by show ((0 : Nat) : Int) ≤ top; omega, ⟨Below.refl _ w⟩⟩
    case round =>
      obtain ⟨i, t, hi0, hi1, hg, rfl, rfl, ht, BW⟩ := hrel
      by_cases hlt : i < (s.size : Int)
      · have ew : wrap64 (i + 1) = i + 1 := by have := HS.out; unfold wrap64; omega
        have hx := bt_at s i
        have EW := Aside0.mk ew
        by_cases hlt2 : (t.size : Int) < top
        · have l1 : i ≤ wrap64 (i + 1) := by omega
          have l2 : wrap64 (i + 1) ≤ (s.size : Int) := by omega
          have hsz : (t ++ s.extract i.toNat (wrap64 (i + 1)).toNat).size = t.size + 1 := by rw [ByteArray.size_append, ByteArray.size_extract]; omega
          have c16 : t.size + (s.extract i.toNat (wrap64 (i + 1)).toNat).size ≤ 9223372036854775807 := by rw [ByteArray.size_append] at hsz; omega
          have c16b : decide (t.size + (s.extract i.toNat (wrap64 (i + 1)).toNat).size ≤ 9223372036854775807) = true := decide_eq_true c16
          have HX := Aside0.mk hsz
          clear ew hsz
          by_cases q1 : 48 ≤ bt s i
          · by_cases q2 : bt s i ≤ 57
            · go_wp2_with fail
              go_roundg (s.size - (i.toNat + 1))
              case measure => omega
              case rel => exact ⟨wrap64 (i + 1), _, by have := EW.out; omega, by have := EW.out; omega, by have := EW.out; omega, rfl, rfl, by have := HX.out; omega, BW⟩
            · go_wp2_with fail
              go_roundg (s.size - (i.toNat + 1))
              case measure => omega
              case rel => exact ⟨wrap64 (i + 1), t, by have := EW.out; omega, by have := EW.out; omega, by have := EW.out; omega, rfl, rfl, ht, BW⟩
          · go_wp2_with fail
            go_roundg (s.size - (i.toNat + 1))
            case measure => omega
            case rel => exact ⟨wrap64 (i + 1), t, by have := EW.out; omega, by have := EW.out; omega, by have := EW.out; omega, rfl, rfl, ht, BW⟩
        · go_wp2_with fail
          go_meet
          exact ⟨t, rfl, ht, BW⟩
      · go_wp2_with fail
        go_meet
        exact ⟨t, rfl, ht, BW⟩
  case rest =>
    obtain ⟨t, rfl, ht, BW⟩ := hcut
    go_wp2_with fail
    go_loopg [7] 1000 (fun gg s7 wr => ∃ t : ByteArray, s7 = .string t ∧ low - (t.size : Int) ≤ gg ∧ (t.size : Int) ≤ top ∧ Aside0 (Below w.heap.size w wr))
    case atStart => exact ⟨t, rfl, by omega, ht, BW⟩
    case round =>
      obtain ⟨t, rfl, hg, ht, BW⟩ := hrel
      by_cases q : (t.size : Int) < low
      · have hsz : (t ++ (⟨#[55]⟩ : ByteArray)).size = t.size + 1 := by rw [ByteArray.size_append]; rfl
        have c16 : t.size + (⟨#[55]⟩ : ByteArray).size ≤ 9223372036854775807 := by rw [ByteArray.size_append] at hsz; omega
        have c16b : decide (t.size + (⟨#[55]⟩ : ByteArray).size ≤ 9223372036854775807) = true := decide_eq_true c16
        have HX := Aside0.mk hsz
        clear hsz
        go_wp2_with fail
        go_roundg (low.toNat - (t.size + 1))
        case measure => omega
        case rel => exact ⟨_, rfl, by have := HX.out; omega, by have := HX.out; omega, BW⟩
      · have HQ : Aside0 (Sized low top t) := ⟨by omega, ht⟩
        go_wp2_with fail
        go_ret
        exact ⟨t, rfl, HQ.out, BW.out⟩
set_option maxHeartbeats 4000000 in
set_option maxRecDepth 4000 in
theorem aln_x (s : ByteArray) (low top : Int) (w : World) (hs : s.size ≤ 140737488355328) : Calls Try.prog 49 #[.string s, .int .i64 low, .int .i64 top] w (OutB AnyB w) := by
  have HS := Aside0.mk hs
  go_enter Try.func49, Try.ntmps49
  go_wp2_with fail
  go_loopg [7] s.size (fun gg s7 wr => ∃ kk : Nat, kk ≤ s.size ∧ s.size - kk ≤ gg ∧ s7 = .int .i64 kk ∧ Aside0 (Below w.heap.size w wr))
  case atStart => exact ⟨0, Nat.zero_le _, by omega, rfl, ⟨Below.refl _ w⟩⟩
  case round =>
    obtain ⟨kk, hkk, hg, rfl, BW⟩ := hrel
    by_cases hlt : kk < s.size
    · have hltz : (kk : Int) < (s.size : Int) := by omega
      have hx := byte_at s kk
      generalize bt s (kk : Int) = c at hx
      by_cases r0 : c < 48
      · go_wp2_with fail
        go_ret
        exact ⟨_, rfl, trivial, BW.out⟩
      by_cases r1 : c ≤ 57
      · go_wp2_with fail
        go_roundg (s.size - (kk + 1))
        case measure => omega
        case rel => exact ⟨kk + 1, by omega, by omega, by have := HS.out; go_num, BW⟩
      by_cases r2 : c < 65
      · go_wp2_with fail
        go_ret
        exact ⟨_, rfl, trivial, BW.out⟩
      by_cases r3 : c ≤ 90
      · go_wp2_with fail
        go_roundg (s.size - (kk + 1))
        case measure => omega
        case rel => exact ⟨kk + 1, by omega, by omega, by have := HS.out; go_num, BW⟩
      by_cases r4 : c < 97
      · go_wp2_with fail
        go_ret
        exact ⟨_, rfl, trivial, BW.out⟩
      by_cases r5 : c ≤ 122
      · go_wp2_with fail
        go_roundg (s.size - (kk + 1))
        case measure => omega
        case rel => exact ⟨kk + 1, by omega, by omega, by have := HS.out; go_num, BW⟩
      go_wp2_with fail
      go_ret
      exact ⟨_, rfl, trivial, BW.out⟩
    · have hltz : ¬ (kk : Int) < (s.size : Int) := by omega
      by_cases q1 : low ≤ (s.size : Int)
      · by_cases q2 : (s.size : Int) ≤ top
        · go_wp2_with fail
          go_ret
          exact ⟨_, rfl, trivial, BW.out⟩
        · go_wp2_with fail
          go_ret
          exact ⟨_, rfl, trivial, BW.out⟩
      · go_wp2_with fail
        go_ret
        exact ⟨_, rfl, trivial, BW.out⟩
set_option maxHeartbeats 4000000 in
set_option maxRecDepth 4000 in
theorem alnum_x (s : ByteArray) (top : Int) (w : World) (hs : s.size ≤ 140737488355328) (h0 : 0 ≤ top) (h2 : top ≤ 1000) : Calls Try.prog 33 #[.string s, .int .i64 top] w (OutS (Sized top top) w) := by
  have HS := Aside0.mk hs; clear hs
  go_enter Try.func33, Try.ntmps33
  go_upto_block 0 with fail
  go_cut [5] from 6 to 31 (fun s5 wc => ∃ t : ByteArray, s5 = .string t ∧ (t.size : Int) ≤ top ∧ Aside0 (Below w.heap.size w wc))
  case first =>
    go_wp2_with fail
    go_loopg [5, 6] s.size (fun gg s5 s6 wr => ∃ (i : Int) (t : ByteArray), 0 ≤ i ∧ i ≤ (s.size : Int) ∧ (s.size : Int) - i ≤ gg ∧ s6 = .int .i64 i ∧ s5 = .string t ∧ (t.size : Int) ≤ top ∧ Aside0 (Below w.heap.size w wr))
    case atStart => exact ⟨0, ⟨#[]⟩, by omega, by omega, by omega, rfl, rfl, by show ((0 : Nat) : Int) ≤ top; omega, ⟨Below.refl _ w⟩⟩
    case round =>
      obtain ⟨i, t, hi0, hi1, hg, rfl, rfl, ht, BW⟩ := hrel
      by_cases hlt : i < (s.size : Int)
      · have ew : wrap64 (i + 1) = i + 1 := by have := HS.out; unfold wrap64; omega
        have hx := bt_at s i
        have EW := Aside0.mk ew
        by_cases hlt2 : (t.size : Int) < top
        · have l1 : i ≤ wrap64 (i + 1) := by omega
          have l2 : wrap64 (i + 1) ≤ (s.size : Int) := by omega
          have hsz : (t ++ s.extract i.toNat (wrap64 (i + 1)).toNat).size = t.size + 1 := by rw [ByteArray.size_append, ByteArray.size_extract]; omega
          have c16 : t.size + (s.extract i.toNat (wrap64 (i + 1)).toNat).size ≤ 9223372036854775807 := by rw [ByteArray.size_append] at hsz; omega
          have c16b : decide (t.size + (s.extract i.toNat (wrap64 (i + 1)).toNat).size ≤ 9223372036854775807) = true := decide_eq_true c16
          have HX := Aside0.mk hsz
          clear ew hsz
          have hn : (s.extract i.toNat (wrap64 (i + 1)).toNat).size ≤ 140737488355328 := by rw [ByteArray.size_extract]; have := HS.out; omega
          have HN := Aside0.mk hn
          clear hn
          go_wp2_with fail
          refine (aln_x _ 1 1 _ HN.out).mono ?_
          rintro e w1 ⟨b, rfl, -, hB⟩
          replace BW := Aside0.mk (below_step BW.out hB)
          clear hB
          cases b with
          | true =>
            go_wp2_with fail
            go_roundg (s.size - (i.toNat + 1))
            case measure => omega
            case rel => exact ⟨wrap64 (i + 1), _, by have := EW.out; omega, by have := EW.out; omega, by have := EW.out; omega, rfl, rfl, by have := HX.out; omega, BW⟩
          | false =>
            go_wp2_with fail
            go_roundg (s.size - (i.toNat + 1))
            case measure => omega
            case rel => exact ⟨wrap64 (i + 1), t, by have := EW.out; omega, by have := EW.out; omega, by have := EW.out; omega, rfl, rfl, ht, BW⟩
        · go_wp2_with fail
          go_meet
          exact ⟨t, rfl, ht, BW⟩
      · go_wp2_with fail
        go_meet
        exact ⟨t, rfl, ht, BW⟩
  case rest =>
    obtain ⟨t, rfl, ht, BW⟩ := hcut
    go_wp2_with fail
    go_loopg [5] 1000 (fun gg s5 wr => ∃ t : ByteArray, s5 = .string t ∧ top - (t.size : Int) ≤ gg ∧ (t.size : Int) ≤ top ∧ Aside0 (Below w.heap.size w wr))
    case atStart => exact ⟨t, rfl, by omega, ht, BW⟩
    case round =>
      obtain ⟨t, rfl, hg, ht, BW⟩ := hrel
      by_cases q : (t.size : Int) < top
      · have hsz : (t ++ (⟨#[90]⟩ : ByteArray)).size = t.size + 1 := by rw [ByteArray.size_append]; rfl
        have c16 : t.size + (⟨#[90]⟩ : ByteArray).size ≤ 9223372036854775807 := by rw [ByteArray.size_append] at hsz; omega
        have c16b : decide (t.size + (⟨#[90]⟩ : ByteArray).size ≤ 9223372036854775807) = true := decide_eq_true c16
        have HX := Aside0.mk hsz
        clear hsz
        go_wp2_with fail
        go_roundg (top.toNat - (t.size + 1))
        case measure => omega
        case rel => exact ⟨_, rfl, by have := HX.out; omega, by have := HX.out; omega, BW⟩
      · have HQ : Aside0 (Sized top top t) := ⟨by omega, ht⟩
        go_wp2_with fail
        go_ret
        exact ⟨t, rfl, HQ.out, BW.out⟩
end Go.Proofs.Ythdjodamdakjbaa.MK
