/- comptoirplay's pieces, by what they leave: Text. -/
import Derived.Test.YthdjodamdakjbaaHPlayC
namespace Go.Proofs.Ythdjodamdakjbaa.MK
open Go.RowKit Go.Proofs.YthdjodamdakjbaaW.PrintWords Go.Proofs.YthdjodamdakjbaaW.PrintLast Go.Proofs.YthdjodamdakjbaaW.PrintMore
set_option linter.unusedVariables false
set_option linter.unusedSimpArgs false

/-- Signs alone. -/
def Signs (t : ByteArray) : Prop := ∀ b ∈ t.data.toList, 32 ≤ b.toNat ∧ b.toNat ≤ 126
theorem Signs.nil : Signs ⟨#[]⟩ := fun b h => absurd h (by simp)
theorem Signs.snoc {t s : ByteArray} (h : Signs t) (i : Int) (h0 : 0 ≤ i) (hi : i < s.size) (hb : 32 ≤ bt s i ∧ bt s i ≤ 126) : Signs (t ++ s.extract i.toNat (wrap64 (i + 1)).toNat) ∨ ¬ wrap64 (i + 1) = i + 1 := by
  by_cases e : wrap64 (i + 1) = i + 1
  · left
    rw [e]
    intro b hm
    rw [ByteArray.data_append, Array.toList_append, List.mem_append] at hm
    rcases hm with hm | hm
    · exact h b hm
    · have hlt : i.toNat < s.size := by omega
      have hj : (i + 1).toNat = i.toNat + 1 := by omega
      rw [hj, ByteArray.data_extract, Array.toList_extract] at hm
      have hl : i.toNat < s.data.toList.length := by simpa using hlt
      have hb' : bt s i = ((s.data.toList[i.toNat]'hl).toNat : Int) := by
        unfold bt
        rw [dif_pos hlt]
        rfl
      have : s.data.toList.extract i.toNat (i.toNat + 1) = [s.data.toList[i.toNat]'hl] := by
        simp only [List.extract_eq_take_drop]
        rw [List.drop_eq_getElem_cons hl]
        simp
      rw [this, List.mem_singleton] at hm
      rw [hm]
      rw [hb'] at hb
      omega
  · exact Or.inr e
theorem Signs.front {t : ByteArray} (h : Signs t) (n : Nat) : Signs (t.extract 0 n) := by
  intro b hm
  rw [ByteArray.data_extract, Array.toList_extract] at hm
  simp only [List.extract_eq_take_drop, List.drop_zero] at hm
  exact h b (List.mem_of_mem_take hm)
theorem empty_iff (t : ByteArray) : t.toList = [] ↔ t.size = 0 := by
  rw [ByteArray.toList_eq, ← List.length_eq_zero_iff]
  rfl
/-- Something; and for the side that takes signs alone: so much of these, no more. -/
def TextOf (top side : Int) (t : ByteArray) : Prop := Some1 t ∧ (side ≠ 0 → (t.size : Int) ≤ top ∧ Signs t)
set_option maxHeartbeats 8000000 in
set_option maxRecDepth 4000 in
theorem text_x (s : ByteArray) (top side : Int) (w : World) (hs : s.size ≤ 140737488355328) (h1 : 1 ≤ top) (h2 : top ≤ 1000) : Calls Try.prog 34 #[.string s, .int .i64 top, .int .i64 side] w (OutS (TextOf top side) w) := by
  have HS := Aside0.mk hs
  go_enter Try.func34, Try.ntmps34
  go_upto_region 1 with fail
  go_cut [15] from 9 to 15 (fun s15 wc => ∃ b : Bool, s15 = .bool b ∧ Aside0 (b = true → side = 0 ∧ 1 ≤ s.size) ∧ Aside0 (Below w.heap.size w wc))
  case first =>
    by_cases s0 : side = 0
    · subst s0
      go_wp2_with fail
      refine (plain_x s 1 top _ hs).mono ?_
      rintro e w1 ⟨b, rfl, hb, hB⟩
      have HB := Aside0.mk hB
      have HQ : Aside0 (b = true → (0 : Int) = 0 ∧ 1 ≤ s.size) := ⟨fun h => ⟨rfl, by have := hb h; omega⟩⟩
      clear hB hb
      go_wp2_with fail
      go_meet
      exact ⟨b, rfl, HQ, HB⟩
    · have b0 : (side == 0) = false := beq_eq_false_iff_ne.mpr s0
      have HB := Aside0.mk (Below.refl w.heap.size w)
      go_wp2_with fail
      go_meet
      exact ⟨false, rfl, ⟨fun h => absurd h (by decide)⟩, HB⟩
  case rest =>
    obtain ⟨b, rfl, HQ, BW⟩ := hcut
    cases b with
    | true =>
      have HT : Aside0 (TextOf top side s) := ⟨⟨(HQ.out rfl).2, hs⟩, fun h => absurd (HQ.out rfl).1 h⟩
      go_wp2_with fail
      go_ret
      exact ⟨s, rfl, HT.out, BW.out⟩
    | false =>
      clear HQ
      go_upto_block 0 with fail
      go_cut [7] from 8 to 55 (fun s7 wc => ∃ t : ByteArray, s7 = .string t ∧ Aside0 (Signs t) ∧ (t.size : Int) ≤ top ∧ Aside0 (Below w.heap.size w wc))
      case first =>
        go_wp2_with fail
        go_loopg [7, 8] s.size (fun gg s7 s8 wr => ∃ (i : Int) (t : ByteArray), 0 ≤ i ∧ i ≤ (s.size : Int) ∧ (s.size : Int) - i ≤ gg ∧ s8 = .int .i64 i ∧ s7 = .string t ∧ Aside0 (Signs t) ∧ (t.size : Int) ≤ top ∧ Aside0 (Below w.heap.size w wr))
        case atStart => exact ⟨0, ⟨#[]⟩, by omega, by omega, by omega, rfl, rfl, ⟨Signs.nil⟩, by show ((0 : Nat) : Int) ≤ top; omega, BW⟩
        case round =>
          obtain ⟨i, t, hi0, hi1, hg, rfl, rfl, SG, ht, BW⟩ := hrel
          clear hs
          by_cases hlt : i < (s.size : Int)
          · have ew : wrap64 (i + 1) = i + 1 := by have := HS.out; unfold wrap64; omega
            have hx := bt_at s i
            have EW := Aside0.mk ew
            by_cases hlt2 : (t.size : Int) < top
            · have l1 : i ≤ wrap64 (i + 1) := by omega
              have l2 : wrap64 (i + 1) ≤ (s.size : Int) := by omega
              have hsz : (t ++ s.extract i.toNat (wrap64 (i + 1)).toNat).size = t.size + 1 := by rw [ByteArray.size_append, ByteArray.size_extract]; omega
              have c16 : t.size + (s.extract i.toNat (wrap64 (i + 1)).toNat).size ≤ 9223372036854775807 := by rw [ByteArray.size_append] at hsz; omega
              have c16b : decide (t.size + (s.extract i.toNat (wrap64 (i + 1)).toNat).size ≤ 9223372036854775807) = true := decide_eq_true c16
              have HX := Aside0.mk hsz
              have SN := Aside0.mk (fun h : 32 ≤ bt s i ∧ bt s i ≤ 126 => (SG.out.snoc i hi0 hlt h).resolve_right (fun hn => hn EW.out))
              clear ew hsz
              by_cases q1 : 32 < bt s i
              · by_cases q2 : bt s i < 127
                · replace SN := Aside0.mk (SN.out ⟨by omega, by omega⟩)
                  go_wp2_with fail
                  go_roundg (s.size - (i.toNat + 1))
                  case measure => omega
                  case rel => exact ⟨wrap64 (i + 1), _, by have := EW.out; omega, by have := EW.out; omega, by have := EW.out; omega, rfl, rfl, SN, by have := HX.out; omega, BW⟩
                · have q3 : (bt s i == 32) = false := beq_eq_false_iff_ne.mpr (by omega)
                  go_wp2_with fail
                  go_roundg (s.size - (i.toNat + 1))
                  case measure => omega
                  case rel => exact ⟨wrap64 (i + 1), t, by have := EW.out; omega, by have := EW.out; omega, by have := EW.out; omega, rfl, rfl, SG, ht, BW⟩
              · by_cases q4 : bt s i = 32
                · have q3 : (bt s i == 32) = true := beq_iff_eq.mpr q4
                  replace SN := Aside0.mk (SN.out ⟨by omega, by omega⟩)
                  by_cases h0 : t.toList = []
                  · have m0 : (t.toList != ([] : List UInt8)) = false := bne_eq_false_iff_eq.mpr h0
                    have m1 : t.toList.isEmpty = true := List.isEmpty_iff.mpr h0
                    replace h0 := Aside0.mk h0
                    go_wp2_with fail
                    go_roundg (s.size - (i.toNat + 1))
                    case measure => omega
                    case rel => exact ⟨wrap64 (i + 1), t, by have := EW.out; omega, by have := EW.out; omega, by have := EW.out; omega, rfl, rfl, SG, ht, BW⟩
                  · have m0 : (t.toList != ([] : List UInt8)) = true := bne_iff_ne.mpr h0
                    have m1 : t.toList.isEmpty = false := List.isEmpty_eq_false_iff.mpr h0
                    replace h0 := Aside0.mk h0
                    go_wp2_with fail
                    go_roundg (s.size - (i.toNat + 1))
                    case measure => omega
                    case rel => exact ⟨wrap64 (i + 1), _, by have := EW.out; omega, by have := EW.out; omega, by have := EW.out; omega, rfl, rfl, SN, by have := HX.out; omega, BW⟩
                · have q3 : (bt s i == 32) = false := beq_eq_false_iff_ne.mpr q4
                  replace q4 := Aside0.mk q4
                  go_wp2_with fail
                  go_roundg (s.size - (i.toNat + 1))
                  case measure => omega
                  case rel => exact ⟨wrap64 (i + 1), t, by have := EW.out; omega, by have := EW.out; omega, by have := EW.out; omega, rfl, rfl, SG, ht, BW⟩
            · go_wp2_with fail
              go_meet
              exact ⟨t, rfl, SG, ht, BW⟩
          · go_wp2_with fail
            go_meet
            exact ⟨t, rfl, SG, ht, BW⟩
      case rest =>
        obtain ⟨t, rfl, SG, ht, BW⟩ := hcut
        go_upto_block 2 with fail
        go_cut [7] from 56 to 70 (fun s7 wc => ∃ t : ByteArray, s7 = .string t ∧ Aside0 (Signs t) ∧ (t.size : Int) ≤ top ∧ Aside0 (Below w.heap.size w wc))
        case first =>
          go_wp2_with fail
          go_loopg [7] t.size (fun gg s7 wr => ∃ t : ByteArray, s7 = .string t ∧ t.size ≤ gg ∧ Aside0 (Signs t) ∧ (t.size : Int) ≤ top ∧ Aside0 (Below w.heap.size w wr))
          case atStart => exact ⟨t, rfl, Nat.le_refl _, SG, ht, BW⟩
          case round =>
            obtain ⟨t, rfl, hg, SG, ht, BW⟩ := hrel
            by_cases h0 : t.toList = []
            · have m0 : (t.toList != ([] : List UInt8)) = false := bne_eq_false_iff_eq.mpr h0
              have m1 : t.toList.isEmpty = true := List.isEmpty_iff.mpr h0
              replace h0 := Aside0.mk h0
              go_wp2_with fail
              go_meet
              exact ⟨t, rfl, SG, ht, BW⟩
            · have m0 : (t.toList != ([] : List UInt8)) = true := bne_iff_ne.mpr h0
              have m1 : t.toList.isEmpty = false := List.isEmpty_eq_false_iff.mpr h0
              have hp : 0 < t.size := by
                rcases Nat.eq_zero_or_pos t.size with h | h
                · exact absurd ((empty_iff t).mpr h) h0
                · exact h
              have hx := byte_at t (t.size - 1)
              have e1 : wrap64 ((t.size : Int) - 1) = ((t.size - 1 : Nat) : Int) := by unfold wrap64; omega
              have e2 : (t.size : Int) - 1 = ((t.size - 1 : Nat) : Int) := by omega
              have l1 : t.size - 1 < t.size := by omega
              have l2 : ((t.size - 1 : Nat) : Int) < (t.size : Int) := by omega
              have l3 : ((t.size - 1 : Nat) : Int) ≤ (t.size : Int) := by omega
              generalize bt t ((t.size - 1 : Nat) : Int) = c at hx
              replace h0 := Aside0.mk h0
              have SF := Aside0.mk (SG.out.front (t.size - 1))
              have SZ : Aside0 ((t.extract 0 (t.size - 1)).size = t.size - 1) := ⟨by rw [ByteArray.size_extract]; omega⟩
              by_cases q : c = 32
              · have q' : (c == 32) = true := beq_iff_eq.mpr q
                go_wp2_with fail
                go_roundg (t.size - 1)
                case measure => omega
                case rel => exact ⟨_, rfl, by have := SZ.out; omega, SF, by have := SZ.out; omega, BW⟩
              · have q' : (c == 32) = false := beq_eq_false_iff_ne.mpr q
                go_wp2_with fail
                go_meet
                exact ⟨t, rfl, SG, ht, BW⟩
        case rest =>
          obtain ⟨t, rfl, SG, ht, BW⟩ := hcut
          by_cases h0 : t.toList = []
          · have m0 : (t.toList == ([] : List UInt8)) = true := beq_iff_eq.mpr h0
            replace h0 := Aside0.mk h0
            have HX : Aside0 (TextOf top side ⟨#[120]⟩) := ⟨⟨by unfold Some1; decide, fun _ => ⟨by show ((1 : Nat) : Int) ≤ top; omega, fun b hb => by
              have : b = 120 := by simpa using hb
              rw [this]; decide⟩⟩⟩
            go_wp2_with fail
            go_ret
            exact ⟨_, rfl, HX.out, BW.out⟩
          · have m0 : (t.toList == ([] : List UInt8)) = false := beq_eq_false_iff_ne.mpr h0
            have hp : 1 ≤ t.size := by
              rcases Nat.eq_zero_or_pos t.size with h | h
              · exact absurd ((empty_iff t).mpr h) h0
              · exact h
            replace h0 := Aside0.mk h0
            have HX : Aside0 (TextOf top side t) := ⟨⟨⟨hp, by omega⟩, fun _ => ⟨ht, SG.out⟩⟩⟩
            go_wp2_with fail
            go_ret
            exact ⟨_, rfl, HX.out, BW.out⟩
end Go.Proofs.Ythdjodamdakjbaa.MK
