/- comptoirplay's pieces, by what they leave: has, and Message's own function. -/
import Derived.Test.YthdjodamdakjbaaHPlayE
namespace Go.Proofs.Ythdjodamdakjbaa.MK
open Go.RowKit Go.Proofs.YthdjodamdakjbaaW.PrintWords Go.Proofs.YthdjodamdakjbaaW.PrintLast Go.Proofs.YthdjodamdakjbaaW.PrintMore
set_option linter.unusedVariables false
set_option linter.unusedSimpArgs false

/-- Is the byte in the text? -/
def hasB (s : ByteArray) (c : Int) : Bool := s.data.toList.any fun b => (b.toNat : Int) == c
theorem byte_get (s : ByteArray) (i : Nat) (h : i < s.data.toList.length) : bt s (i : Int) = ((s.data.toList[i]).toNat : Int) := by
  have h' : i < s.size := by simpa using h
  unfold bt
  simp only [Int.toNat_natCast]
  rw [dif_pos h']
  rfl
theorem hasB_yes (s : ByteArray) (c : Int) (j : Nat) (hj : j < s.size) (h : bt s (j : Int) = c) : hasB s c = true := by
  have hj' : j < s.data.toList.length := by simpa using hj
  unfold hasB
  rw [List.any_eq_true]
  exact ⟨_, List.getElem_mem hj', by rw [← byte_get s j hj', h, beq_self_eq_true]⟩
theorem hasB_no (s : ByteArray) (c : Int) (h : ∀ j : Nat, j < s.size → bt s (j : Int) ≠ c) : hasB s c = false := by
  unfold hasB
  rw [Bool.eq_false_iff]
  intro ha
  rw [List.any_eq_true] at ha
  obtain ⟨b, hb, e⟩ := ha
  obtain ⟨j, hj, rfl⟩ := List.getElem_of_mem hb
  rw [← byte_get s j hj, beq_iff_eq] at e
  exact h j (by simpa using hj) e
set_option maxHeartbeats 4000000 in
theorem has_x (s : ByteArray) (c : Int) (w : World) (hs : s.size ≤ 140737488355328) : Calls Try.prog 32 #[.string s, .int .u8 c] w fun e w' => e = .returned (.bool (hasB s c)) ∧ Below w.heap.size w w' := by
  have HS := Aside0.mk hs
  go_enter Try.func32, Try.ntmps32
  go_wp2_with fail
  go_loopg [5] s.size (fun gg s5 wr => ∃ kk : Nat, kk ≤ s.size ∧ s.size - kk ≤ gg ∧ s5 = .int .i64 kk ∧ Aside0 (Below w.heap.size w wr) ∧ Aside0 (∀ j : Nat, j < kk → bt s (j : Int) ≠ c))
  case atStart => exact ⟨0, Nat.zero_le _, by omega, rfl, ⟨Below.refl _ w⟩, ⟨fun j hj => absurd hj (Nat.not_lt_zero _)⟩⟩
  case round =>
    obtain ⟨kk, hkk, hg, rfl, BW, NO⟩ := hrel
    by_cases hlt : kk < s.size
    · have hltz : (kk : Int) < (s.size : Int) := by omega
      have hx := byte_at s kk
      obtain ⟨d, hd⟩ : ∃ d, d = bt s (kk : Int) := ⟨_, rfl⟩
      rw [← hd] at hx
      replace hd := Aside0.mk hd
      by_cases q : d = c
      · have q' : (d == c) = true := beq_iff_eq.mpr q
        have HQ := Aside0.mk (hasB_yes s c kk hlt (by rw [← hd.out]; exact q))
        replace q := Aside0.mk q
        go_wp2_with fail
        go_ret
        exact ⟨by rw [HQ.out]; rfl, BW.out⟩
      · have q' : (d == c) = false := beq_eq_false_iff_ne.mpr q
        have HN : Aside0 (∀ j : Nat, j < kk + 1 → bt s (j : Int) ≠ c) := ⟨fun j hj => by
          by_cases e : j = kk
          · subst e; rw [← hd.out]; exact q
          · exact NO.out j (by omega)⟩
        replace q := Aside0.mk q
        go_wp2_with fail
        go_roundg (s.size - (kk + 1))
        case measure => omega
        case rel => exact ⟨kk + 1, by omega, by omega, by go_num, BW, HN⟩
    · have hltz : ¬ (kk : Int) < (s.size : Int) := by omega
      have HQ := Aside0.mk (hasB_no s c (fun j hj => NO.out j (by omega)))
      go_wp2_with fail
      go_ret
      exact ⟨by rw [HQ.out]; rfl, BW.out⟩
/-- Is this letter of a row wanted, if it is there? -/
def wantB (must may : ByteArray) (c : Int) (there : Bool) : Bool := hasB must c || (there && hasB may c)
set_option maxHeartbeats 4000000 in
theorem want_x (must may : ByteArray) (c : Int) (there : Bool) (p : Nat) (w : World) (h2 : w.cell? ⟨p, 2, none⟩ = some (.string must)) (h3 : w.cell? ⟨p, 3, none⟩ = some (.string may)) (n2 : must.size ≤ 140737488355328) (n3 : may.size ≤ 140737488355328) :
    Calls Try.prog 31 #[.int .u8 c, .bool there, .pointer (some ⟨p, 0, none⟩)] w fun e w' => e = .returned (.bool (wantB must may c there)) ∧ Below w.heap.size w w' := by
  have hu37 := Try.underlying37
  have H2 := Aside0.mk (has_x must c w n2)
  go_enter Try.func31, Try.ntmps31
  go_wp2_with fail
  refine H2.out.mono ?_
  rintro e w1 ⟨rfl, hB⟩
  have BW := Aside0.mk hB
  have e3 : w1.cell? ⟨p, 3, none⟩ = some (.string may) := (hB.cell (World.block_lt_of_cell? w _ h3)).trans h3
  clear hB H2 h2 h3
  have H3 := Aside0.mk (has_x may c w1 n3)
  cases hq : hasB must c with
  | true =>
    have HW : Aside0 (wantB must may c there = true) := ⟨by unfold wantB; rw [hq]; rfl⟩
    go_wp2_with fail
    go_ret
    exact ⟨by rw [HW.out]; rfl, BW.out⟩
  | false =>
    cases there with
    | false =>
      have HW : Aside0 (wantB must may c false = false) := ⟨by unfold wantB; rw [hq]; rfl⟩
      go_wp2_with fail
      go_ret
      exact ⟨by rw [HW.out]; rfl, BW.out⟩
    | true =>
      have HW : Aside0 (wantB must may c true = hasB may c) := ⟨by unfold wantB; rw [hq]; rfl⟩
      go_wp2_with fail
      refine H3.out.mono ?_
      rintro e w2 ⟨rfl, hB⟩
      replace BW := Aside0.mk (below_step BW.out hB)
      clear hB
      go_wp2_with fail
      go_ret
      exact ⟨by rw [HW.out]; rfl, BW.out⟩
end Go.Proofs.Ythdjodamdakjbaa.MK
