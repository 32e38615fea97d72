/- What text.all and text.Ans come to: each byte passes one of some spans. -/
import Derived.Test.YthapknnppabdaaaMRx0
import Derived.Shelf.Abstract
namespace Go.Proofs.Ythapknnppabdaaa.MR
open Go.RowKit Go.Proofs.YthapknnppabdaaaW.PrintWords Go.Proofs.YthapknnppabdaaaW.PrintLast Go.Proofs.YthapknnppabdaaaW.PrintMore
set_option linter.unusedVariables false
set_option linter.unusedSimpArgs false

def inB (t : Int × Int) (c : Int) : Bool := decide (t.1 ≤ c) && decide (c ≤ t.2)
def anyB (ts : List (Int × Int)) (c : Int) : Bool := ts.any fun t => inB t c
def allB (s : ByteArray) (ts : List (Int × Int)) : Bool := s.data.toList.all fun b => anyB ts (b.toNat : Int)
def spanV (t : Int × Int) : Value := .func (.func 63) #[.agg #[.int .u8 t.1, .int .u8 t.2]] #[]
theorem has_calls (lo hi c : Int) (W : World) : Calls Try.prog 63 #[.agg #[.int .u8 lo, .int .u8 hi], .int .u8 c] W fun e w' => e = .returned (.bool (inB (lo, hi) c)) ∧ Below W.heap.size W w' := by
  cases h1 : decide (lo ≤ c)
  · have HF : Aside0 (inB (lo, hi) c = false) := ⟨by unfold inB; rw [h1]; rfl⟩
    go_enter Try.func63, Try.ntmps63
    go_wp2
    go_ret
    exact ⟨by rw [HF.out]; rfl, below_alloc (Below.refl _ W) _⟩
  · have HF : Aside0 (inB (lo, hi) c = decide (c ≤ hi)) := ⟨by unfold inB; rw [h1]; rfl⟩
    go_enter Try.func63, Try.ntmps63
    go_wp2
    go_ret
    exact ⟨by rw [HF.out]; rfl, below_alloc (Below.refl _ W) _⟩
theorem bt_get (s : ByteArray) (i : Nat) (h : i < s.data.toList.length) : bt s (i : Int) = ((s.data.toList[i]).toNat : Int) := by
  have h' : i < s.size := by simpa using h
  unfold bt
  simp only [Int.toNat_natCast]
  rw [dif_pos h']
  rfl
theorem allB_yes (s : ByteArray) (ts : List (Int × Int)) (h : ∀ j : Nat, j < s.size → anyB ts (bt s (j : Int)) = true) : allB s ts = true := by
  unfold allB
  rw [List.all_eq_true]
  intro b hb
  obtain ⟨j, hj, rfl⟩ := List.getElem_of_mem hb
  rw [← bt_get s j hj]
  exact h j (by simpa using hj)
theorem allB_no (s : ByteArray) (ts : List (Int × Int)) (j : Nat) (hj : j < s.size) (h : anyB ts (bt s (j : Int)) = false) : allB s ts = false := by
  have hj' : j < s.data.toList.length := by simpa using hj
  unfold allB
  rw [Bool.eq_false_iff]
  intro hall
  rw [List.all_eq_true] at hall
  have := hall _ (List.getElem_mem hj')
  rw [← bt_get s j hj', h] at this
  cases this
theorem any_take (ts : List (Int × Int)) (c : Int) (j : Nat) (hj : j < ts.length) : anyB (ts.take (j + 1)) c = (anyB (ts.take j) c || inB (ts.getD j (0, 0)) c) := by
  unfold anyB
  rw [List.take_succ_eq_append_getElem hj, List.any_append]
  simp [List.getD_eq_getElem?_getD, List.getElem?_eq_getElem hj]
set_option maxHeartbeats 4000000 in
theorem all_calls (s : ByteArray) (g : Nat) (ts : List (Int × Int)) (w : World) (hn : ts.length < 100) (hs : s.size ≤ 9223372036854775807) (ht : ∀ j : Nat, j < ts.length → w.cell? ⟨g, j, none⟩ = some (spanV (ts.getD j (0, 0)))) :
    Calls Try.prog 62 #[.string s, .slice (some ⟨g, 0, none⟩) ts.length ts.length] w fun e w' => e = .returned (.bool (allB s ts)) ∧ Below w.heap.size w w' := by
  have HT := Aside0.mk ht
  have HS := Aside0.mk hs
  clear ht
  have eg : ∀ args w, (callFunc 63 args).run Try.prog w = .ok (.enter 63 args) w := enters_of Try.func63 (by kernel_rfl) rfl
  go_enter Try.func62, Try.ntmps62
  go_wp2
  go_loopg [11] s.size (fun gg s11 wr => ∃ kk : Nat, kk ≤ s.size ∧ s.size - kk ≤ gg ∧ s11 = .int .i64 kk ∧ Aside0 (Below w.heap.size w wr) ∧ Aside0 (∀ j : Nat, j < kk → anyB ts (bt s (j : Int)) = true))
  case atStart => exact ⟨0, Nat.zero_le _, by omega, rfl, ⟨Below.refl _ w⟩, ⟨fun j hj => absurd hj (Nat.not_lt_zero _)⟩⟩
  case round =>
    obtain ⟨kk, hkk, hg, rfl, BW, AL⟩ := hrel
    by_cases hlt : kk < s.size
    · have hltz : (kk : Int) < (s.size : Int) := by omega
      have hx : ∀ h : kk < s.size, ((s[kk]'h).toNat : Int) = bt s (kk : Int) := fun h => by have := bt_at s (kk : Int); simp only [Int.toNat_natCast] at this; exact this h
      generalize hc : bt s (kk : Int) = c at hx
      have HC := Aside0.mk hc
      clear hc
      go_wp2
      go_loopg [6, 16] ts.length (fun gg s6 s16 wr2 => ∃ jj : Nat, jj ≤ ts.length ∧ ts.length - jj ≤ gg ∧ s6 = .bool (anyB (ts.take jj) c) ∧ s16 = .int .i64 jj ∧ Aside0 (Below w.heap.size w wr2))
      case atStart => exact ⟨0, Nat.zero_le _, by omega, rfl, rfl, BW⟩
      case round =>
        obtain ⟨jj, hjj, hg2, rfl, rfl, BW2⟩ := hrel
        by_cases hlt2 : jj < ts.length
        · have hltz2 : (jj : Int) < (ts.length : Int) := by omega
          have h0 := (BW2.out.cell (World.block_lt_of_cell? w _ (HT.out jj hlt2))).trans (HT.out jj hlt2)
          have HN := Aside0.mk (any_take ts c jj hlt2)
          generalize ts.getD jj (0, 0) = t at h0 HN
          obtain ⟨lo, hi⟩ := t
          unfold spanV at h0
          cases hq : anyB (ts.take jj) c with
          | true =>
            rw [hq] at HN
            go_wp2
            go_roundg (ts.length - (jj + 1))
            case measure => omega
            case rel => exact ⟨jj + 1, by omega, by omega, by rw [HN.out]; rfl, by go_num, BW2⟩
          | false =>
            rw [hq] at HN
            have hcall := has_calls lo hi c wr
            generalize hv : inB (lo, hi) c = v at hcall HN
            clear hv
            go_wp2_with (go_at_fn 63; refine hcall.mono ?_; rintro e w' ⟨rfl, hb'⟩)
            go_roundg (ts.length - (jj + 1))
            case measure => omega
            case rel => exact ⟨jj + 1, by omega, by omega, by rw [HN.out]; rfl, by go_num, ⟨BW2.out.trans (hb'.mono BW2.out.size)⟩⟩
        · have hltz2 : ¬ (jj : Int) < (ts.length : Int) := by omega
          have e2 : ts.take jj = ts := List.take_of_length_le (by omega)
          rw [e2]
          cases hq : anyB ts c with
          | true =>
            have HQ := Aside0.mk hq
            clear hq
            go_wp2
            go_roundg (s.size - (kk + 1))
            case measure => omega
            case rel =>
              refine ⟨kk + 1, by omega, by omega, by go_num, BW2, ⟨fun j hj => ?_⟩⟩
              by_cases e : j = kk
              · subst e; rw [HC.out]; exact HQ.out
              · exact AL.out j (by omega)
          | false =>
            have HQ := Aside0.mk hq
            clear hq
            go_wp2
            go_ret
            refine ⟨?_, BW2.out⟩
            rw [allB_no s ts kk hlt (by rw [HC.out]; exact HQ.out)]
            rfl
    · have hltz : ¬ (kk : Int) < (s.size : Int) := by omega
      go_wp2
      go_ret
      refine ⟨?_, BW.out⟩
      rw [allB_yes s ts (fun j hj => AL.out j (by omega))]
      rfl
def text_Ans.f (a0 : ByteArray) (a1 : Int) : Option Bool := if a0.size ≤ 9223372036854775807 then some (decide (1 ≤ (a0.size : Int)) && decide ((a0.size : Int) ≤ a1) && allB a0 [(32, 126)]) else none
set_option maxHeartbeats 4000000 in
theorem text_Ans.calls (a0 : ByteArray) (a1 : Int) (r : Bool) (w : World) (h : text_Ans.f a0 a1 = some r) :
    Calls Try.prog 51 #[.string a0, .int .i64 a1] w fun e w' => e = .returned (.bool r) ∧ Below w.heap.size w w' := by
  unfold text_Ans.f at h
  by_cases hs : a0.size ≤ 9223372036854775807
  · rw [if_pos hs] at h
    have h := Option.some.inj h
    cases h1 : decide (1 ≤ (a0.size : Int))
    · rw [h1] at h
      subst h
      go_enter Try.func51, Try.ntmps51
      go_wp2
      go_ret
      exact ⟨rfl, Below.refl _ _⟩
    · cases h2 : decide ((a0.size : Int) ≤ a1)
      · rw [h1, h2] at h
        subst h
        go_enter Try.func51, Try.ntmps51
        go_wp2
        go_ret
        exact ⟨rfl, Below.refl _ _⟩
      · rw [h1, h2] at h
        have HF := Aside0.mk h
        clear h
        go_enter Try.func51, Try.ntmps51
        go_wp2_with fail
        refine (all_calls a0 w.heap.size [(32, 126)] _ (by decide) hs (fun j hj => ?_)).mono ?_
        · obtain rfl : j = 0 := by simp at hj; omega
          exact (blk_cell (blk_new w _) 0).trans rfl
        rintro e w' ⟨rfl, hb⟩
        go_wp2
        go_ret
        exact ⟨by rw [← HF.out]; rfl, below_step (below_alloc (Below.refl _ w) _) hb⟩
  · rw [if_neg hs] at h
    cases h
end Go.Proofs.Ythapknnppabdaaa.MR
