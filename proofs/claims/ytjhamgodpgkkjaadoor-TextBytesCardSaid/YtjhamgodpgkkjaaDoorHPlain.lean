/- What text.Runes and text.Plain come to. -/
import Derived.Test.YtjhamgodpgkkjaaDoorHText
import Derived.Test.YtjhamgodpgkkjaaDoorMTx1
namespace Go.Proofs.YtjhamgodpgkkjaaDoor.MT
open Go.RowKit Go.Shelf Go.Proofs.YtjhamgodpgkkjaaDoorW.PrintWords Go.Proofs.YtjhamgodpgkkjaaDoorW.PrintLast Go.Proofs.YtjhamgodpgkkjaaDoorW.PrintMore
set_option linter.unusedVariables false
set_option linter.unusedSimpArgs false

def runesI (s : ByteArray) : Int := if utf8B s = true then (Lib.runeCount s : Int) else 0
def text_Runes.f (a0 : ByteArray) : Option Int := if a0.size < 9223372036854775807 then some (runesI a0) else none
theorem text_Runes.calls (a0 : ByteArray) (r : Int) (w : World) (hT : Tabs w) (h : text_Runes.f a0 = some r) : Calls Tryd.prog 11 #[.string a0] w fun e w' => e = .returned (.int .i64 r) ∧ Below w.heap.size w w' := by
  unfold text_Runes.f at h
  by_cases hs : a0.size < 9223372036854775807
  · rw [if_pos hs] at h
    have h := Option.some.inj h
    have cU := text_Utf8.calls a0 (utf8B a0) w hT (by unfold text_Utf8.f; rw [if_pos (by omega)])
    have cC := fun W => utf8_RuneCountInString.calls a0 (Lib.runeCount a0 : Int) W (by unfold utf8_RuneCountInString.f; rw [if_pos hs])
    unfold runesI at h
    generalize utf8B a0 = U at cU h
    generalize (Lib.runeCount a0 : Int) = C at cC h
    cases U with
    | false =>
      have HF := Aside0.mk h
      clear h
      go_enter Tryd.func11, Tryd.ntmps11
      go_wp2_with (go_at_call 9; refine cU.mono ?_; rintro e w' ⟨rfl, hb⟩)
      go_ret
      exact ⟨by rw [← HF.out]; rfl, hb⟩
    | true =>
      have HF := Aside0.mk h
      clear h
      go_enter Tryd.func11, Tryd.ntmps11
      go_wp2_with (first | (go_at_call 9; refine cU.mono ?_; rintro e w1 ⟨rfl, hb⟩) | (go_at_call 25; refine (cC _).mono ?_; rintro e w2 ⟨rfl, hb2⟩))
      go_ret
      exact ⟨by rw [← HF.out]; rfl, below_step hb hb2⟩
  · rw [if_neg hs] at h
    cases h
def text_Plain.f (a0 : ByteArray) (a1 a2 : Int) : Option Bool := if a0.size < 9223372036854775807 then (strings_HasPrefix.f a0 ⟨#[32]⟩).bind fun p => (strings_HasSuffix.f a0 ⟨#[32]⟩).bind fun q => some (utf8B a0 && (decide (a1 ≤ runesI a0) && (decide (runesI a0 ≤ a2) && (allB a0 [(32, 255)] && (!p && !q))))) else none
set_option maxHeartbeats 8000000 in
theorem text_Plain.calls (a0 : ByteArray) (a1 a2 : Int) (r : Bool) (w : World) (hT : Tabs w) (h : text_Plain.f a0 a1 a2 = some r) :
    Calls Tryd.prog 13 #[.string a0, .int .i64 a1, .int .i64 a2] w fun e w' => e = .returned (.bool r) ∧ Below w.heap.size w w' := by
  unfold text_Plain.f at h
  by_cases hs : a0.size < 9223372036854775807
  · rw [if_pos hs] at h
    obtain ⟨p, hp, h⟩ := Option.bind_eq_some_iff.1 h
    obtain ⟨q, hq, h⟩ := Option.bind_eq_some_iff.1 h
    have h := Option.some.inj h
    have cR := text_Runes.calls a0 (runesI a0) w hT (by unfold text_Runes.f; rw [if_pos hs])
    have cU : Aside0 (∀ W : World, Tabs W → _) := ⟨fun W hW => text_Utf8.calls a0 (utf8B a0) W hW (by unfold text_Utf8.f; rw [if_pos (by omega)])⟩
    have cP := Aside0.mk (fun W => strings_HasPrefix.calls a0 ⟨#[32]⟩ p W hp)
    have cQ := Aside0.mk (fun W => strings_HasSuffix.calls a0 ⟨#[32]⟩ q W hq)
    have cA : Aside0 (∀ (g : Nat) (W : World) (ht : ∀ j : Nat, j < [((32 : Int), (255 : Int))].length → W.cell? ⟨g, j, none⟩ = some (spanV ([((32 : Int), (255 : Int))].getD j (0, 0)))), _) := ⟨fun g W ht => all_calls a0 g [(32, 255)] W (by decide) (by omega) ht⟩
    have HT := Aside0.mk hT
    clear hp hq hT
    generalize utf8B a0 = U at cU h
    generalize runesI a0 = R at cR h
    generalize allB a0 [(32, 255)] = L at cA h
    have goU : ∀ (W : World), Below w.heap.size w W → Calls Tryd.prog 9 #[.string a0] W fun e w' => e = .returned (.bool U) ∧ Below W.heap.size W w' := fun W hb => cU.out W (HT.out.below hb)
    have GU := Aside0.mk goU
    clear goU
    cases U with
    | false =>
      have HF := Aside0.mk h
      clear h
      go_enter Tryd.func13, Tryd.ntmps13
      go_wp2_with (first | (go_at_call 11; refine cR.mono ?_; rintro e w1 ⟨rfl, hb⟩) | (go_at_call 9; refine (GU.out _ hb).mono ?_; rintro e w2 ⟨rfl, hb2⟩))
      go_ret
      exact ⟨by rw [← HF.out]; rfl, below_step hb hb2⟩
    | true =>
      cases h1 : decide (a1 ≤ R) with
      | false =>
        rw [h1] at h
        have HF := Aside0.mk h
        clear h
        go_enter Tryd.func13, Tryd.ntmps13
        go_wp2_with (first | (go_at_call 11; refine cR.mono ?_; rintro e w1 ⟨rfl, hb⟩) | (go_at_call 9; refine (GU.out _ hb).mono ?_; rintro e w2 ⟨rfl, hb2⟩))
        go_ret
        exact ⟨by rw [← HF.out]; rfl, below_step hb hb2⟩
      | true =>
        cases h2 : decide (R ≤ a2) with
        | false =>
          rw [h1, h2] at h
          have HF := Aside0.mk h
          clear h
          go_enter Tryd.func13, Tryd.ntmps13
          go_wp2_with (first | (go_at_call 11; refine cR.mono ?_; rintro e w1 ⟨rfl, hb⟩) | (go_at_call 9; refine (GU.out _ hb).mono ?_; rintro e w2 ⟨rfl, hb2⟩))
          go_ret
          exact ⟨by rw [← HF.out]; rfl, below_step hb hb2⟩
        | true =>
          rw [h1, h2] at h
          cases L with
          | false =>
            have HF := Aside0.mk h
            clear h
            go_enter Tryd.func13, Tryd.ntmps13
            go_wp2_with (first | (go_at_call 11; refine cR.mono ?_; rintro e w1 ⟨rfl, hb⟩) | (go_at_call 9; refine (GU.out _ hb).mono ?_; rintro e w2 ⟨rfl, hb2⟩))
            refine (cA.out w2.heap.size _ (fun j hj => ?_)).mono ?_
            · obtain rfl : j = 0 := by simp at hj; omega
              exact (blk_cell (blk_new w2 _) 0).trans rfl
            rintro e w3 ⟨rfl, hb3⟩
            go_wp2
            go_ret
            exact ⟨by rw [← HF.out]; rfl, below_step (below_alloc (below_step hb hb2) _) hb3⟩
          | true =>
            cases p with
            | true =>
              have HF := Aside0.mk h
              clear h
              go_enter Tryd.func13, Tryd.ntmps13
              go_wp2_with (first | (go_at_call 11; refine cR.mono ?_; rintro e w1 ⟨rfl, hb⟩) | (go_at_call 9; refine (GU.out _ hb).mono ?_; rintro e w2 ⟨rfl, hb2⟩))
              refine (cA.out w2.heap.size _ (fun j hj => ?_)).mono ?_
              · obtain rfl : j = 0 := by simp at hj; omega
                exact (blk_cell (blk_new w2 _) 0).trans rfl
              rintro e w3 ⟨rfl, hb3⟩
              go_wp2_with (go_at_call 28; refine (cP.out _).mono ?_; rintro e w4 ⟨rfl, hb4⟩)
              go_ret
              exact ⟨by rw [← HF.out]; rfl, by first | exact below_step (below_step (below_alloc (below_step hb hb2) _) hb3) hb4 | (obtain ⟨n4, rfl⟩ := hb4; exact pw_below_drewN (below_step (below_alloc (below_step hb hb2) _) hb3) n4)⟩
            | false =>
              have HF := Aside0.mk h
              clear h
              go_enter Tryd.func13, Tryd.ntmps13
              go_wp2_with (first | (go_at_call 11; refine cR.mono ?_; rintro e w1 ⟨rfl, hb⟩) | (go_at_call 9; refine (GU.out _ hb).mono ?_; rintro e w2 ⟨rfl, hb2⟩))
              refine (cA.out w2.heap.size _ (fun j hj => ?_)).mono ?_
              · obtain rfl : j = 0 := by simp at hj; omega
                exact (blk_cell (blk_new w2 _) 0).trans rfl
              rintro e w3 ⟨rfl, hb3⟩
              go_wp2_with (first | (go_at_call 28; refine (cP.out _).mono ?_; rintro e w4 ⟨rfl, hb4⟩) | (go_at_call 29; refine (cQ.out _).mono ?_; rintro e w5 ⟨rfl, hb5⟩))
              go_ret
              exact ⟨by rw [← HF.out]; rfl, by first | exact below_step (below_step (below_step (below_alloc (below_step hb hb2) _) hb3) hb4) hb5 | (obtain ⟨n4, rfl⟩ := hb4; obtain ⟨n5, rfl⟩ := hb5; exact pw_below_drewN (pw_below_drewN (below_step (below_alloc (below_step hb hb2) _) hb3) n4) n5)⟩
  · rw [if_neg hs] at h
    cases h
end Go.Proofs.YtjhamgodpgkkjaaDoor.MT
