/- What text.Utf8, text.Plain and text.Aln come to: the library's functions by the shelf's contracts, the rest walked. -/
import Derived.Test.YtjhamgodpgkkjaaDoorHAll
import Derived.Shelf.GgClosure.StringsRunes
import Derived.Shelf.Utf8.RuneCount
import Derived.Shelf.Unicode.ValidAny
import Derived.Shelf.Lay
import Derived.Ground.GgwProg
import Derived.Ground.NamesProg
namespace Go.Proofs.YtjhamgodpgkkjaaDoor.MT
open Go.RowKit Go.Shelf Go.Proofs.YtjhamgodpgkkjaaDoorW.PrintWords Go.Proofs.YtjhamgodpgkkjaaDoorW.PrintLast Go.Proofs.YtjhamgodpgkkjaaDoorW.PrintMore
set_option linter.unusedVariables false
set_option linter.unusedSimpArgs false

shelf_lay Lays.n196 Nm 196 at Tryd as laysV
shelf_lay Lays.n195 Nm 195 at Tryd as laysC
shelf_lay LaysGw.n15 Ggw 15 at Tryd as laysI
def Tabs (w : World) : Prop := Lib.Utf8Tabs (laysV_ren.g 3) (laysV_ren.g 4) w
theorem Tabs.below {w w' : World} (h : Tabs w) (hb : Below w.heap.size w w') : Tabs w' := Utf8Tabs_below h hb
def mayR (x : Nat) : Bool := (x == 9 || x == 10 || x == 13) || (decide (32 ≤ x) && (x != 65534 && x != 65535))
theorem valid_calls (s : ByteArray) (w : World) (hs : s.size ≤ 9223372036854775807) (hT : Tabs w) : Calls Tryd.prog 20 #[.string s] w fun e w' => e = .returned (.bool (Lib.validD s.data.toList)) ∧ Below w.heap.size w w' := Any.utf8_ValidString laysV s w hs hT
theorem may_at (w : World) : PredAtRunes Tryd.prog 22 #[] (fun x => !mayR x) w := fun W x hx _ => by
  unfold FnGives
  show Calls Tryd.prog 22 #[.int .i32 (x : Int)] W _
  by_cases h1 : x = 9
  · have b1 : ((x : Int) == 9) = true := beq_iff_eq.2 (by omega)
    have HF : Aside0 (mayR x = true) := ⟨by simp [mayR, h1]⟩
    clear h1
    go_enter Tryd.func22, Tryd.ntmps22
    go_wp2
    go_ret
    exact ⟨by rw [HF.out]; rfl, 0, rfl⟩
  by_cases h2 : x = 10
  · have b1 : ((x : Int) == 9) = false := beq_eq_false_iff_ne.2 (by omega)
    have b2 : ((x : Int) == 10) = true := beq_iff_eq.2 (by omega)
    have HF : Aside0 (mayR x = true) := ⟨by simp [mayR, h2]⟩
    clear h1 h2
    go_enter Tryd.func22, Tryd.ntmps22
    go_wp2
    go_ret
    exact ⟨by rw [HF.out]; rfl, 0, rfl⟩
  by_cases h3 : x = 13
  · have b1 : ((x : Int) == 9) = false := beq_eq_false_iff_ne.2 (by omega)
    have b2 : ((x : Int) == 10) = false := beq_eq_false_iff_ne.2 (by omega)
    have b3 : ((x : Int) == 13) = true := beq_iff_eq.2 (by omega)
    have HF : Aside0 (mayR x = true) := ⟨by simp [mayR, h3]⟩
    clear h1 h2 h3
    go_enter Tryd.func22, Tryd.ntmps22
    go_wp2
    go_ret
    exact ⟨by rw [HF.out]; rfl, 0, rfl⟩
  have b1 : ((x : Int) == 9) = false := beq_eq_false_iff_ne.2 (by omega)
  have b2 : ((x : Int) == 10) = false := beq_eq_false_iff_ne.2 (by omega)
  have b3 : ((x : Int) == 13) = false := beq_eq_false_iff_ne.2 (by omega)
  by_cases h4 : 32 ≤ x
  · have b4 : decide ((32 : Int) ≤ (x : Int)) = true := decide_eq_true (by omega)
    by_cases h5 : x = 65534
    · have b5 : ((x : Int) != 65534) = false := bne_eq_false_iff_eq.2 (by omega)
      have HF : Aside0 (mayR x = false) := ⟨by simp [mayR, h5]⟩
      clear h1 h2 h3 h4 h5
      go_enter Tryd.func22, Tryd.ntmps22
      go_wp2
      go_ret
      exact ⟨by rw [HF.out]; rfl, 0, rfl⟩
    have b5 : ((x : Int) != 65534) = true := bne_iff_ne.2 (by omega)
    by_cases h6 : x = 65535
    · have b6 : ((x : Int) != 65535) = false := bne_eq_false_iff_eq.2 (by omega)
      have HF : Aside0 (mayR x = false) := ⟨by simp [mayR, h6]⟩
      clear h1 h2 h3 h4 h5 h6
      go_enter Tryd.func22, Tryd.ntmps22
      go_wp2
      go_ret
      exact ⟨by rw [HF.out]; rfl, 0, rfl⟩
    have b6 : ((x : Int) != 65535) = true := bne_iff_ne.2 (by omega)
    have HF : Aside0 (mayR x = true) := ⟨by simp [mayR, h4, h5, h6]⟩
    clear h1 h2 h3 h4 h5 h6
    go_enter Tryd.func22, Tryd.ntmps22
    go_wp2
    go_ret
    exact ⟨by rw [HF.out]; rfl, 0, rfl⟩
  · have b4 : decide ((32 : Int) ≤ (x : Int)) = false := decide_eq_false (by omega)
    have HF : Aside0 (mayR x = false) := ⟨by simp [mayR, h1, h2, h3, h4]⟩
    clear h1 h2 h3 h4
    go_enter Tryd.func22, Tryd.ntmps22
    go_wp2
    go_ret
    exact ⟨by rw [HF.out]; rfl, 0, rfl⟩
theorem index_calls (s : ByteArray) (w : World) : Calls Tryd.prog 21 #[.string s, .func (.func 22) #[] #[]] w fun e w' => e = .returned (.int .i64 (Lib.idxFunc (fun x => !mayR x) true s)) ∧ Below w.heap.size w w' :=
  Any.strings_IndexFunc_runes laysI 22 #[] (enters_of Tryd.func22 (by kernel_rfl) rfl) _ s w (may_at w)
def utf8_RuneCountInString.f (a0 : ByteArray) : Option Int := if a0.size < 9223372036854775807 then some (Lib.runeCount a0 : Int) else none
theorem utf8_RuneCountInString.calls (a0 : ByteArray) (r : Int) (w : World) (h : utf8_RuneCountInString.f a0 = some r) : Calls Tryd.prog 25 #[.string a0] w fun e w' => e = .returned (.int .i64 r) ∧ Below w.heap.size w w' := by
  unfold utf8_RuneCountInString.f at h
  by_cases hs : a0.size < 9223372036854775807
  · rw [if_pos hs] at h
    obtain rfl := Option.some.inj h
    refine (show Calls Tryd.prog 25 #[.string a0] w _ from Any.utf8_RuneCountInString laysC a0 w hs).mono ?_
    rintro e w' ⟨rfl, pos, rfl⟩
    exact ⟨rfl, below_alloc (Below.refl _ w) _⟩
  · rw [if_neg hs] at h
    cases h
def utf8B (s : ByteArray) : Bool := Lib.validD s.data.toList && decide (Lib.idxFunc (fun x => !mayR x) true s < 0)
def text_Utf8.f (a0 : ByteArray) : Option Bool := if a0.size ≤ 9223372036854775807 then some (utf8B a0) else none
theorem text_Utf8.calls (a0 : ByteArray) (r : Bool) (w : World) (hT : Tabs w) (h : text_Utf8.f a0 = some r) : Calls Tryd.prog 9 #[.string a0] w fun e w' => e = .returned (.bool r) ∧ Below w.heap.size w w' := by
  unfold text_Utf8.f at h
  by_cases hs : a0.size ≤ 9223372036854775807
  · rw [if_pos hs] at h
    have h := Option.some.inj h
    have cV := valid_calls a0 w hs hT
    have cI := fun W => index_calls a0 W
    unfold utf8B at h
    generalize Lib.validD a0.data.toList = V at cV h
    generalize Lib.idxFunc (fun x => !mayR x) true a0 = I at cI h
    cases V with
    | false =>
      have HF := Aside0.mk h
      clear h
      go_enter Tryd.func9, Tryd.ntmps9
      go_wp2_with (go_at_call 20; refine cV.mono ?_; rintro e w' ⟨rfl, hb⟩)
      go_ret
      exact ⟨by rw [← HF.out]; rfl, hb⟩
    | true =>
      have HF := Aside0.mk h
      clear h
      go_enter Tryd.func9, Tryd.ntmps9
      go_wp2_with (first | (go_at_call 20; refine cV.mono ?_; rintro e w1 ⟨rfl, hb⟩) | (go_at_call 21; refine (cI _).mono ?_; rintro e w2 ⟨rfl, hb2⟩))
      go_ret
      exact ⟨by rw [← HF.out]; rfl, below_step hb hb2⟩
  · rw [if_neg hs] at h
    cases h
def text_Aln.f (a0 : ByteArray) (a1 a2 : Int) : Option Bool := if a0.size ≤ 9223372036854775807 then some (decide (a1 ≤ (a0.size : Int)) && decide ((a0.size : Int) ≤ a2) && allB a0 [(48, 57), (65, 90), (97, 122)]) else none
set_option maxHeartbeats 4000000 in
theorem text_Aln.calls (a0 : ByteArray) (a1 a2 : Int) (r : Bool) (w : World) (h : text_Aln.f a0 a1 a2 = some r) :
    Calls Tryd.prog 17 #[.string a0, .int .i64 a1, .int .i64 a2] w fun e w' => e = .returned (.bool r) ∧ Below w.heap.size w w' := by
  unfold text_Aln.f at h
  by_cases hs : a0.size ≤ 9223372036854775807
  · rw [if_pos hs] at h
    have h := Option.some.inj h
    cases h1 : decide (a1 ≤ (a0.size : Int))
    · rw [h1] at h
      subst h
      go_enter Tryd.func17, Tryd.ntmps17
      go_wp2
      go_ret
      exact ⟨rfl, Below.refl _ _⟩
    · cases h2 : decide ((a0.size : Int) ≤ a2)
      · rw [h1, h2] at h
        subst h
        go_enter Tryd.func17, Tryd.ntmps17
        go_wp2
        go_ret
        exact ⟨rfl, Below.refl _ _⟩
      · rw [h1, h2] at h
        have HF := Aside0.mk h
        clear h
        go_enter Tryd.func17, Tryd.ntmps17
        go_wp2_with fail
        refine (all_calls a0 w.heap.size [(48, 57), (65, 90), (97, 122)] _ (by decide) hs (fun j hj => ?_)).mono ?_
        · have hj3 : j = 0 ∨ j = 1 ∨ j = 2 := by simp at hj; omega
          rcases hj3 with rfl | rfl | rfl
          · exact (blk_cell (blk_new w _) 0).trans rfl
          · exact (blk_cell (blk_new w _) 1).trans rfl
          · exact (blk_cell (blk_new w _) 2).trans rfl
        rintro e w' ⟨rfl, hb⟩
        go_wp2
        go_ret
        exact ⟨by rw [← HF.out]; rfl, below_step (below_alloc (Below.refl _ w) _) hb⟩
  · rw [if_neg hs] at h
    cases h
end Go.Proofs.YtjhamgodpgkkjaaDoor.MT
