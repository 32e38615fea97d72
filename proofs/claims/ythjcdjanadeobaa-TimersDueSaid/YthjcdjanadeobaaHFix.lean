/- container/heap's Fix, walked over a pile. -/
import Derived.Test.YthjcdjanadeobaaHDown
namespace Go.Proofs.Ythjcdjanadeobaa.MH
open Go.RowKit Go.Proofs.YthjcdjanadeobaaW.PrintWords Go.Proofs.YthjcdjanadeobaaW.PrintLast Go.Proofs.YthjcdjanadeobaaW.PrintMore Go.Proofs.Ythjcdjanadeobaa.Heap
set_option linter.unusedVariables false
set_option linter.unusedSimpArgs false

theorem down_len : ∀ (f : Nat) (l : List Heap.Item) (i n : Nat), (down f l i n).1.length = l.length
  | 0, l, i, n => rfl
  | f + 1, l, i, n => by
    rw [down_succ]
    split
    · rfl
    · split
      · rw [down_len f, swap_len]
      · rfl
theorem up_len : ∀ (f : Nat) (l : List Heap.Item) (j : Nat), (up f l j).length = l.length
  | 0, l, j => rfl
  | f + 1, l, j => by
    rw [up_succ]
    split
    · rfl
    · split
      · rw [up_len f, swap_len]
      · rfl
set_option maxHeartbeats 8000000 in
set_option maxRecDepth 100000 in
theorem fix25 (pb mb sb cap i : Nat) (l : List Heap.Item) (w : World) (h : Pile w pb mb sb cap l) (hi : i < l.length) :
    Calls Try.prog 25 #[.iface 47 (.pointer (some ⟨pb, 0, none⟩)), .int .i64 i] w fun e w' => e = .returned (.tuple #[]) ∧ Pile w' pb mb sb cap (setRight l i l.length) ∧ Foot (Its mb sb) w w' := by
  have hm : ∀ w : World, (method 191 47 (.pointer (some ⟨pb, 0, none⟩)) "Len").run Try.prog w = .ok (26, .pointer (some ⟨pb, 0, none⟩)) w := fun _ => by kernel_rfl
  have eg : ∀ args w, (callFunc 26 args).run Try.prog w = .ok (.enter 26 args) w := enters_of Try.func26 (by kernel_rfl) rfl
  have HL := Aside0.mk (len26 pb mb _ l.length cap w h.head)
  have HD := down27 pb mb sb cap l.length i l.length l w h (by omega) (Nat.le_refl _) (by omega)
  have hlen := down_len l.length l i l.length
  have HI := Aside0.mk hi
  cases hq : decide (i < (down l.length l i l.length).2) with
  | true =>
    have hz : setRight l i l.length = (down l.length l i l.length).1 := by unfold setRight; rw [if_pos (of_decide_eq_true hq)]
    rw [hq] at HD
    have HZ := Aside0.mk hz
    have HD := Aside0.mk HD
    clear hz hq hlen h hi
    go_enter Try.func25, Try.ntmps25
    go_wp2_with fail
    refine HL.out.mono ?_
    rintro e w' ⟨rfl, rfl⟩
    go_wp2_with fail
    refine HD.out.mono ?_
    rintro e w2 ⟨rfl, hp, hf⟩
    have HP := Aside0.mk hp
    have HF := Aside0.mk hf
    clear hp hf
    go_wp2_with fail
    go_end0
    exact ⟨rfl, by rw [HZ.out]; exact HP.out, HF.out⟩
  | false =>
    have hz : setRight l i l.length = up l.length (down l.length l i l.length).1 i := by unfold setRight; rw [if_neg (of_decide_eq_false hq)]
    rw [hq] at HD
    have HZ := Aside0.mk hz
    have HD := Aside0.mk HD
    generalize (down l.length l i l.length).1 = d at HZ HD hlen
    have HN := Aside0.mk hlen
    clear hz hq hlen h hi
    go_enter Try.func25, Try.ntmps25
    go_wp2_with fail
    refine HL.out.mono ?_
    rintro e w' ⟨rfl, rfl⟩
    go_wp2_with fail
    refine HD.out.mono ?_
    rintro e w2 ⟨rfl, hp, hf⟩
    have HF := Aside0.mk hf
    have HU := Aside0.mk (up28 pb mb sb cap l.length i d w2 hp (by have := HN.out; have := HI.out; omega) (by have := HI.out; omega))
    clear hp hf
    go_wp2_with fail
    refine HU.out.mono ?_
    rintro e w3 ⟨rfl, hp, hf⟩
    have HP := Aside0.mk hp
    have HF2 := Aside0.mk (HF.out.trans hf (fun _ _ h => h))
    clear hp hf
    go_wp2_with fail
    go_end0
    exact ⟨rfl, by rw [HZ.out]; exact HP.out, HF2.out⟩
end Go.Proofs.Ythjcdjanadeobaa.MH
