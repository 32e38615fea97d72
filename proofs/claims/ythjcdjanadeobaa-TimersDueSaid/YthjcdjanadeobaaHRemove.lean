/- container/heap's Remove, walked over a pile. -/
import Derived.Test.YthjcdjanadeobaaHPkg
namespace Go.Proofs.Ythjcdjanadeobaa.MH
open Go.RowKit Go.Proofs.YthjcdjanadeobaaW.PrintWords Go.Proofs.YthjcdjanadeobaaW.PrintLast Go.Proofs.YthjcdjanadeobaaW.PrintMore Go.Proofs.Ythjcdjanadeobaa.Heap
set_option linter.unusedVariables false
set_option linter.unusedSimpArgs false

theorem setRight_len (l : List Heap.Item) (i n : Nat) : (setRight l i n).length = l.length := by
  unfold setRight
  split
  · rw [down_len]
  · rw [up_len, down_len]
set_option maxHeartbeats 8000000 in
set_option maxRecDepth 100000 in
theorem hremove19 (pb mb sb cap i : Nat) (l : List Heap.Item) (w : World) (h : Pile w pb mb sb cap l) (hi : i < l.length) :
    Calls Try.prog 19 #[.iface 47 (.pointer (some ⟨pb, 0, none⟩)), .int .i64 i] w fun e w' => ∃ v, e = .returned v ∧ Pile w' pb mb sb cap (rest l i) ∧ Foot (Own3 pb mb sb) w w' := by
  have hm1 := meth_pop pb
  have hm2 := meth_len pb
  have hm3 := meth_swap pb
  have eg1 := ent46
  have eg2 := ent26
  have eg3 := ent48
  have hs := pile_size h
  obtain ⟨n, hn⟩ : ∃ n, l.length = n + 1 := ⟨l.length - 1, by omega⟩
  obtain ⟨n1, hn1⟩ : ∃ n1, n1 = n + 1 := ⟨_, rfl⟩
  have r1 : (n1 : Int) - 1 = (n : Int) := by omega
  have r2 : wrap64 ((n1 : Int) - 1) = (n : Int) := by rw [w64_in _ ⟨by omega, by omega⟩]; exact r1
  have r3 : wrap64 (n : Int) = (n : Int) := w64_in _ ⟨by omega, by omega⟩
  have HL := Aside0.mk (len26 pb mb _ l.length cap w h.head)
  rw [hn, ← hn1] at HL
  have hsp : ∀ b, Its mb sb b → Own3 pb mb sb b := fun b hb => by
    rcases hb with hb | hb
    · exact .inr (.inr hb)
    · exact .inr (.inl hb)
  have hspop : ∀ b, (b = pb ∨ b = mb) → Own3 pb mb sb b := fun b hb => by
    rcases hb with hb | hb
    · exact .inl hb
    · exact .inr (.inl hb)
  have HSP := Aside0.mk (And.intro hsp hspop)
  clear hsp hspop
  by_cases c : n = i
  · subst c
    have ho : out l n = l := by unfold out; rw [if_pos (by omega)]
    have hr : rest l n = l.dropLast := by unfold rest; rw [ho]
    have q0 : ((n : Int) != (n : Int)) = false := by simp
    have HP := Aside0.mk (pop46 pb mb sb cap l w h (by omega))
    rw [hr]
    clear h hi hs hn hn1 ho hr
    go_enter Try.func19, Try.ntmps19
    go_wp2_with fail
    refine HL.out.mono ?_
    rintro e w2 ⟨rfl, rfl⟩
    go_wp2_with fail
    refine HP.out.mono ?_
    rintro e w5 ⟨rfl, hp, hf⟩
    have HZ := Aside0.mk (And.intro hp hf)
    clear hp hf
    go_wp2_with fail
    go_ret
    exact ⟨_, rfl, HZ.out.1, HZ.out.2.mono HSP.out.2⟩
  · have ho : out l i = setRight (Heap.swap l i n) i n := by
      unfold out
      have e : l.length - 1 = n := by omega
      rw [e, if_neg c]
    have hr : rest l i = (setRight (Heap.swap l i n) i n).dropLast := by unfold rest; rw [ho]
    have q0 : ((n : Int) != (i : Int)) = true := by simp; omega
    have q0' : ((n : Int) == (i : Int)) = false := beq_eq_false_iff_ne.2 (by omega)
    have HS := Aside0.mk (pile_swap' h i n (by omega) (by omega))
    have hsl := swap_len l i n
    have hsr := setRight_len (Heap.swap l i n) i n
    have hdl := down_len n (Heap.swap l i n) i n
    rw [hr]
    generalize hsw : Heap.swap l i n = l1 at HS hsl hsr hdl ⊢
    have HN := Aside0.mk (And.intro hn (And.intro hsl (And.intro hi (And.intro hsr hdl))))
    cases hq : decide (i < (down n l1 i n).2) with
    | true =>
      have hz : setRight l1 i n = (down n l1 i n).1 := by unfold setRight; rw [if_pos (of_decide_eq_true hq)]
      rw [hz] at HN ⊢
      have HQ := Aside0.mk hq
      clear h hi hs hn hn1 ho hr hsl hsr hdl hsw hz hq c
      go_enter Try.func19, Try.ntmps19
      go_wp2_with fail
      refine HL.out.mono ?_
      rintro e w2 ⟨rfl, rfl⟩
      go_wp2_with fail
      refine HS.out.mono ?_
      rintro e w3 ⟨rfl, hp, hf⟩
      have hd := down27 pb mb sb cap n i n l1 w3 hp (by have := HN.out; omega) (by have := HN.out; omega) (by omega)
      rw [HQ.out] at hd
      have HD := Aside0.mk hd
      have HF1 := Aside0.mk hf
      clear hp hf hd
      go_wp2_with fail
      refine HD.out.mono ?_
      rintro e w4 ⟨rfl, hp, hf⟩
      have HP := Aside0.mk (pop46 pb mb sb cap _ w4 hp (by have := HN.out; omega))
      have HF2 := Aside0.mk (HF1.out.trans hf (fun _ _ h => h))
      clear hp hf
      go_wp2_with fail
      refine HP.out.mono ?_
      rintro e w5 ⟨rfl, hp, hf⟩
      have HZ := Aside0.mk (And.intro hp hf)
      clear hp hf
      go_wp2_with fail
      go_ret
      exact ⟨_, rfl, HZ.out.1, (HF2.out.mono (S' := Own3 pb mb sb) HSP.out.1).trans HZ.out.2 (fun b _ hb => HSP.out.2 b hb)⟩
    | false =>
      have hz : setRight l1 i n = up n (down n l1 i n).1 i := by unfold setRight; rw [if_neg (of_decide_eq_false hq)]
      rw [hz] at HN ⊢
      generalize hl2 : (down n l1 i n).1 = l2 at HN ⊢
      have HL2 := Aside0.mk hl2
      have HQ := Aside0.mk hq
      clear h hi hs hn hn1 ho hr hsl hsr hdl hsw hz hq c hl2
      go_enter Try.func19, Try.ntmps19
      go_wp2_with fail
      refine HL.out.mono ?_
      rintro e w2 ⟨rfl, rfl⟩
      go_wp2_with fail
      refine HS.out.mono ?_
      rintro e w3 ⟨rfl, hp, hf⟩
      have hd := down27 pb mb sb cap n i n l1 w3 hp (by have := HN.out; omega) (by have := HN.out; omega) (by omega)
      rw [HQ.out] at hd
      have HD := Aside0.mk hd
      have HF1 := Aside0.mk hf
      clear hp hf hd
      go_wp2_with fail
      refine HD.out.mono ?_
      rintro e w4 ⟨rfl, hp, hf⟩
      rw [HL2.out] at hp
      have HU := Aside0.mk (up28 pb mb sb cap n i l2 w4 hp (by have := HN.out; omega) (by have := HN.out; omega))
      have HF2 := Aside0.mk (HF1.out.trans hf (fun _ _ h => h))
      clear hp hf
      go_wp2_with fail
      refine HU.out.mono ?_
      rintro e w4' ⟨rfl, hp, hf⟩
      have HP := Aside0.mk (pop46 pb mb sb cap _ w4' hp (by have := HN.out; omega))
      have HF3 := Aside0.mk (HF2.out.trans hf (fun _ _ h => h))
      clear hp hf
      go_wp2_with fail
      refine HP.out.mono ?_
      rintro e w5 ⟨rfl, hp, hf⟩
      have HZ := Aside0.mk (And.intro hp hf)
      clear hp hf
      go_wp2_with fail
      go_ret
      exact ⟨_, rfl, HZ.out.1, (HF3.out.mono (S' := Own3 pb mb sb) HSP.out.1).trans HZ.out.2 (fun b _ hb => HSP.out.2 b hb)⟩
end Go.Proofs.Ythjcdjanadeobaa.MH
