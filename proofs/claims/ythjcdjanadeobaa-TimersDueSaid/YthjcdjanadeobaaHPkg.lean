/- container/heap's Push, Pop, Remove, walked over a pile. -/
import Derived.Test.YthjcdjanadeobaaHPush
import Derived.Test.YthjcdjanadeobaaHFix
import Derived.Test.YthjcdjanadeobaaHSelf
namespace Go.Proofs.Ythjcdjanadeobaa.MH
open Go.RowKit Go.Proofs.YthjcdjanadeobaaW.PrintWords Go.Proofs.YthjcdjanadeobaaW.PrintLast Go.Proofs.YthjcdjanadeobaaW.PrintMore Go.Proofs.Ythjcdjanadeobaa.Heap
set_option linter.unusedVariables false
set_option linter.unusedSimpArgs false

theorem meth_push (pb : Nat) : ∀ w : World, (method 191 47 (.pointer (some ⟨pb, 0, none⟩)) "Push").run Try.prog w = .ok (47, .pointer (some ⟨pb, 0, none⟩)) w := fun _ => by kernel_rfl
theorem meth_pop (pb : Nat) : ∀ w : World, (method 191 47 (.pointer (some ⟨pb, 0, none⟩)) "Pop").run Try.prog w = .ok (46, .pointer (some ⟨pb, 0, none⟩)) w := fun _ => by kernel_rfl
theorem meth_len (pb : Nat) : ∀ w : World, (method 191 47 (.pointer (some ⟨pb, 0, none⟩)) "Len").run Try.prog w = .ok (26, .pointer (some ⟨pb, 0, none⟩)) w := fun _ => by kernel_rfl
theorem meth_swap (pb : Nat) : ∀ w : World, (method 191 47 (.pointer (some ⟨pb, 0, none⟩)) "Swap").run Try.prog w = .ok (48, .pointer (some ⟨pb, 0, none⟩)) w := fun _ => by kernel_rfl
theorem ent46 : ∀ args w, (callFunc 46 args).run Try.prog w = .ok (.enter 46 args) w := enters_of Try.func46 (by kernel_rfl) rfl
theorem ent47 : ∀ args w, (callFunc 47 args).run Try.prog w = .ok (.enter 47 args) w := enters_of Try.func47 (by kernel_rfl) rfl
theorem ent48 : ∀ args w, (callFunc 48 args).run Try.prog w = .ok (.enter 48 args) w := enters_of Try.func48 (by kernel_rfl) rfl
theorem ent26 : ∀ args w, (callFunc 26 args).run Try.prog w = .ok (.enter 26 args) w := enters_of Try.func26 (by kernel_rfl) rfl
/-- Swap, whether of two or of one with itself. -/
theorem pile_swap' {w : World} {pb mb sb cap : Nat} {l : List Heap.Item} (h : Pile w pb mb sb cap l) (i k : Nat) (hi : i < l.length) (hk : k < l.length) :
    Calls Try.prog 48 #[.pointer (some ⟨pb, 0, none⟩), .int .i64 i, .int .i64 k] w fun e w' => e = .returned (.tuple #[]) ∧ Pile w' pb mb sb cap (Heap.swap l i k) ∧ Foot (Its mb sb) w w' := by
  by_cases c : i = k
  · subst c
    have hsw : Heap.swap l i i = l := by
      unfold Heap.swap
      rw [List.set_set, at_get l i hi, List.set_getElem_self]
    rw [hsw]
    obtain ⟨f, hm, hp⟩ := h.map
    exact (swap48_self pb mb sb cap i l f w h.head h.row hm hp hi h.n1 h.n2 h.n3).mono fun e w' ⟨a, b, c, d, g⟩ => ⟨a, ⟨b, c, d, h.n1, h.n2, h.n3⟩, g⟩
  · exact pile_swap h i k hi hk c
/-- What a heap's calls may turn. -/
def Own3 (pb mb sb : Nat) (b : Nat) : Prop := b = pb ∨ b = mb ∨ b = sb
set_option maxHeartbeats 8000000 in
set_option maxRecDepth 100000 in
theorem hpush24 (pb mb : Nat) (sv : Value) (l : List Heap.Item) (w : World) (id a : Int) (h : PileO w pb mb sv l) (hwf : (Lit.int .i64 id).wf = true) (hno : ∀ i, i < l.length → (at_ l i).1 ≠ id) (hs : l.length < 1000000000) :
    Calls Try.prog 24 #[.iface 47 (.pointer (some ⟨pb, 0, none⟩)), .iface 62 (.agg #[.int .i64 id, .int .u64 a])] w fun e w' => e = .returned (.tuple #[]) ∧ ∃ sb cap, Pile w' pb mb sb cap (push l (id, a)) ∧ (sv.ownBlock = some sb ∨ w.heap.size ≤ sb) ∧ Foot (fun b => b = pb ∨ b = mb ∨ sv.ownBlock = some b) w w' := by
  have hm1 := meth_push pb
  have hm2 := meth_len pb
  have eg1 := ent47
  have eg2 := ent26
  have HP := Aside0.mk (push47 pb mb sv l w id a h hwf hno hs)
  obtain ⟨n, hn⟩ : ∃ n, n = l.length + 1 := ⟨_, rfl⟩
  have hlen : (l ++ [(id, a)]).length = n := by simp [hn]
  have hpush : push l (id, a) = up (l.length + 1) (l ++ [(id, a)]) l.length := rfl
  have r1 : (n : Int) - 1 = (l.length : Int) := by omega
  have r2 : wrap64 ((n : Int) - 1) = (l.length : Int) := by rw [w64_in _ ⟨by omega, by omega⟩]; exact r1
  have r3 : wrap64 (l.length : Int) = (l.length : Int) := w64_in _ ⟨by omega, by omega⟩
  have HN := Aside0.mk (And.intro hn hlen)
  rw [hpush]
  clear h hwf hno hs hpush hn hlen
  go_enter Try.func24, Try.ntmps24
  go_wp2_with fail
  refine HP.out.mono ?_
  rintro e w1 ⟨rfl, sb, cap, hp, ho, hf⟩
  have hhead := hp.head
  rw [HN.out.2] at hhead
  have HL := Aside0.mk (len26 pb mb _ n cap w1 hhead)
  have HU := Aside0.mk (up28 pb mb sb cap (l.length + 1) l.length (l ++ [(id, a)]) w1 hp (by have := HN.out; omega) (by omega))
  have HO := Aside0.mk (And.intro ho hf)
  clear hp ho hf hhead
  go_wp2_with fail
  refine HL.out.mono ?_
  rintro e w2 ⟨rfl, rfl⟩
  go_wp2_with fail
  refine HU.out.mono ?_
  rintro e w3 ⟨rfl, hp, hf⟩
  have HF := Aside0.mk (And.intro hp hf)
  clear hp hf
  go_wp2_with fail
  go_end0
  obtain ⟨hp, hf⟩ := HF.out
  obtain ⟨ho, hf0⟩ := HO.out
  refine ⟨rfl, sb, cap, hp, ho, hf0.trans hf (fun b hb hi => ?_)⟩
  rcases hi with rfl | rfl
  · rcases ho with ho | ho
    · exact .inr (.inr ho)
    · omega
  · exact .inr (.inl rfl)
theorem out_zero (l : List Heap.Item) (n : Nat) (hn : l.length = n + 1) : out l 0 = (down n (Heap.swap l 0 n) 0 n).1 := by
  unfold out
  have e : l.length - 1 = n := by omega
  rw [e]
  by_cases c : n = 0
  · subst c
    rw [if_pos rfl]
    have hsw : Heap.swap l 0 0 = l := by
      unfold Heap.swap
      rw [List.set_set, at_get l 0 (by omega), List.set_getElem_self]
    rw [hsw]; rfl
  · rw [if_neg c]
    unfold setRight
    split
    · rfl
    · cases n with
      | zero => rfl
      | succ n => rw [up_succ, if_pos rfl]
theorem out_len (l : List Heap.Item) (i : Nat) : (out l i).length = l.length := by
  unfold out
  split
  · rfl
  · unfold setRight
    split
    · rw [down_len, swap_len]
    · rw [up_len, down_len, swap_len]
set_option maxHeartbeats 8000000 in
set_option maxRecDepth 100000 in
theorem hpop23 (pb mb sb cap : Nat) (l : List Heap.Item) (w : World) (h : Pile w pb mb sb cap l) (h0 : 0 < l.length) :
    Calls Try.prog 23 #[.iface 47 (.pointer (some ⟨pb, 0, none⟩))] w fun e w' => ∃ v, e = .returned v ∧ Pile w' pb mb sb cap (rest l 0) ∧ Foot (Own3 pb mb sb) w w' := by
  have hm1 := meth_pop pb
  have hm2 := meth_len pb
  have hm3 := meth_swap pb
  have eg1 := ent46
  have eg2 := ent26
  have eg3 := ent48
  have hs := pile_size h
  obtain ⟨n, hn⟩ : ∃ n, l.length = n + 1 := ⟨l.length - 1, by omega⟩
  obtain ⟨n1, hn1⟩ : ∃ n1, n1 = n + 1 := ⟨_, rfl⟩
  have r1 : (n1 : Int) - 1 = (n : Int) := by omega
  have r2 : wrap64 ((n1 : Int) - 1) = (n : Int) := by rw [w64_in _ ⟨by omega, by omega⟩]; exact r1
  have r3 : wrap64 (n : Int) = (n : Int) := w64_in _ ⟨by omega, by omega⟩
  have HL := Aside0.mk (len26 pb mb _ l.length cap w h.head)
  rw [hn, ← hn1] at HL
  have HS := Aside0.mk (pile_swap' h 0 n (by omega) (by omega))
  simp only [Int.natCast_zero] at HS
  have hsl := swap_len l 0 n
  have HN := Aside0.mk (And.intro hn hsl)
  clear h h0 hs hn hn1 hsl
  go_enter Try.func23, Try.ntmps23
  go_wp2_with fail
  refine HL.out.mono ?_
  rintro e w2 ⟨rfl, rfl⟩
  go_wp2_with fail
  refine HS.out.mono ?_
  rintro e w3 ⟨rfl, hp, hf⟩
  have HD := Aside0.mk (down27 pb mb sb cap n 0 n _ w3 hp (by have := HN.out; omega) (by have := HN.out; omega) (by omega))
  simp only [Int.natCast_zero] at HD
  have HF1 := Aside0.mk hf
  clear hp hf
  go_wp2_with fail
  refine HD.out.mono ?_
  rintro e w4 ⟨rfl, hp, hf⟩
  rw [← out_zero l n HN.out.1] at hp
  have hol := out_len l 0
  have HP := Aside0.mk (pop46 pb mb sb cap _ w4 hp (by have := HN.out; omega))
  have HF2 := Aside0.mk (HF1.out.trans hf (fun _ _ h => h))
  clear hp hf hol
  go_wp2_with fail
  refine HP.out.mono ?_
  rintro e w5 ⟨rfl, hp, hf⟩
  have HZ := Aside0.mk (And.intro hp hf)
  clear hp hf
  go_wp2_with fail
  go_ret
  refine ⟨_, rfl, HZ.out.1, (HF2.out.mono (S' := Own3 pb mb sb) (fun b hb => ?_)).trans HZ.out.2 (fun b _ hb => ?_)⟩
  · rcases hb with hb | hb
    · exact .inr (.inr hb)
    · exact .inr (.inl hb)
  · rcases hb with hb | hb
    · exact .inl hb
    · exact .inr (.inl hb)
end Go.Proofs.Ythjcdjanadeobaa.MH
