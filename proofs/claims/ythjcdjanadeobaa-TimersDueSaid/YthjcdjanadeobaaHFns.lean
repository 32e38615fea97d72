/- timers.Heap walked: New, Len, Next, Set, Drop: what it holds, in whatever order. -/
import Derived.Test.YthjcdjanadeobaaHRemove
import Derived.Test.YthjcdjanadeobaaHMany
import Derived.Test.YthjcdjanadeobaaHRefNext
namespace Go.Proofs.Ythjcdjanadeobaa.MH
open Go.RowKit Go.Proofs.YthjcdjanadeobaaW.PrintWords Go.Proofs.YthjcdjanadeobaaW.PrintLast Go.Proofs.YthjcdjanadeobaaW.PrintMore Go.Proofs.Ythjcdjanadeobaa.Heap
set_option linter.unusedVariables false
set_option linter.unusedSimpArgs false

/-- A heap behind a pointer, in blocks of S, that holds m. -/
structure HpO (w : World) (hb pb mb : Nat) (sv : Value) (S : Nat → Prop) (l m : List Heap.Item) : Prop where
  head : w.heap[hb]? = some (.cells #[.pointer (some ⟨pb, 0, none⟩)] 53 (0, 0))
  pile : PileO w pb mb sv l
  heap : IsHeap l l.length
  perm : l.Perm m
  s0 : S hb
  s1 : S pb
  s2 : S mb
  s3 : ∀ b, sv.ownBlock = some b → S b
  n1 : hb ≠ pb
  n2 : hb ≠ mb
  n3 : sv.ownBlock ≠ some hb
  lt : ∀ b, S b → b < w.heap.size
def Hp (w : World) (hb : Nat) (S : Nat → Prop) (m : List Heap.Item) : Prop := ∃ pb mb sv l, HpO w hb pb mb sv S l m
/-- What a call turns: only blocks of S, and S' holds nothing else that was there. -/
structure Turn (w w' : World) (S S' : Nat → Prop) : Prop where
  new : ∀ b, S' b → S b ∨ w.heap.size ≤ b
  foot : Foot S w w'
theorem Turn.trans {w w1 w2 : World} {S S1 S2 : Nat → Prop} (h : Turn w w1 S S1) (k : Turn w1 w2 S1 S2) : Turn w w2 S S2 := by
  refine ⟨fun b hb => ?_, h.foot.trans k.foot (fun b hb hs => ?_)⟩
  · rcases k.new b hb with h1 | h1
    · exact h.new b h1
    · exact .inr (Nat.le_trans h.foot.2.2.2.1 h1)
  · rcases h.new b hs with h1 | h1
    · exact h1
    · omega
theorem Turn.refl (w : World) (S : Nat → Prop) : Turn w w S S := ⟨fun b h => .inl h, Foot.refl _ _⟩
theorem Turn.below {w w' : World} {S : Nat → Prop} (h : Below w.heap.size w w') : Turn w w' S S := ⟨fun b h => .inl h, Foot.below h⟩
theorem PileO.keep {w w' : World} {pb mb : Nat} {sv : Value} {l : List Heap.Item} {S : Nat → Prop} (h : PileO w pb mb sv l) (hf : Foot S w w') (h1 : ¬ S pb) (h2 : ¬ S mb) (h3 : ∀ b, sv.ownBlock = some b → ¬ S b) : PileO w' pb mb sv l := by
  obtain ⟨a, b, c, ⟨f, ⟨es, cl, x, y⟩, z⟩, n1, n2, n3⟩ := h
  exact ⟨hf.blk a h1, own_below b hf h3, c, ⟨f, ⟨es, cl, hf.blk x h2, y⟩, z⟩, n1, n2, n3⟩
theorem HpO.keep {w w' : World} {hb pb mb : Nat} {sv : Value} {S S' : Nat → Prop} {l m : List Heap.Item} (h : HpO w hb pb mb sv S l m) (hf : Foot S' w w') (hd : ∀ b, S b → ¬ S' b) : HpO w' hb pb mb sv S l m :=
  ⟨hf.blk h.head (hd _ h.s0), h.pile.keep hf (hd _ h.s1) (hd _ h.s2) (fun b hb => hd b (h.s3 b hb)), h.heap, h.perm, h.s0, h.s1, h.s2, h.s3, h.n1, h.n2, h.n3, fun b hb => Nat.lt_of_lt_of_le (h.lt b hb) hf.2.2.2.1⟩
theorem Hp.lt {w : World} {hb : Nat} {S : Nat → Prop} {m : List Heap.Item} (h : Hp w hb S m) : ∀ b, S b → b < w.heap.size := by
  obtain ⟨pb, mb, sv, l, h⟩ := h
  exact h.lt
theorem Hp.keep {w w' : World} {hb : Nat} {S S' : Nat → Prop} {m : List Heap.Item} (h : Hp w hb S m) (hf : Foot S' w w') (hd : ∀ b, b < w.heap.size → S b → ¬ S' b) : Hp w' hb S m := by
  obtain ⟨pb, mb, sv, l, h⟩ := h
  obtain ⟨f, hm, _⟩ := h.pile.map
  have hf' : Foot (fun b => S' b ∧ b < w.heap.size) w w' := ⟨hf.1, hf.2.1, hf.2.2.1, hf.2.2.2.1, fun b hlt hn => hf.2.2.2.2 b hlt (fun hs => hn ⟨hs, hlt⟩)⟩
  exact ⟨pb, mb, sv, l, h.keep hf' (fun b hs hs' => hd b hs'.2 hs hs'.1)⟩
theorem Hp.still {w w' : World} {hb : Nat} {S : Nat → Prop} {m : List Heap.Item} (h : Hp w hb S m) (hb' : Below w.heap.size w w') : Hp w' hb S m := h.keep (Foot.below (S := fun _ => False) hb') (fun _ _ _ h => h)
theorem Hp.perm {w : World} {hb : Nat} {S : Nat → Prop} {m m' : List Heap.Item} (h : Hp w hb S m) (hp : m.Perm m') : Hp w hb S m' := by
  obtain ⟨pb, mb, sv, l, h⟩ := h
  exact ⟨pb, mb, sv, l, h.head, h.pile, h.heap, h.perm.trans hp, h.s0, h.s1, h.s2, h.s3, h.n1, h.n2, h.n3, h.lt⟩
theorem Pl.uniq {f : Int → Option Int} {l : List Heap.Item} (h : Pl f l) : Uniq l := by
  unfold Uniq
  rw [List.nodup_iff_pairwise_ne, List.pairwise_iff_getElem]
  intro i j hi hj hij e
  simp only [List.length_map] at hi hj
  simp only [List.getElem_map] at e
  rw [← at_get l i hi, ← at_get l j hj] at e
  have := h.one hi hj e
  omega
theorem HpO.uniq {w : World} {hb pb mb : Nat} {sv : Value} {S : Nat → Prop} {l m : List Heap.Item} (h : HpO w hb pb mb sv S l m) : Uniq l ∧ Uniq m := by
  obtain ⟨f, _, hp⟩ := h.pile.map
  exact ⟨hp.uniq, uniq_perm h.perm hp.uniq⟩
theorem Hp.uniq {w : World} {hb : Nat} {S : Nat → Prop} {m : List Heap.Item} (h : Hp w hb S m) : Uniq m := by
  obtain ⟨pb, mb, sv, l, h⟩ := h
  exact h.uniq.2
theorem Hp.small {w : World} {hb : Nat} {S : Nat → Prop} {m : List Heap.Item} (h : Hp w hb S m) : m.length ≤ 1000000000 := by
  obtain ⟨pb, mb, sv, l, h⟩ := h
  have := h.pile.small
  have := h.perm.length_eq
  omega
theorem set_perm {l : List Heap.Item} (u : Uniq l) (i : Nat) (hi : i < l.length) (x : Heap.Item) : (l.set i x).Perm (without l (at_ l i).1 ++ [x]) := by
  have e1 : l.take i ++ (at_ l i :: l.drop (i + 1)) = l := by
    rw [at_get l i hi, List.getElem_cons_drop, List.take_append_drop]
  have h1 : (l.take i ++ l.drop (i + 1) ++ [at_ l i]).Perm l := by
    rw [List.append_assoc]
    refine (List.Perm.append_left _ List.perm_append_comm).trans ?_
    rw [List.singleton_append, e1]
  have h2 := without_of_split u h1
  rw [List.set_eq_take_append_cons_drop, if_pos hi]
  refine List.Perm.trans ?_ (List.Perm.append_right [x] h2.symm)
  rw [List.append_assoc]
  exact List.Perm.append_left _ (List.perm_append_singleton x _).symm
theorem rest_perm {l : List Heap.Item} (u : Uniq l) (i : Nat) (hi : i < l.length) (h : IsHeap l l.length) : (rest l i).Perm (without l (at_ l i).1) := (without_of_split u (rest_spec l i hi h).2.1).symm
theorem HpO.at_ {w : World} {hb pb mb : Nat} {sv : Value} {S : Nat → Prop} {l m : List Heap.Item} (h : HpO w hb pb mb sv S l m) : w.cell? ⟨hb, 0, none⟩ = some (.pointer (some ⟨pb, 0, none⟩)) ∧ w.frozen? ⟨hb, 0, none⟩ = false :=
  ⟨(blk_cell h.head 0).trans rfl, blk_frozen h.head 0⟩
set_option maxHeartbeats 8000000 in
set_option maxRecDepth 100000 in
theorem len18 (hb : Nat) (S : Nat → Prop) (m : List Heap.Item) (w : World) (h : Hp w hb S m) :
    Calls Try.prog 18 #[.pointer (some ⟨hb, 0, none⟩)] w fun e w' => e = .returned (.int .i64 m.length) ∧ w' = w := by
  obtain ⟨pb, mb, sv, l, h⟩ := h
  obtain ⟨h0, _⟩ := h.at_
  have hl := h.perm.length_eq
  obtain ⟨A, c, hsv⟩ := own_len h.pile.own
  have hh := h.pile.head
  rw [hsv, hl] at hh
  have HL := Aside0.mk (len26 pb mb A m.length c w hh)
  clear h hl hsv hh
  go_enter Try.func18, Try.ntmps18
  go_wp2_with fail
  refine HL.out.mono ?_
  rintro e w2 ⟨rfl, rfl⟩
  go_wp2_with fail
  go_ret
  exact ⟨rfl, rfl⟩
set_option maxHeartbeats 8000000 in
set_option maxRecDepth 100000 in
theorem len18_nil (w : World) : Calls Try.prog 18 #[.pointer none] w fun e w' => e = .returned (.int .i64 0) ∧ w' = w := by
  go_enter Try.func18, Try.ntmps18
  go_wp2
  go_ret
  exact ⟨rfl, rfl⟩
set_option maxHeartbeats 8000000 in
set_option maxRecDepth 100000 in
theorem next16_nil (w : World) : Calls Try.prog 16 #[.pointer none] w fun e w' => e = .returned (nextVal []) ∧ w' = w := by
  have HL := Aside0.mk (len18_nil w)
  go_enter Try.func16, Try.ntmps16
  go_wp2_with fail
  refine HL.out.mono ?_
  rintro e w2 ⟨rfl, rfl⟩
  go_wp2_with fail
  go_ret3
  exact ⟨rfl, rfl⟩
set_option maxHeartbeats 8000000 in
set_option maxRecDepth 100000 in
theorem next16 (hb : Nat) (S : Nat → Prop) (m : List Heap.Item) (w : World) (h : Hp w hb S m) :
    Calls Try.prog 16 #[.pointer (some ⟨hb, 0, none⟩)] w fun e w' => e = .returned (nextVal m) ∧ Below w.heap.size w w' := by
  have HL := Aside0.mk (len18 hb S m w h)
  by_cases c : m.length = 0
  · have hz := Aside0.mk (nextVal_none ((soonest_none m).2 (List.eq_nil_of_length_eq_zero c)))
    rw [c] at HL
    simp only [Int.natCast_zero] at HL
    clear h c
    go_enter Try.func16, Try.ntmps16
    go_wp2_with fail
    refine HL.out.mono ?_
    rintro e w2 ⟨rfl, rfl⟩
    go_wp2_with fail
    go_ret3
    exact ⟨by rw [hz.out]; rfl, Below.refl _ _⟩
  · have q0 : ((m.length : Int) == 0) = false := beq_eq_false_iff_ne.2 (by omega)
    have hsm := h.small
    obtain ⟨pb, mb, sv, l, h⟩ := h
    obtain ⟨h0, _⟩ := h.at_
    have hl := h.perm.length_eq
    obtain ⟨sb, cap, hsv, hp⟩ := h.pile.pile (by omega)
    obtain ⟨p0, _, _, _⟩ := hp.head.at_
    obtain ⟨a0, a1, _, _⟩ := hp.row.at_ 0 (by omega)
    have hz := Aside0.mk (nextVal_some ((soonest_perm h.perm).symm.trans (heap_least h.heap (by omega))))
    have q1 : (0 : Int) < (l.length : Int) := by omega
    have q2 : 0 < l.length := by omega
    generalize Heap.at_ l 0 = x at a0 a1 hz
    obtain ⟨xi, xa⟩ := x
    simp only [Nat.zero_mul, Nat.zero_add] at a0 a1 hz
    clear h hl hsv hp c
    go_enter Try.func16, Try.ntmps16
    go_wp2_with fail
    refine HL.out.mono ?_
    rintro e w2 ⟨rfl, rfl⟩
    go_wp2_with fail
    go_still (by kernel_rfl)
    go_wp2_with fail
    go_ret3
    exact ⟨by rw [hz.out]; rfl, below_drew1 (Below.refl _ _)⟩
end Go.Proofs.Ythjcdjanadeobaa.MH
