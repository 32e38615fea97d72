/- timers.Heap's Set and Drop walked. -/
import Derived.Test.YthjcdjanadeobaaHFns
namespace Go.Proofs.Ythjcdjanadeobaa.MH
open Go.RowKit Go.Proofs.YthjcdjanadeobaaW.PrintWords Go.Proofs.YthjcdjanadeobaaW.PrintLast Go.Proofs.YthjcdjanadeobaaW.PrintMore Go.Proofs.Ythjcdjanadeobaa.Heap
set_option linter.unusedVariables false
set_option linter.unusedSimpArgs false

theorem pile_set {w : World} {pb mb sb cap : Nat} {l : List Heap.Item} (h : Pile w pb mb sb cap l) (i : Nat) (hi : i < l.length) (a : Int) :
    Pile (w.setCell ⟨sb, i * 2 + 1, none⟩ (.int .u64 a)) pb mb sb cap (l.set i ((at_ l i).1, a)) ∧ Foot (fun b => b = sb) w (w.setCell ⟨sb, i * 2 + 1, none⟩ (.int .u64 a)) := by
  have hF : Foot (fun b => b = sb) w (w.setCell ⟨sb, i * 2 + 1, none⟩ (.int .u64 a)) :=
    ⟨rfl, rfl, rfl, by simp [World.setCell], fun b hb hn => Below.heap_setCell _ _ _ _ hn⟩
  obtain ⟨hd, ⟨cur, x, b, c, d, e⟩, ⟨f, ⟨es, cl, m, y⟩, p⟩, n1, n2, n3⟩ := h
  refine ⟨⟨by rw [List.length_set]; exact hF.blk hd n1, ⟨_, blk_set x _ _, by rw [List.length_set]; exact b, by rw [List.length_set]; exact c, by rw [Array.size_setIfInBounds]; exact d, fun j hj => ?_⟩, ⟨f, ⟨es, cl, hF.blk m n2, y⟩, fun id v => ?_⟩, n1, n2, n3⟩, hF⟩
  · rw [List.length_set] at hj
    obtain ⟨e1, e2⟩ := e j hj
    rw [at_set _ _ _ _ hi]
    simp only [Array.getElem?_setIfInBounds]
    by_cases cj : j = i
    · subst cj
      rw [if_pos rfl, if_neg (by omega), if_pos rfl, if_pos (by omega)]
      exact ⟨e1, rfl⟩
    · rw [if_neg cj, if_neg (by omega), if_neg (by omega)]
      exact ⟨e1, e2⟩
  · rw [p id v]
    constructor
    · rintro ⟨j, hj, rfl, hid⟩
      refine ⟨j, by rw [List.length_set]; exact hj, rfl, ?_⟩
      rw [at_set _ _ _ _ hi]
      by_cases cj : j = i
      · subst cj; rw [if_pos rfl]; exact hid
      · rw [if_neg cj]; exact hid
    · rintro ⟨j, hj, rfl, hid⟩
      rw [List.length_set] at hj
      refine ⟨j, hj, rfl, ?_⟩
      rw [at_set _ _ _ _ hi] at hid
      by_cases cj : j = i
      · subst cj; rw [if_pos rfl] at hid; exact hid
      · rw [if_neg cj] at hid; exact hid
/-- A heap behind its pile's turn. -/
theorem HpO.turn {w w' : World} {hb pb mb sb cap : Nat} {sv : Value} {S : Nat → Prop} {l m l' m' : List Heap.Item} (h : HpO w hb pb mb sv S l m) (hp : Pile w' pb mb sb cap l') (hh : IsHeap l' l'.length) (hm : l'.Perm m') (hs : sv.ownBlock = some sb ∨ w.heap.size ≤ sb) (hf : Foot (fun b => b = pb ∨ b = mb ∨ sv.ownBlock = some b) w w') :
    Hp w' hb (fun b => S b ∨ b = sb) m' ∧ Turn w w' S (fun b => S b ∨ b = sb) := by
  have hlt : hb < w.heap.size := blk_lt h.head
  refine ⟨⟨pb, mb, _, l', hf.blk h.head (fun hx => ?_), hp.o, hh, hm, .inl h.s0, .inl h.s1, .inl h.s2, fun b hb' => .inr ?_, h.n1, h.n2, fun e => ?_, fun b hb' => ?_⟩, fun b hb' => ?_, hf.mono (fun b hx => ?_)⟩
  · rcases hx with hx | hx | hx
    · exact h.n1 hx
    · exact h.n2 hx
    · exact h.n3 hx
  · injection hb' with e; exact e.symm
  · injection e with e
    simp only at e
    rcases hs with hs | hs
    · rw [e] at hs; exact h.n3 hs
    · omega
  · rcases hb' with hb' | rfl
    · exact Nat.lt_of_lt_of_le (h.lt b hb') hf.2.2.2.1
    · obtain ⟨cur, x, _⟩ := hp.row
      exact blk_lt x
  · rcases hb' with hb' | rfl
    · exact .inl hb'
    · rcases hs with hs | hs
      · exact .inl (h.s3 _ hs)
      · exact .inr hs
  · rcases hx with rfl | rfl | hx
    · exact h.s1
    · exact h.s2
    · exact h.s3 _ hx
theorem place_of {f : Int → Option Int} {l : List Heap.Item} (h : Pl f l) (id : Int) : (f id = none ∧ ∀ i, i < l.length → (at_ l i).1 ≠ id) ∨ ∃ i : Nat, i < l.length ∧ f id = some (i : Int) ∧ (at_ l i).1 = id := by
  cases hq : f id with
  | none => exact .inl ⟨rfl, fun i hi e => by have := h.here i hi; rw [e, hq] at this; cases this⟩
  | some v =>
    obtain ⟨i, hi, rfl, e⟩ := (h id v).1 hq
    exact .inr ⟨i, hi, rfl, e⟩
theorem PileO.head_at {w : World} {pb mb : Nat} {sv : Value} {l : List Heap.Item} (h : PileO w pb mb sv l) : w.cell? ⟨pb, 0, none⟩ = some sv ∧ w.cell? ⟨pb, 1, none⟩ = some (.map (some mb)) := ⟨h.head.at_.1, h.head.at_.2.1⟩
set_option maxHeartbeats 8000000 in
set_option maxRecDepth 100000 in
theorem set14 (hb : Nat) (S : Nat → Prop) (m : List Heap.Item) (w : World) (id a : Int) (h : Hp w hb S m) (hwf : (Lit.int .i64 id).wf = true) (hs : m.length < 1000000000) :
    Calls Try.prog 14 #[.pointer (some ⟨hb, 0, none⟩), .int .i64 id, .int .u64 a] w fun e w' => e = .returned (.tuple #[]) ∧ ∃ S', Hp w' hb S' (without m id ++ [(id, a)]) ∧ Turn w w' S S' := by
  obtain ⟨pb, mb, sv, l, h⟩ := h
  obtain ⟨h0, _⟩ := h.at_
  obtain ⟨p0, p1⟩ := h.pile.head_at
  obtain ⟨f, hm, hp⟩ := h.pile.map
  have hl := h.perm.length_eq
  have E1 := hm.look hwf
  have hu := h.uniq.1
  rcases place_of hp id with ⟨hf, hno⟩ | ⟨i, hi, hf, hid⟩
  · rw [hf] at E1
    simp only [Option.getD_none, Option.isSome_none] at E1
    have HP := Aside0.mk (hpush24 pb mb sv l w id a h.pile hwf hno (by omega))
    have hperm : (push l (id, a)).Perm (without m id ++ [(id, a)]) := by
      refine (push_spec l (id, a) h.heap).2.trans (List.Perm.append_right _ ?_)
      have e : without l id = l := without_none (fun x hx => by
        obtain ⟨j, hj, rfl⟩ := List.getElem_of_mem hx
        rw [← at_get l j hj]; exact hno j hj)
      exact (e ▸ without_perm h.perm id)
    have hheap : IsHeap (push l (id, a)) (push l (id, a)).length := by
      have := push_spec l (id, a) h.heap
      have hlen := this.2.length_eq
      rw [List.length_append, List.length_singleton] at hlen
      rw [hlen]; exact this.1
    have HZ := Aside0.mk (And.intro h (And.intro hperm hheap))
    clear h hm hp hl hu hf hno hperm hheap hs
    go_enter Try.func14, Try.ntmps14
    go_wp2_with fail
    refine HP.out.mono ?_
    rintro e w1 ⟨rfl, sb, cap, hp, ho, hf⟩
    have HY := Aside0.mk (And.intro hp (And.intro ho hf))
    clear hp ho hf
    go_wp2_with fail
    (try simp only [Exit.inBlock, Exit.then])
    refine bodyPost_ret (results_none rfl _ _ _) rfl ?_
    obtain ⟨hp, ho, hf⟩ := HY.out
    obtain ⟨z1, z2, z3⟩ := HZ.out
    exact ⟨rfl, _, z1.turn hp z3 z2 ho hf⟩
  · rw [hf] at E1
    simp only [Option.getD_some, Option.isSome_some] at E1
    obtain ⟨sb, cap, hsv, hpl⟩ := h.pile.pile (by omega)
    obtain ⟨_, a1, _, f1⟩ := hpl.row.at_ i hi
    obtain ⟨hps, hfs⟩ := pile_set hpl i hi a
    rw [hid] at hps
    have hperm : (Heap.fix l i (id, a)).Perm (without m id ++ [(id, a)]) := by
      refine (fix_spec l i (id, a) hi h.heap).2.trans ((set_perm hu i hi (id, a)).trans (List.Perm.append_right _ ?_))
      rw [hid]
      exact without_perm h.perm id
    have hheap : IsHeap (Heap.fix l i (id, a)) (Heap.fix l i (id, a)).length := by
      have := fix_spec l i (id, a) hi h.heap
      have hlen := this.2.length_eq
      rw [List.length_set] at hlen
      rw [hlen]; exact this.1
    obtain ⟨w1, hw1⟩ : ∃ w1, w1 = w.setCell ⟨sb, i * 2 + 1, none⟩ (.int .u64 a) := ⟨_, rfl⟩
    rw [← hw1] at hps hfs
    have HF := Aside0.mk (fix25 pb mb sb cap i (l.set i (id, a)) w1 hps (by rw [List.length_set]; exact hi))
    rw [List.length_set] at HF
    have q1 : (i : Int) < (l.length : Int) := by omega
    have k0 : w1.cell? ⟨hb, 0, none⟩ = some (.pointer (some ⟨pb, 0, none⟩)) := (blk_cell (hfs.blk h.head (fun e => h.n3 (by rw [hsv, e]; rfl))) 0).trans rfl
    have hsv' : sv.ownBlock = some sb := by rw [hsv]; rfl
    rw [hsv] at p0
    have HZ := Aside0.mk (And.intro h (And.intro hperm (And.intro hheap (And.intro hfs hsv'))))
    have HK := Aside0.mk k0
    have n1 : sb ≠ hb := fun e => h.n3 (by rw [hsv, e]; rfl)
    clear h hm hp hl hu hf hid hperm hheap hs hpl hps hfs hsv hsv' k0
    go_enter Try.func14, Try.ntmps14
    go_wp2_with fail
    rw [← hw1]
    refine HF.out.mono ?_
    rintro e w2 ⟨rfl, hp, hf⟩
    have HY := Aside0.mk (And.intro hp hf)
    clear hp hf
    go_wp2_with fail
    go_end0
    obtain ⟨hp, hf⟩ := HY.out
    obtain ⟨z1, z2, z3, z4, z5⟩ := HZ.out
    refine ⟨rfl, _, z1.turn hp z3 z2 (.inl z5) ((z4.mono (fun b hb => ?_)).trans hf (fun b _ hb => ?_))⟩
    · rw [hb]; exact .inr (.inr z5)
    · rcases hb with rfl | rfl
      · exact .inr (.inr z5)
      · exact .inr (.inl rfl)
set_option maxHeartbeats 8000000 in
set_option maxRecDepth 100000 in
theorem set14_nil (w : World) (id a : Int) : Calls Try.prog 14 #[.pointer none, .int .i64 id, .int .u64 a] w fun e w' => e = .returned (.tuple #[]) ∧ w' = w := by
  go_enter Try.func14, Try.ntmps14
  go_wp2
  (try simp only [Exit.inBlock, Exit.then])
  refine bodyPost_ret (results_none rfl _ _ _) rfl ?_
  exact ⟨rfl, rfl⟩
theorem has_none {l m : List Heap.Item} (h : l.Perm m) {id : Int} (hno : ∀ i, i < l.length → (at_ l i).1 ≠ id) : has m id = false ∧ (without m id) = m := by
  have e : ∀ x ∈ m, x.1 ≠ id := fun x hx => by
    obtain ⟨j, hj, rfl⟩ := List.getElem_of_mem (h.mem_iff.2 hx)
    rw [← at_get l j hj]; exact hno j hj
  refine ⟨?_, without_none e⟩
  cases hh : has m id with
  | false => rfl
  | true =>
    obtain ⟨x, hx, hi⟩ := (has_iff m id).1 hh
    exact absurd hi (e x hx)
set_option maxHeartbeats 8000000 in
set_option maxRecDepth 100000 in
theorem drop9 (hb : Nat) (S : Nat → Prop) (m : List Heap.Item) (w : World) (id : Int) (h : Hp w hb S m) (hwf : (Lit.int .i64 id).wf = true) :
    Calls Try.prog 9 #[.pointer (some ⟨hb, 0, none⟩), .int .i64 id] w fun e w' => e = .returned (.bool (has m id)) ∧ ∃ S', Hp w' hb S' (without m id) ∧ Turn w w' S S' := by
  have HH := Aside0.mk h
  obtain ⟨pb, mb, sv, l, h⟩ := h
  obtain ⟨h0, _⟩ := h.at_
  obtain ⟨p0, p1⟩ := h.pile.head_at
  obtain ⟨f, hm, hp⟩ := h.pile.map
  have E1 := hm.look hwf
  have hu := h.uniq.1
  rcases place_of hp id with ⟨hf, hno⟩ | ⟨i, hi, hf, hid⟩
  · rw [hf] at E1
    simp only [Option.getD_none, Option.isSome_none] at E1
    obtain ⟨q1, q2⟩ := has_none h.perm hno
    rw [q1, q2]
    clear h hm hp hu hf hno
    go_enter Try.func9, Try.ntmps9
    go_wp2_with fail
    go_ret
    exact ⟨rfl, S, HH.out, Turn.refl _ _⟩
  · rw [hf] at E1
    simp only [Option.getD_some, Option.isSome_some] at E1
    obtain ⟨sb, cap, hsv, hpl⟩ := h.pile.pile (by omega)
    have hhas : has m id = true := (has_iff m id).2 ⟨at_ l i, h.perm.mem_iff.1 (by rw [at_get l i hi]; exact List.getElem_mem hi), hid⟩
    have hperm : (rest l i).Perm (without m id) := by
      refine (rest_perm hu i hi h.heap).trans ?_
      rw [hid]
      exact without_perm h.perm id
    have hheap := (rest_spec l i hi h.heap).1
    have HR := Aside0.mk (hremove19 pb mb sb cap i l w hpl hi)
    have hsv' : sv.ownBlock = some sb := by rw [hsv]; rfl
    have HZ := Aside0.mk (And.intro h (And.intro hperm (And.intro hheap hsv')))
    rw [hhas]
    clear h hm hp hu hf hid hperm hheap hpl hsv hsv' hhas HH
    go_enter Try.func9, Try.ntmps9
    go_wp2_with fail
    refine HR.out.mono ?_
    rintro e w2 ⟨v, rfl, hp, hf⟩
    have HY := Aside0.mk (And.intro hp hf)
    clear hp hf
    go_wp2_with fail
    go_ret
    obtain ⟨hp, hf⟩ := HY.out
    obtain ⟨z1, z2, z3, z4⟩ := HZ.out
    refine ⟨rfl, _, z1.turn hp z3 z2 (.inl z4) (hf.mono (fun b hb => ?_))⟩
    rcases hb with rfl | rfl | rfl
    · exact .inl rfl
    · exact .inr (.inl rfl)
    · exact .inr (.inr z4)
set_option maxHeartbeats 8000000 in
set_option maxRecDepth 100000 in
theorem drop9_nil (w : World) (id : Int) : Calls Try.prog 9 #[.pointer none, .int .i64 id] w fun e w' => e = .returned (.bool false) ∧ w' = w := by
  go_enter Try.func9, Try.ntmps9
  go_wp2
  go_ret
  exact ⟨rfl, rfl⟩
set_option maxHeartbeats 8000000 in
set_option maxRecDepth 100000 in
theorem new7 (w : World) : Calls Try.prog 7 #[] w fun e w' => ∃ hb, e = .returned (.pointer (some ⟨hb, 0, none⟩)) ∧ Hp w' hb (fun b => w.heap.size ≤ b ∧ b < w'.heap.size) [] ∧ Foot (fun _ => False) w w' := by
  have E : (Instr.makeMap 48 none).run Try.prog w = .ok (.map (some w.heap.size)) (w.alloc (.map #[] 0)) := rfl
  go_enter Try.func7, Try.ntmps7
  go_wp2
  go_ret
  obtain ⟨n, hn⟩ : ∃ n, n = w.heap.size := ⟨_, rfl⟩
  have e1 : (w.alloc (.map #[] 0)).heap.size = n + 1 := by simp [hn]
  have e2 : ((w.alloc (.map #[] 0)).alloc (.cells #[.slice none 0 0, .map (some n)] 51)).heap.size = n + 1 + 1 := by simp [hn]
  have hmap : (((w.alloc (.map #[] 0)).alloc (.cells #[.slice none 0 0, .map (some n)] 51)).alloc (.cells #[.pointer (some ⟨n + 1, 0, none⟩)] 53)).heap[n]? = some (.map #[] 0) := by
    rw [hn]; exact blk_alloc (blk_alloc (blk_new w _) _) _
  have hpil : (((w.alloc (.map #[] 0)).alloc (.cells #[.slice none 0 0, .map (some n)] 51)).alloc (.cells #[.pointer (some ⟨n + 1, 0, none⟩)] 53)).heap[n + 1]? = some (.cells #[.slice none 0 0, .map (some n)] 51 (0, 0)) := by
    have := blk_new (w.alloc (.map #[] 0)) (.cells #[.slice none 0 0, .map (some n)] 51)
    rw [e1] at this
    exact blk_alloc this _
  have hhd : (((w.alloc (.map #[] 0)).alloc (.cells #[.slice none 0 0, .map (some n)] 51)).alloc (.cells #[.pointer (some ⟨n + 1, 0, none⟩)] 53)).heap[n + 1 + 1]? = some (.cells #[.pointer (some ⟨n + 1, 0, none⟩)] 53 (0, 0)) := by
    have := blk_new ((w.alloc (.map #[] 0)).alloc (.cells #[.slice none 0 0, .map (some n)] 51)) (.cells #[.pointer (some ⟨n + 1, 0, none⟩)] 53)
    rw [e2] at this
    exact this
  have hf : Foot (fun _ => False) w (((w.alloc (.map #[] 0)).alloc (.cells #[.slice none 0 0, .map (some n)] 51)).alloc (.cells #[.pointer (some ⟨n + 1, 0, none⟩)] 53)) := Foot.below (below_alloc (below_alloc (below_alloc (Below.refl _ w) _) _) _)
  rw [← hn]
  refine ⟨n + 1 + 1, rfl, ⟨n + 1, n, .slice none 0 0, [], hhd, ⟨hpil, World.ownsRow_nil _ 0 62 2, by simp, ⟨fun _ => none, ⟨_, _, hmap, ?_⟩, ?_⟩, by simp [Value.ownBlock], by simp [Value.ownBlock], by omega⟩, ?_, List.Perm.refl _, ⟨by omega, blk_lt hhd⟩, ⟨by omega, blk_lt hpil⟩, ⟨by omega, blk_lt hmap⟩, by simp [Value.ownBlock], by omega, by omega, by simp [Value.ownBlock], fun b hb => hb.2⟩, hf⟩
  · exact ⟨by simp, by simp, by simp, by simp, by simp⟩
  · intro id v
    simp
  · intro k h0 hk
    simp at hk
end Go.Proofs.Ythjcdjanadeobaa.MH
