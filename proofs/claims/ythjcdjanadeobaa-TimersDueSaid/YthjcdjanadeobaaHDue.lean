/- timers.Heap's Due walked. -/
import Derived.Test.YthjcdjanadeobaaHSet
import Derived.Maps.AppendAt
namespace Go.Proofs.Ythjcdjanadeobaa.MH
open Go.RowKit Go.Proofs.YthjcdjanadeobaaW.PrintWords Go.Proofs.YthjcdjanadeobaaW.PrintLast Go.Proofs.YthjcdjanadeobaaW.PrintMore Go.Proofs.Ythjcdjanadeobaa.Heap
set_option linter.unusedVariables false
set_option linter.unusedSimpArgs false

def ints (o : List Int) : List Value := o.map (.int .i64 ·)
theorem ints_length (o : List Int) : (ints o).length = o.length := by simp [ints]
theorem ints_append (o p : List Int) : ints (o ++ p) = ints o ++ ints p := by simp [ints]
/-- heap.Pop at a heap that holds something: the first one goes. -/
theorem hp_pop {w : World} {hb : Nat} {S : Nat → Prop} {m : List Heap.Item} {x : Heap.Item} (h : Hp w hb S m) (hx : soonest m = some x) :
    ∃ pb, w.cell? ⟨hb, 0, none⟩ = some (.pointer (some ⟨pb, 0, none⟩)) ∧ Calls Try.prog 23 #[.iface 47 (.pointer (some ⟨pb, 0, none⟩))] w fun e w' => ∃ v, e = .returned v ∧ ∃ S', Hp w' hb S' (without m x.1) ∧ Turn w w' S S' := by
  obtain ⟨pb, mb, sv, l, h⟩ := h
  have h0l : 0 < l.length := by
    rw [h.perm.length_eq]
    cases m with
    | nil => simp [soonest] at hx
    | cons a m => simp
  have hlx : at_ l 0 = x := by
    have := (soonest_perm h.perm).symm.trans (heap_least h.heap h0l)
    rw [hx] at this
    injection this with this
    exact this.symm
  obtain ⟨sb, cap, hsv, hpl⟩ := h.pile.pile h0l
  have hsv' : sv.ownBlock = some sb := by rw [hsv]; rfl
  have hperm : (rest l 0).Perm (without m x.1) := by
    refine (rest_perm h.uniq.1 0 h0l h.heap).trans ?_
    rw [hlx]
    exact without_perm h.perm x.1
  refine ⟨pb, h.at_.1, (hpop23 pb mb sb cap l w hpl h0l).mono ?_⟩
  rintro e w' ⟨v, he, hp, hf⟩
  refine ⟨v, he, _, h.turn hp (rest_spec l 0 h0l h.heap).1 hperm (.inl hsv') (hf.mono (fun b hb => ?_))⟩
  rcases hb with rfl | rfl | rfl
  · exact .inl rfl
  · exact .inr (.inl rfl)
  · exact .inr (.inr hsv')
theorem u64_of {m : List Heap.Item} (h : ∀ x ∈ m, 0 ≤ x.2 ∧ x.2 < 18446744073709551616) {x : Heap.Item} (hx : soonest m = some x) : 0 ≤ x.2 ∧ x.2 < 18446744073709551616 := h x (soonest_spec m x hx).1
set_option maxHeartbeats 8000000 in
set_option maxRecDepth 100000 in
theorem due12 (hb : Nat) (S : Nat → Prop) (m : List Heap.Item) (now : Int) (w : World) (h : Hp w hb S m) :
    Calls Try.prog 12 #[.pointer (some ⟨hb, 0, none⟩), .int .u64 now] w fun e w' => ∃ v, e = .returned v ∧ w'.ownsRow w.heap.size 3 1 v (dueOf m.length m now).length (ints (dueOf m.length m now)) ∧ ∃ S', Hp w' hb S' (dueRest m.length m now) ∧ Turn w w' S S' ∧ (∀ b, v.ownBlock = some b → ¬ S' b) := by
  have hs := h.small
  have HS := Aside0.mk hs
  have H0 := Aside0.mk h
  have hSlt : ∀ b, b < w.heap.size ∨ w.heap.size ≤ b := fun b => Nat.lt_or_ge b _
  clear h hSlt
  go_enter Try.func12, Try.ntmps12
  go_wp2
  go_loopg [5] m.length (fun gg s5 wr => ∃ (fu : Nat) (o : List Int) (m2 : List Heap.Item) (S2 : Nat → Prop) (v : Value), v = s5 ∧ fu ≤ gg ∧ m2.length ≤ fu ∧ o.length + m2.length ≤ m.length ∧ Aside0 (wr.ownsRow w.heap.size 3 1 v o.length (ints o)) ∧ Aside0 (dueOf m.length m now = o ++ dueOf fu m2 now ∧ dueRest m.length m now = dueRest fu m2 now) ∧ Aside0 (Hp wr hb S2 m2) ∧ Aside0 (Turn w wr S S2) ∧ Aside0 (∀ b, v.ownBlock = some b → ¬ S2 b))
  case atStart => exact ⟨m.length, [], m, S, .slice none 0 0, rfl, Nat.le_refl _, Nat.le_refl _, by simp, ⟨World.ownsRow_nil _ _ 3 1⟩, ⟨rfl, rfl⟩, H0, ⟨Turn.refl _ _⟩, ⟨fun b hb => by cases hb⟩⟩
  case round =>
    obtain ⟨fu, o, m2, S2, v, rfl, hgg, hfu, hlen, HO, HD, HH, HT, HN⟩ := hrel
    have HX := Aside0.mk (next16 hb S2 m2 wr HH.out)
    cases hq : soonest m2 with
    | none =>
      have hz := nextVal_none hq
      rw [hz] at HX
      obtain ⟨d1, d2⟩ := dueOf_none (f := fu) (now := now) hq
      have HE : Aside0 (dueOf m.length m now = o ∧ dueRest m.length m now = m2) := ⟨by rw [HD.out.1, d1, List.append_nil], by rw [HD.out.2, d2]⟩
      clear hz hq d1 d2
      go_wp2_with fail
      refine HX.out.mono ?_
      rintro e w1 ⟨rfl, hbel⟩
      have HB := Aside0.mk hbel
      clear hbel
      go_wp2_with fail
      go_ret
      refine ⟨_, rfl, ?_, S2, ?_, HT.out.trans (Turn.below HB.out), HN.out⟩
      · rw [HE.out.1]
        exact ⟨HO.out.1, HO.out.2.imp id (fun ⟨g, cap, cur, e1, e2, e3, e4⟩ => ⟨g, cap, cur, e1, e2, (HB.out.block g (blk_lt e3)).trans e3, e4⟩)⟩
      · rw [HE.out.2]; exact HH.out.still HB.out
    | some x =>
      have hz := nextVal_some hq
      rw [hz] at HX
      by_cases c : now < x.2
      · obtain ⟨d1, d2⟩ := dueOf_stop (f := fu) hq c
        have HE : Aside0 (dueOf m.length m now = o ∧ dueRest m.length m now = m2) := ⟨by rw [HD.out.1, d1, List.append_nil], by rw [HD.out.2, d2]⟩
        have c1 : decide (x.2 > now) = true := decide_eq_true c
        clear hz hq d1 d2
        obtain ⟨xi, xa⟩ := x
        simp only at c c1 HX
        go_wp2_with fail
        refine HX.out.mono ?_
        rintro e w1 ⟨rfl, hbel⟩
        have HB := Aside0.mk hbel
        clear hbel
        go_wp2_with fail
        go_ret
        refine ⟨_, rfl, ?_, S2, ?_, HT.out.trans (Turn.below HB.out), HN.out⟩
        · rw [HE.out.1]
          exact ⟨HO.out.1, HO.out.2.imp id (fun ⟨g, cap, cur, e1, e2, e3, e4⟩ => ⟨g, cap, cur, e1, e2, (HB.out.block g (blk_lt e3)).trans e3, e4⟩)⟩
        · rw [HE.out.2]; exact HH.out.still HB.out
      · obtain ⟨fu', rfl⟩ : ∃ q, fu = q + 1 := ⟨fu - 1, by
          have : m2 ≠ [] := by rintro rfl; simp [soonest] at hq
          have := List.length_pos_iff.2 this
          omega⟩
        obtain ⟨d1, d2⟩ := dueOf_step (f := fu') hq c
        have hwl := without_length HH.out.uniq (soonest_spec m2 x hq).1
        have HE : Aside0 (dueOf m.length m now = (o ++ [x.1]) ++ dueOf fu' (without m2 x.1) now ∧ dueRest m.length m now = dueRest fu' (without m2 x.1) now) := ⟨by rw [HD.out.1, d1, List.append_assoc]; rfl, by rw [HD.out.2, d2]⟩
        have c1 : decide (x.2 > now) = false := decide_eq_false c
        have c2 : decide (now < x.2) = false := decide_eq_false c
        have HQ := Aside0.mk hq
        have hb1 : o.length + 1 ≤ Go.maxLen ∧ (o.length + 1) * 8 ≤ 140737488355328 := ⟨by unfold Go.maxLen; have := HS.out; omega, by have := HS.out; omega⟩
        have HB1 := Aside0.mk hb1
        have HW := Aside0.mk hwl
        clear hz hq d1 d2 hb1 hwl
        obtain ⟨xi, xa⟩ := x
        simp only at c c1 c2 HX HE HW
        go_wp2_with fail
        refine HX.out.mono ?_
        rintro e w1 ⟨rfl, hbel⟩
        have HB := Aside0.mk hbel
        have hown1 : Aside0 (w1.ownsRow w.heap.size 3 1 v o.length (ints o)) := ⟨⟨HO.out.1, HO.out.2.imp id (fun ⟨g, cap, cur, e1, e2, e3, e4⟩ => ⟨g, cap, cur, e1, e2, (hbel.block g (blk_lt e3)).trans e3, e4⟩)⟩⟩
        have hbase : Aside0 (∀ o', w.heap.size ≤ (w1.alloc o').heap.size) := ⟨fun o' => by
          have q1 := HT.out.foot.2.2.2.1
          have q2 := hbel.size
          simp; omega⟩
        have HK : Aside0 (∀ w2, (w1.alloc (.cells #[.int .i64 xi] 3)).grownBy w2 v.ownBlock → Hp w2 hb S2 m2 ∧ Turn w w2 S S2 ∧ w.heap.size ≤ w1.heap.size ∧ ∀ b, S2 b → b < w1.heap.size) := ⟨fun w2 hg => by
          have q1 : Below wr.heap.size wr (w1.alloc (.cells #[.int .i64 xi] 3)) := below_alloc hbel _
          have q2 : Foot (fun b => v.ownBlock = some b) (w1.alloc (.cells #[.int .i64 xi] 3)) w2 := ⟨hg.os, hg.tape, hg.output, hg.size, fun k hk hn => hg.block k hk (fun e => hn e.symm)⟩
          have q3 : Foot (fun b => v.ownBlock = some b) wr w2 := (Foot.below (S := fun b => v.ownBlock = some b) q1).trans q2 (fun _ _ h => h)
          have hnot := HN.out
          have hts := HT.out.foot.2.2.2.1
          refine ⟨HH.out.keep q3 (fun b _ h1 h2 => hnot b h2 h1), ⟨HT.out.new, HT.out.foot.trans q3 (fun b hlt hv => ?_)⟩, Nat.le_trans hts hbel.size, fun b hb => Nat.lt_of_lt_of_le (HH.out.lt b hb) hbel.size⟩
          have := (HO.out.lt b hv).1
          omega⟩
        clear hbel
        go_wp2_with (at_builtin; refine wpList_append_own_at _ rfl (.tmp 23) (.tmp 25) 26 rfl w.heap.size 3 _ (.int .i64 0) 1 8 Try.underlying26 (by rfl) (by rfl) (by rfl) (by rfl) (by rfl) (by decide) _ o.length _ rfl (hown1.out.alloc _) ⟨w1.heap.size, 0, none⟩ 1 1 [.int .i64 xi] rfl rfl (cell_one_new _ _ _) (by intro u hu; simp only [List.mem_cons, List.mem_nil_iff, or_false] at hu; subst hu; rfl) HB1.out.1 HB1.out.2 (hbase.out _) ?_; intro v' w2 hown2 hgrow hnil hat; obtain ⟨hk1, hk2, hk3, hk4⟩ := HK.out w2 hgrow; obtain ⟨pb, k0, hpop⟩ := hp_pop hk1 HQ.out; have HPop := Aside0.mk hpop; have HA := Aside0.mk (And.intro hown2 (And.intro hgrow (And.intro hat (And.intro hk2 (And.intro hk3 hk4))))); clear hpop hk1 hk2 hk3 hk4 hown2 hgrow hnil hat)
        refine HPop.out.mono ?_
        rintro e w3 ⟨v3, rfl, S3, hp3, ht3⟩
        have HC := Aside0.mk (And.intro hp3 ht3)
        clear hp3 ht3
        go_wp2_with fail
        obtain ⟨z1, z2, z3, z4, z5, z6⟩ := HA.out
        obtain ⟨y1, y2⟩ := HC.out
        have hv2 : ∀ b, v'.ownBlock = some b → ¬ S2 b ∧ b < w2.heap.size := fun b hbv => by
          refine ⟨fun hs2 => ?_, (z1.lt b hbv).2⟩
          rcases z3 with z3 | z3
          · exact HN.out b (z3 ▸ hbv) hs2
          · have q : b = (w1.alloc (.cells #[.int .i64 xi] 3)).heap.size := by
              rw [hbv] at z3; injection z3
            have := z6 b hs2
            simp at q
            omega
        have hown3 : w3.ownsRow w.heap.size 3 1 v' (o.length + 1) (ints o ++ [.int .i64 xi]) := by
          refine ⟨z1.1, ?_⟩
          rcases z1.2 with h2 | ⟨g, cap, cur, e1, e2, e3, e4⟩
          · exact .inl h2
          · exact .inr ⟨g, cap, cur, e1, e2, y2.foot.blk e3 (hv2 g (by rw [e1]; rfl)).1, e4⟩
        have HO3 : Aside0 (w3.ownsRow w.heap.size 3 1 v' (o ++ [xi]).length (ints (o ++ [xi]))) := ⟨by
          rw [ints_append, List.length_append, List.length_singleton]; exact hown3⟩
        have HT3 := Aside0.mk (z4.trans y2)
        have HN3 : Aside0 (∀ b, v'.ownBlock = some b → ¬ S3 b) := ⟨fun b hbv hs3 => by
          rcases y2.new b hs3 with h | h
          · exact (hv2 b hbv).1 h
          · have := (hv2 b hbv).2
            omega⟩
        have HH3 := Aside0.mk y1
        have hl3 := HW.out
        go_roundg fu'
        case measure => omega
        case rel => exact ⟨fu', o ++ [xi], without m2 xi, S3, v', rfl, Nat.le_refl _, by omega, by rw [List.length_append, List.length_singleton]; omega, HO3, HE, HH3, HT3, HN3⟩
end Go.Proofs.Ythjcdjanadeobaa.MH
