/- The reference's timers, what they hold; Drop, Set, Next, Due over that. -/
import Derived.Test.YthjcdjanadeobaaHRefSet
import Derived.Test.YthjcdjanadeobaaHDue
namespace Go.Proofs.Ythjcdjanadeobaa.MH
open Go.RowKit Go.Proofs.YthjcdjanadeobaaW.PrintWords Go.Proofs.YthjcdjanadeobaaW.PrintLast Go.Proofs.YthjcdjanadeobaaW.PrintMore Go.Proofs.Ythjcdjanadeobaa.Heap
set_option linter.unusedVariables false
set_option linter.unusedSimpArgs false

structure RfO (w : World) (rb : Nat) (R : Nat → Prop) (iv av : Value) (m0 m : List Heap.Item) : Prop where
  ref : RefO w rb iv av m0
  perm : m0.Perm m
  uniq : Uniq m
  s0 : R rb
  s1 : ∀ b, iv.ownBlock = some b → R b
  s2 : ∀ b, av.ownBlock = some b → R b
  lt : ∀ b, R b → b < w.heap.size
def Rf (w : World) (rb : Nat) (R : Nat → Prop) (m : List Heap.Item) : Prop := ∃ iv av m0, RfO w rb R iv av m0 m
theorem Rf.keep {w w' : World} {rb : Nat} {R S' : Nat → Prop} {m : List Heap.Item} (h : Rf w rb R m) (hf : Foot S' w w') (hd : ∀ b, b < w.heap.size → R b → ¬ S' b) : Rf w' rb R m := by
  obtain ⟨iv, av, m0, h⟩ := h
  exact ⟨iv, av, m0, h.ref.keep hf (hd _ (h.lt _ h.s0) h.s0) (fun b hb => hd _ (h.lt _ (h.s1 b hb)) (h.s1 b hb)) (fun b hb => hd _ (h.lt _ (h.s2 b hb)) (h.s2 b hb)), h.perm, h.uniq, h.s0, h.s1, h.s2, fun b hb => Nat.lt_of_lt_of_le (h.lt b hb) hf.2.2.2.1⟩
theorem Rf.still {w w' : World} {rb : Nat} {R : Nat → Prop} {m : List Heap.Item} (h : Rf w rb R m) (hb : Below w.heap.size w w') : Rf w' rb R m := h.keep (Foot.below (S := fun _ => False) hb) (fun _ _ _ h => h)
theorem Rf.small {w : World} {rb : Nat} {R : Nat → Prop} {m : List Heap.Item} (h : Rf w rb R m) : m.length ≤ 1000000000 := by
  obtain ⟨iv, av, m0, h⟩ := h
  have := h.ref.small
  have := h.perm.length_eq
  omega
theorem Rf.lt {w : World} {rb : Nat} {R : Nat → Prop} {m : List Heap.Item} (h : Rf w rb R m) : ∀ b, R b → b < w.heap.size := by
  obtain ⟨iv, av, m0, h⟩ := h
  exact h.lt
theorem Rf.uniq {w : World} {rb : Nat} {R : Nat → Prop} {m : List Heap.Item} (h : Rf w rb R m) : Uniq m := by
  obtain ⟨iv, av, m0, h⟩ := h
  exact h.uniq
theorem nextVal_perm {m m' : List Heap.Item} (h : m.Perm m') : nextVal m = nextVal m' := by
  unfold nextVal
  rw [soonest_perm h]
theorem rf_next {w : World} {rb : Nat} {R : Nat → Prop} {m : List Heap.Item} (h : Rf w rb R m) :
    Calls Try.prog 17 #[.pointer (some ⟨rb, 0, none⟩)] w fun e w' => e = .returned (nextVal m) ∧ Below w.heap.size w w' := by
  obtain ⟨iv, av, m0, h⟩ := h
  have := next17 rb iv av m0 w h.ref
  rwa [nextVal_perm h.perm] at this
theorem place_uniq {m : List Heap.Item} (u : Uniq m) (id : Int) : (has m id = false ∧ without m id = m ∧ ∀ k, Place m id k → k = -1) ∨ ∃ i : Nat, i < m.length ∧ has m id = true ∧ (m.eraseIdx i).Perm (without m id) ∧ ∀ k, Place m id k → k = (i : Int) := by
  by_cases c : ∃ i : Nat, i < m.length ∧ (at_ m i).1 = id
  · obtain ⟨i, hi, hid⟩ := c
    right
    refine ⟨i, hi, (has_iff m id).2 ⟨at_ m i, by rw [at_get m i hi]; exact List.getElem_mem hi, hid⟩, ?_, fun k hk => ?_⟩
    · have e1 : m.take i ++ (at_ m i :: m.drop (i + 1)) = m := by
        rw [at_get m i hi, List.getElem_cons_drop, List.take_append_drop]
      have h1 : (m.take i ++ m.drop (i + 1) ++ [at_ m i]).Perm m := by
        rw [List.append_assoc]
        refine (List.Perm.append_left _ List.perm_append_comm).trans ?_
        rw [List.singleton_append, e1]
      have := without_of_split u h1
      rw [hid] at this
      rw [List.eraseIdx_eq_take_drop_succ]
      exact this.symm
    · rcases hk with ⟨_, hno⟩ | ⟨j, hj, rfl, hjd⟩
      · exact absurd hid (hno i hi)
      · have := uniq_mem u (x := at_ m i) (y := at_ m j) (by rw [at_get m i hi]; exact List.getElem_mem hi) (by rw [at_get m j hj]; exact List.getElem_mem hj) (by rw [hid, hjd])
        rcases Nat.lt_trichotomy i j with h | h | h
        · exfalso
          have hn := u
          unfold Uniq at hn
          rw [List.nodup_iff_pairwise_ne, List.pairwise_iff_getElem] at hn
          have := hn i j (by simpa using hi) (by simpa using hj) h
          simp only [List.getElem_map] at this
          rw [← at_get m i hi, ← at_get m j hj, hid, hjd] at this
          exact this rfl
        · rw [h]
        · exfalso
          have hn := u
          unfold Uniq at hn
          rw [List.nodup_iff_pairwise_ne, List.pairwise_iff_getElem] at hn
          have := hn j i (by simpa using hj) (by simpa using hi) h
          simp only [List.getElem_map] at this
          rw [← at_get m i hi, ← at_get m j hj, hid, hjd] at this
          exact this rfl
  · left
    have hno : ∀ i, i < m.length → (at_ m i).1 ≠ id := fun i hi e => c ⟨i, hi, e⟩
    obtain ⟨a, b⟩ := has_none (List.Perm.refl m) hno
    refine ⟨a, b, fun k hk => ?_⟩
    rcases hk with ⟨h, _⟩ | ⟨j, hj, _, hjd⟩
    · exact h
    · exact absurd hjd (hno j hj)
/-- Drop, with its two ways as one. -/
theorem rf_drop {w : World} {rb : Nat} {R : Nat → Prop} {m : List Heap.Item} (h : Rf w rb R m) (id : Int) :
    Calls Try.prog 10 #[.pointer (some ⟨rb, 0, none⟩), .int .i64 id] w fun e w' => e = .returned (.bool (has m id)) ∧ ∃ R', Rf w' rb R' (without m id) ∧ Turn w w' R R' := by
  have hh := h
  obtain ⟨iv, av, m0, h⟩ := h
  have u0 : Uniq m0 := uniq_perm h.perm.symm h.uniq
  rcases place_uniq u0 id with ⟨a, b, c⟩ | ⟨i, hi, a, b, c⟩
  · refine (drop10_none rb iv av m0 w id h.ref c).mono ?_
    rintro e w' ⟨rfl, rfl⟩
    have q := has_perm h.perm id
    rw [a] at q
    refine ⟨by rw [← q], R, ⟨iv, av, m0, h.ref, ?_, uniq_without h.uniq id, h.s0, h.s1, h.s2, h.lt⟩, Turn.refl _ _⟩
    have := without_perm h.perm id
    rwa [b] at this
  · refine (drop10_there rb iv av m0 w id h.ref (by omega) i hi c).mono ?_
    rintro e w' ⟨rfl, iv', av', hr, n1, n2, hf⟩
    have q := has_perm h.perm id
    rw [a] at q
    refine ⟨by rw [← q], fun b => b = rb ∨ iv'.ownBlock = some b ∨ av'.ownBlock = some b, ⟨iv', av', _, hr, b.trans (without_perm h.perm id), uniq_without h.uniq id, .inl rfl, fun b hb => .inr (.inl hb), fun b hb => .inr (.inr hb), fun b hb => ?_⟩, fun b hb => ?_, hf.mono (fun b hb => hb ▸ h.s0)⟩
    · rcases hb with rfl | hb | hb
      · exact blk_lt hr.head
      · exact (hr.own1.lt b hb).2
      · exact (hr.own2.lt b hb).2
    · rcases hb with rfl | hb | hb
      · exact .inl h.s0
      · exact .inr (n1 b hb)
      · exact .inr (n2 b hb)
theorem rf_set {w : World} {rb : Nat} {R : Nat → Prop} {m : List Heap.Item} (h : Rf w rb R m) (id a : Int) (hs : m.length < 1000000000) :
    Calls Try.prog 15 #[.pointer (some ⟨rb, 0, none⟩), .int .i64 id, .int .u64 a] w fun e w' => e = .returned (.tuple #[]) ∧ ∃ R', Rf w' rb R' (without m id ++ [(id, a)]) ∧ Turn w w' R R' := by
  refine (set15_of rb w id a (fun w1 iv av m1 => ∃ R1, RfO w1 rb R1 iv av m1 (without m id) ∧ Turn w w1 R R1) ((rf_drop h id).mono ?_)).mono ?_
  · rintro e w1 ⟨rfl, R1, ⟨iv, av, m1, h1⟩, t1⟩
    refine ⟨_, rfl, iv, av, m1, h1.ref, ?_, R1, h1, t1⟩
    have := h1.perm.length_eq
    have := without_le m id
    omega
  · rintro e w' ⟨rfl, w1, iv, av, m1, iv', av', ⟨R1, h1, t1⟩, hr, hf, n1, n2⟩
    have ht : Turn w1 w' R1 (fun b => b = rb ∨ iv'.ownBlock = some b ∨ av'.ownBlock = some b) := by
      refine ⟨fun b hb => ?_, hf.mono (fun b hb => ?_)⟩
      · rcases hb with rfl | hb | hb
        · exact .inl h1.s0
        · rcases n1 with n1 | n1
          · exact .inl (h1.s1 b (n1 ▸ hb))
          · exact .inr (n1 b hb)
        · rcases n2 with n2 | n2
          · exact .inl (h1.s2 b (n2 ▸ hb))
          · exact .inr (n2 b hb)
      · rcases hb with rfl | hb | hb
        · exact h1.s0
        · exact h1.s1 b hb
        · exact h1.s2 b hb
    refine ⟨rfl, _, ⟨iv', av', _, hr, List.Perm.append_right _ h1.perm, uniq_set h.uniq id a, .inl rfl, fun b hb => .inr (.inl hb), fun b hb => .inr (.inr hb), fun b hb => ?_⟩, t1.trans ht⟩
    rcases hb with rfl | hb | hb
    · exact blk_lt hr.head
    · exact (hr.own1.lt b hb).2
    · exact (hr.own2.lt b hb).2
set_option maxHeartbeats 8000000 in
set_option maxRecDepth 100000 in
theorem due13 (rb : Nat) (R : Nat → Prop) (m : List Heap.Item) (now : Int) (w : World) (h : Rf w rb R m) :
    Calls Try.prog 13 #[.pointer (some ⟨rb, 0, none⟩), .int .u64 now] w fun e w' => ∃ v, e = .returned v ∧ w'.ownsRow w.heap.size 3 1 v (dueOf m.length m now).length (ints (dueOf m.length m now)) ∧ ∃ S', Rf w' rb S' (dueRest m.length m now) ∧ Turn w w' R S' ∧ (∀ b, v.ownBlock = some b → ¬ S' b) := by
  have hs := h.small
  have HS := Aside0.mk hs
  have H0 := Aside0.mk h
  clear h
  go_enter Try.func13, Try.ntmps13
  go_wp2
  go_loopg [5] m.length (fun gg s5 wr => ∃ (fu : Nat) (o : List Int) (m2 : List Heap.Item) (S2 : Nat → Prop) (v : Value), v = s5 ∧ fu ≤ gg ∧ m2.length ≤ fu ∧ o.length + m2.length ≤ m.length ∧ Aside0 (wr.ownsRow w.heap.size 3 1 v o.length (ints o)) ∧ Aside0 (dueOf m.length m now = o ++ dueOf fu m2 now ∧ dueRest m.length m now = dueRest fu m2 now) ∧ Aside0 (Rf wr rb S2 m2) ∧ Aside0 (Turn w wr R S2) ∧ Aside0 (∀ b, v.ownBlock = some b → ¬ S2 b))
  case atStart => exact ⟨m.length, [], m, R, .slice none 0 0, rfl, Nat.le_refl _, Nat.le_refl _, by simp, ⟨World.ownsRow_nil _ _ 3 1⟩, ⟨rfl, rfl⟩, H0, ⟨Turn.refl _ _⟩, ⟨fun b hb => by cases hb⟩⟩
  case round =>
    obtain ⟨fu, o, m2, S2, v, rfl, hgg, hfu, hlen, HO, HD, HH, HT, HN⟩ := hrel
    have HX := Aside0.mk (rf_next HH.out)
    cases hq : soonest m2 with
    | none =>
      have hz := nextVal_none hq
      rw [hz] at HX
      obtain ⟨d1, d2⟩ := dueOf_none (f := fu) (now := now) hq
      have HE : Aside0 (dueOf m.length m now = o ∧ dueRest m.length m now = m2) := ⟨by rw [HD.out.1, d1, List.append_nil], by rw [HD.out.2, d2]⟩
      clear hz hq d1 d2
      go_wp2_with fail
      refine HX.out.mono ?_
      rintro e w1 ⟨rfl, hbel⟩
      have HB := Aside0.mk hbel
      clear hbel
      go_wp2_with fail
      go_ret
      refine ⟨_, rfl, ?_, S2, ?_, HT.out.trans (Turn.below HB.out), HN.out⟩
      · rw [HE.out.1]
        exact ⟨HO.out.1, HO.out.2.imp id (fun ⟨g, cap, cur, e1, e2, e3, e4⟩ => ⟨g, cap, cur, e1, e2, (HB.out.block g (blk_lt e3)).trans e3, e4⟩)⟩
      · rw [HE.out.2]; exact HH.out.still HB.out
    | some x =>
      have hz := nextVal_some hq
      rw [hz] at HX
      by_cases c : now < x.2
      · obtain ⟨d1, d2⟩ := dueOf_stop (f := fu) hq c
        have HE : Aside0 (dueOf m.length m now = o ∧ dueRest m.length m now = m2) := ⟨by rw [HD.out.1, d1, List.append_nil], by rw [HD.out.2, d2]⟩
        have c1 : decide (x.2 > now) = true := decide_eq_true c
        clear hz hq d1 d2
        obtain ⟨xi, xa⟩ := x
        simp only at c c1 HX
        go_wp2_with fail
        refine HX.out.mono ?_
        rintro e w1 ⟨rfl, hbel⟩
        have HB := Aside0.mk hbel
        clear hbel
        go_wp2_with fail
        go_ret
        refine ⟨_, rfl, ?_, S2, ?_, HT.out.trans (Turn.below HB.out), HN.out⟩
        · rw [HE.out.1]
          exact ⟨HO.out.1, HO.out.2.imp id (fun ⟨g, cap, cur, e1, e2, e3, e4⟩ => ⟨g, cap, cur, e1, e2, (HB.out.block g (blk_lt e3)).trans e3, e4⟩)⟩
        · rw [HE.out.2]; exact HH.out.still HB.out
      · obtain ⟨fu', rfl⟩ : ∃ q, fu = q + 1 := ⟨fu - 1, by
          have : m2 ≠ [] := by rintro rfl; simp [soonest] at hq
          have := List.length_pos_iff.2 this
          omega⟩
        obtain ⟨d1, d2⟩ := dueOf_step (f := fu') hq c
        have hwl := without_length HH.out.uniq (soonest_spec m2 x hq).1
        have HE : Aside0 (dueOf m.length m now = (o ++ [x.1]) ++ dueOf fu' (without m2 x.1) now ∧ dueRest m.length m now = dueRest fu' (without m2 x.1) now) := ⟨by rw [HD.out.1, d1, List.append_assoc]; rfl, by rw [HD.out.2, d2]⟩
        have c1 : decide (x.2 > now) = false := decide_eq_false c
        have c2 : decide (now < x.2) = false := decide_eq_false c
        have hb1 : o.length + 1 ≤ Go.maxLen ∧ (o.length + 1) * 8 ≤ 140737488355328 := ⟨by unfold Go.maxLen; have := HS.out; omega, by have := HS.out; omega⟩
        have HB1 := Aside0.mk hb1
        have HW := Aside0.mk hwl
        clear hz hq d1 d2 hb1 hwl
        obtain ⟨xi, xa⟩ := x
        simp only at c c1 c2 HX HE HW
        go_wp2_with fail
        refine HX.out.mono ?_
        rintro e w1 ⟨rfl, hbel⟩
        have HDr := Aside0.mk (rf_drop (HH.out.still hbel) xi)
        have hown1 : Aside0 (w1.ownsRow w.heap.size 3 1 v o.length (ints o)) := ⟨⟨HO.out.1, HO.out.2.imp id (fun ⟨g, cap, cur, e1, e2, e3, e4⟩ => ⟨g, cap, cur, e1, e2, (hbel.block g (blk_lt e3)).trans e3, e4⟩)⟩⟩
        have HT1 := Aside0.mk (HT.out.trans (Turn.below (S := S2) hbel))
        clear hbel
        go_wp2_with fail
        refine HDr.out.mono ?_
        rintro e w2 ⟨rfl, S3, hr2, ht2⟩
        have hown2 : Aside0 (w2.ownsRow w.heap.size 3 1 v o.length (ints o)) := ⟨⟨hown1.out.1, hown1.out.2.imp id (fun ⟨g, cap, cur, e1, e2, e3, e4⟩ => ⟨g, cap, cur, e1, e2, ht2.foot.blk e3 (HN.out g (by rw [e1]; rfl)), e4⟩)⟩⟩
        have HN2 : Aside0 (∀ b, v.ownBlock = some b → ¬ S3 b) := ⟨fun b hb hs => by
          rcases ht2.new b hs with h | h
          · exact HN.out b hb h
          · have := (hown1.out.lt b hb).2
            omega⟩
        have HT2 := Aside0.mk (HT1.out.trans ht2)
        have HR2 := Aside0.mk hr2
        have hbase : Aside0 (∀ o', w.heap.size ≤ (w2.alloc o').heap.size) := ⟨fun o' => by
          have q1 := HT2.out.foot.2.2.2.1
          simp; omega⟩
        clear hr2 ht2
        go_wp2_with (at_builtin; refine wpList_append_own_at _ rfl (.tmp 26) (.tmp 28) 26 rfl w.heap.size 3 _ (.int .i64 0) 1 8 Try.underlying26 (by rfl) (by rfl) (by rfl) (by rfl) (by rfl) (by decide) _ o.length _ rfl (hown2.out.alloc _) ⟨w2.heap.size, 0, none⟩ 1 1 [.int .i64 xi] rfl rfl (cell_one_new _ _ _) (by intro u hu; simp only [List.mem_cons, List.mem_nil_iff, or_false] at hu; subst hu; rfl) HB1.out.1 HB1.out.2 (hbase.out _) ?_; intro v' w3 hown3 hgrow hnil hat; have HA := Aside0.mk (And.intro hown3 (And.intro hgrow hat)); clear hown3 hgrow hnil hat)
        obtain ⟨z1, hg, z3⟩ := HA.out
        have hlt3 := HR2.out.lt
        have q2 : Foot (fun b => v.ownBlock = some b) w2 w3 := (Foot.below (S := fun b => v.ownBlock = some b) (below_alloc (Below.refl _ w2) (.cells #[.int .i64 xi] 3))).trans ⟨hg.os, hg.tape, hg.output, hg.size, fun k hk hn => hg.block k hk (fun e => hn e.symm)⟩ (fun _ _ h => h)
        have HH3 : Aside0 (Rf w3 rb S3 (without m2 xi)) := ⟨HR2.out.keep q2 (fun b _ h1 h2 => HN2.out b h2 h1)⟩
        have HT3 : Aside0 (Turn w w3 R S3) := ⟨HT2.out.new, HT2.out.foot.trans q2 (fun b hlt hv => by
          have := (hown2.out.lt b hv).1
          omega)⟩
        have HO3 : Aside0 (w3.ownsRow w.heap.size 3 1 v' (o ++ [xi]).length (ints (o ++ [xi]))) := ⟨by
          rw [ints_append, List.length_append, List.length_singleton]; exact z1⟩
        have HN3 : Aside0 (∀ b, v'.ownBlock = some b → ¬ S3 b) := ⟨fun b hbv hs3 => by
          rcases z3 with z3 | z3
          · exact HN2.out b (z3 ▸ hbv) hs3
          · rw [z3] at hbv
            injection hbv with q
            have := hlt3 b hs3
            simp at q
            omega⟩
        have hl3 := HW.out
        clear z1 hg z3 q2
        go_roundg fu'
        case measure => omega
        case rel => exact ⟨fu', o ++ [xi], without m2 xi, S3, v', rfl, Nat.le_refl _, by omega, by rw [List.length_append, List.length_singleton]; omega, HO3, HE, HH3, HT3, HN3⟩
set_option maxHeartbeats 8000000 in
set_option maxRecDepth 100000 in
theorem due12_nil (now : Int) (w : World) : Calls Try.prog 12 #[.pointer none, .int .u64 now] w fun e w' => e = .returned (.slice none 0 0) ∧ w' = w := by
  have HX : ∀ w, Aside0 (Calls Try.prog 16 #[.pointer none] w fun e w' => e = .returned (nextVal []) ∧ w' = w) := fun w => ⟨next16_nil w⟩
  have hz : nextVal [] = .tuple #[.int .i64 0, .int .u64 0, .bool false] := rfl
  rw [hz] at HX
  go_enter Try.func12, Try.ntmps12
  go_wp2
  go_loopg [5] 0 (fun gg s5 wr => s5 = .slice none 0 0 ∧ wr = w)
  case atStart => exact ⟨rfl, rfl⟩
  case round =>
    obtain ⟨rfl, hw⟩ := hrel
    rw [hw]
    go_wp2_with fail
    refine (HX w).out.mono ?_
    rintro e w1 ⟨rfl, hw1⟩
    rw [hw1]
    go_wp2_with fail
    go_ret
    exact ⟨rfl, rfl⟩
end Go.Proofs.Ythjcdjanadeobaa.MH
