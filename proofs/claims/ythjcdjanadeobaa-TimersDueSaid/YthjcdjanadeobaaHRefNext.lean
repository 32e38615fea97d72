/- The reference's Next walked: the first one by when, then by id. -/
import Derived.Test.YthjcdjanadeobaaHRef
import Derived.BigRegion
namespace Go.Proofs.Ythjcdjanadeobaa.MH
open Go.RowKit Go.Proofs.YthjcdjanadeobaaW.PrintWords Go.Proofs.YthjcdjanadeobaaW.PrintLast Go.Proofs.YthjcdjanadeobaaW.PrintMore Go.Proofs.Ythjcdjanadeobaa.Heap
set_option linter.unusedVariables false
set_option linter.unusedSimpArgs false

theorem own_below {w w' : World} {e : TypeId} {sv : Value} {n s : Nat} {xs : List Value} {S : Nat → Prop} (h : w.ownsRow 0 e s sv n xs) (hf : Foot S w w') (hS : ∀ b, sv.ownBlock = some b → ¬ S b) : w'.ownsRow 0 e s sv n xs := by
  refine ⟨h.1, ?_⟩
  rcases h.2 with h2 | ⟨g, cap, cur, rfl, hb, hg, r⟩
  · exact .inl h2
  · exact .inr ⟨g, cap, cur, rfl, hb, hf.blk hg (hS g rfl), r⟩
theorem RefO.keep {w w' : World} {rb : Nat} {iv av : Value} {m : List Heap.Item} {S : Nat → Prop} (h : RefO w rb iv av m) (hf : Foot S w w') (h1 : ¬ S rb) (h2 : ∀ b, iv.ownBlock = some b → ¬ S b) (h3 : ∀ b, av.ownBlock = some b → ¬ S b) : RefO w' rb iv av m :=
  ⟨hf.blk h.head h1, own_below h.own1 hf h2, own_below h.own2 hf h3, h.small, h.n1, h.n2, h.n3⟩
theorem RefO.still {w w' : World} {rb : Nat} {iv av : Value} {m : List Heap.Item} (h : RefO w rb iv av m) (hb : Below w.heap.size w w') : RefO w' rb iv av m :=
  h.keep (Foot.below (S := fun _ => False) hb) (fun h => h) (fun _ _ h => h) (fun _ _ h => h)
theorem RefO.pair {w : World} {rb : Nat} {iv av : Value} {m : List Heap.Item} (h : RefO w rb iv av m) {i : Nat} (hi : i < m.length) : ∃ g c g' c', iv = .slice (some ⟨g, 0, none⟩) m.length c ∧ av = .slice (some ⟨g', 0, none⟩) m.length c' ∧ ∀ i, i < m.length → w.cell? ⟨g, i, none⟩ = some (.int .i64 (Heap.at_ m i).1) ∧ w.cell? ⟨g', i, none⟩ = some (.int .u64 (Heap.at_ m i).2) := by
  obtain ⟨g, c, hg, _, _⟩ := h.own1.form (by omega)
  obtain ⟨g', c', hg', _, _⟩ := h.own2.form (by omega)
  exact ⟨g, c, g', c', hg, hg', fun i hi => ⟨own_cell h.own1 hg (idsOf_at m i hi), own_cell h.own2 hg' (atsOf_at m i hi)⟩⟩
/-- What Next answers. -/
def nextVal (m : List Heap.Item) : Value := match soonest m with
  | none => .tuple #[.int .i64 0, .int .u64 0, .bool false]
  | some x => .tuple #[.int .i64 x.1, .int .u64 x.2, .bool true]
theorem nextVal_none {m : List Heap.Item} (h : soonest m = none) : nextVal m = .tuple #[.int .i64 0, .int .u64 0, .bool false] := by unfold nextVal; rw [h]
theorem nextVal_some {m : List Heap.Item} {x : Heap.Item} (h : soonest m = some x) : nextVal m = .tuple #[.int .i64 x.1, .int .u64 x.2, .bool true] := by unfold nextVal; rw [h]
theorem soonest_at {m : List Heap.Item} {b : Nat} (hb : b < m.length) (h : ∀ k, k < m.length → ¬ less (Heap.at_ m k) (Heap.at_ m b) = true) : soonest m = some (Heap.at_ m b) := by
  refine soonest_is (by rw [at_get m b hb]; exact List.getElem_mem hb) (fun y hy => ?_)
  obtain ⟨i, hi, rfl⟩ := List.getElem_of_mem hy
  rw [← at_get]
  exact h i hi
theorem wpStill_go {P : Program} {ops : Array Oper} {w : World} {Q : Act → Prop} {o : Oper} {rest : List Oper} {a : Act} {v : Value} (hw : Region.wanted o (yielded ops a.tmps) = true) (hv : (execOp a.eval o).run P w = .ok (.value v) w) (h : wpStill P ops w Q rest (a.put o.dst v)) : wpStill P ops w Q (o :: rest) a := by
  unfold wpStill
  rw [if_pos hw]
  unfold Oper.still
  rw [hv, Oper.stillUpon_value]
  exact h
theorem wpStill_skip {P : Program} {ops : Array Oper} {w : World} {Q : Act → Prop} {o : Oper} {rest : List Oper} {a : Act} (hw : Region.wanted o (yielded ops a.tmps) = false) (h : wpStill P ops w Q rest (a.put o.dst undef)) : wpStill P ops w Q (o :: rest) a := by
  unfold wpStill
  rw [if_neg (by rw [hw]; decide)]
  exact h
set_option maxHeartbeats 8000000 in
set_option maxRecDepth 100000 in
theorem next17 (rb : Nat) (iv av : Value) (m : List Heap.Item) (w : World) (h : RefO w rb iv av m) :
    Calls Try.prog 17 #[.pointer (some ⟨rb, 0, none⟩)] w fun e w' => e = .returned (nextVal m) ∧ Below w.heap.size w w' := by
  have hs := h.small
  by_cases hm : m.length = 0
  · have hz := Aside0.mk (nextVal_none ((soonest_none m).2 (List.eq_nil_of_length_eq_zero hm)))
    obtain ⟨h0, h1, _, _⟩ := h.at_
    obtain ⟨A, c, hiv⟩ := own_len h.own1
    rw [hm] at hiv
    subst hiv
    clear h hm
    go_enter Try.func17, Try.ntmps17
    go_wp2
    go_loopg [5, 6] 0 (fun gg s5 s6 wr => s5 = .int .i64 (-1) ∧ s6 = .int .i64 0 ∧ wr = w)
    case atStart => exact ⟨rfl, rfl, rfl⟩
    case round =>
      obtain ⟨rfl, rfl, rfl⟩ := hrel
      go_wp2
      go_ret3
      exact ⟨by rw [hz.out]; rfl, Below.refl _ _⟩
  · have HZ := Aside0.mk h
    obtain ⟨g, c, g', c', rfl, rfl, _⟩ := h.pair (i := 0) (by omega)
    have HC : Aside0 (∀ wr, Below w.heap.size w wr → wr.cell? ⟨rb, 0, none⟩ = some (.slice (some ⟨g, 0, none⟩) m.length c) ∧ wr.cell? ⟨rb, 1, none⟩ = some (.slice (some ⟨g', 0, none⟩) m.length c') ∧ ∀ i, i < m.length → wr.cell? ⟨g, i, none⟩ = some (.int .i64 (Heap.at_ m i).1) ∧ wr.cell? ⟨g', i, none⟩ = some (.int .u64 (Heap.at_ m i).2)) := ⟨fun wr hb => by
      have h' := h.still hb
      obtain ⟨a, b, _, _⟩ := h'.at_
      obtain ⟨x, y, x', y', e1, e2, r⟩ := h'.pair (i := 0) (by omega)
      injection e1 with e1 _ _
      injection e1 with e1
      injection e1 with e1
      injection e2 with e2 _ _
      injection e2 with e2
      injection e2 with e2
      subst e1 e2
      exact ⟨a, b, r⟩⟩
    clear h
    go_enter Try.func17, Try.ntmps17
    go_wp2
    go_loopg [5, 6] m.length (fun gg s5 s6 wr => ∃ (i : Nat) (b : Int), s5 = .int .i64 b ∧ s6 = .int .i64 i ∧ i ≤ m.length ∧ i + gg = m.length ∧ Aside0 (Below w.heap.size w wr) ∧ ((b = -1 ∧ i = 0) ∨ ∃ k : Nat, b = (k : Int) ∧ k < i ∧ Aside0 (∀ j, j < i → ¬ less (Heap.at_ m j) (Heap.at_ m k) = true)))
    case atStart => exact ⟨0, -1, rfl, rfl, Nat.zero_le _, by omega, ⟨Below.refl _ _⟩, .inl ⟨rfl, rfl⟩⟩
    case round =>
      obtain ⟨i, b, rfl, rfl, hi, hgg, HB, hbest⟩ := hrel
      obtain ⟨c0, c1, hc⟩ := HC.out wr HB.out
      have HC2 := Aside0.mk hc
      by_cases hlt : i < m.length
      · have q1 : (i : Int) < (m.length : Int) := by omega
        rcases hbest with ⟨rfl, rfl⟩ | ⟨k, rfl, hki, HK⟩
        · have HN : Aside0 (∀ j, j < 0 + 1 → ¬ less (Heap.at_ m j) (Heap.at_ m 0) = true) := ⟨fun j hj => by
            obtain rfl : j = 0 := by omega
            exact irrefl _⟩
          clear hc
          simp only [Int.natCast_zero] at q1 ⊢
          go_wp2
          refine wp_region_still_lit (by kernel_rfl) (by kernel_rfl) ?_
          iterate 3 (with_reducible (refine wpStill_go (v := ?_) (by kernel_rfl) ?_ ?_); rotate_left; (go_simp; with_reducible rfl); simp only [Act.put, List.setIfInBounds_toArray, List.set_cons_succ, List.set_cons_zero])
          iterate 15 (with_reducible (refine wpStill_skip (by kernel_rfl) ?_); simp only [Act.put, List.setIfInBounds_toArray, List.set_cons_succ, List.set_cons_zero])
          iterate 2 (with_reducible (refine wpStill_go (v := ?_) (by kernel_rfl) ?_ ?_); rotate_left; (go_simp; with_reducible rfl); simp only [Act.put, List.setIfInBounds_toArray, List.set_cons_succ, List.set_cons_zero])
          iterate 32 (with_reducible (refine wpStill_skip (by kernel_rfl) ?_); simp only [Act.put, List.setIfInBounds_toArray, List.set_cons_succ, List.set_cons_zero])
          iterate 1 (with_reducible (refine wpStill_go (v := ?_) (by kernel_rfl) ?_ ?_); rotate_left; (go_simp; with_reducible rfl); simp only [Act.put, List.setIfInBounds_toArray, List.set_cons_succ, List.set_cons_zero])
          with_reducible (refine wpStill_nil ?_)
          change Exit.then _ _ _ _ wr.drew
          go_wp2
          go_roundg (m.length - (0 + 1))
          case measure => omega
          case rel => exact ⟨0 + 1, 0, rfl, rfl, by omega, by omega, ⟨below_drew1 HB.out⟩, .inr ⟨0, rfl, by omega, HN⟩⟩
        · have hkl : k < m.length := by omega
          obtain ⟨d0, d1⟩ := hc i hlt
          obtain ⟨e0, e1⟩ := hc k hkl
          have r1 : (k : Int) < (m.length : Int) := by omega
          have r2 : decide ((k : Int) < 0) = false := decide_eq_false (by omega)
          obtain ⟨y, hy⟩ : ∃ y, Heap.at_ m i = y := ⟨_, rfl⟩
          obtain ⟨x, hx⟩ : ∃ x, Heap.at_ m k = x := ⟨_, rfl⟩
          have HNI : y.2 < x.2 ∨ (y.2 = x.2 ∧ y.1 < x.1) → Aside0 (∀ j, j < i + 1 → ¬ less (Heap.at_ m j) (Heap.at_ m i) = true) := fun hl => ⟨fun j hj => by
            have hl' : less (Heap.at_ m i) (Heap.at_ m k) = true := by rw [hy, hx, less_iff]; exact hl
            rcases Nat.lt_or_ge j i with h | h
            · exact nless_of_less (HK.out j h) hl'
            · obtain rfl : j = i := by omega
              exact irrefl _⟩
          have HNK : ¬ (y.2 < x.2 ∨ (y.2 = x.2 ∧ y.1 < x.1)) → Aside0 (∀ j, j < i + 1 → ¬ less (Heap.at_ m j) (Heap.at_ m k) = true) := fun hl => ⟨fun j hj => by
            rcases Nat.lt_or_ge j i with h | h
            · exact HK.out j h
            · obtain rfl : j = i := by omega
              rw [hy, hx, less_iff]; exact hl⟩
          rw [hy] at d0 d1
          rw [hx] at e0 e1
          clear hy hx
          obtain ⟨yi, ya⟩ := y
          obtain ⟨xi, xa⟩ := x
          simp only at d0 d1 e0 e1 HNI HNK
          by_cases c1' : ya < xa
          · have HN := HNI (.inl c1')
            clear HNI HNK
            clear hc
            go_wp2
            refine wp_region_still_lit (by kernel_rfl) (by kernel_rfl) ?_
            iterate 20 (with_reducible (refine wpStill_go (v := ?_) (by kernel_rfl) ?_ ?_); rotate_left; (go_simp; with_reducible rfl); simp only [Act.put, List.setIfInBounds_toArray, List.set_cons_succ, List.set_cons_zero])
            iterate 32 (with_reducible (refine wpStill_skip (by kernel_rfl) ?_); simp only [Act.put, List.setIfInBounds_toArray, List.set_cons_succ, List.set_cons_zero])
            iterate 1 (with_reducible (refine wpStill_go (v := ?_) (by kernel_rfl) ?_ ?_); rotate_left; (go_simp; with_reducible rfl); simp only [Act.put, List.setIfInBounds_toArray, List.set_cons_succ, List.set_cons_zero])
            with_reducible (refine wpStill_nil ?_)
            change Exit.then _ _ _ _ wr.drew
            go_wp2
            go_roundg (m.length - (i + 1))
            case measure => omega
            case rel => exact ⟨i + 1, i, rfl, rfl, by omega, by omega, ⟨below_drew1 HB.out⟩, .inr ⟨i, rfl, by omega, HN⟩⟩
          · by_cases c2' : ya = xa
            · subst c2'
              by_cases c3' : yi < xi
              · have HN := HNI (.inr ⟨rfl, c3'⟩)
                clear HNI HNK
                clear hc
                go_wp2
                refine wp_region_still_lit (by kernel_rfl) (by kernel_rfl) ?_
                iterate 53 (with_reducible (refine wpStill_go (v := ?_) (by kernel_rfl) ?_ ?_); rotate_left; (go_simp; with_reducible rfl); simp only [Act.put, List.setIfInBounds_toArray, List.set_cons_succ, List.set_cons_zero])
                with_reducible (refine wpStill_nil ?_)
                change Exit.then _ _ _ _ wr.drew
                go_wp2
                go_roundg (m.length - (i + 1))
                case measure => omega
                case rel => exact ⟨i + 1, i, rfl, rfl, by omega, by omega, ⟨below_drew1 HB.out⟩, .inr ⟨i, rfl, by omega, HN⟩⟩
              · have HN := HNK (fun h => by rcases h with h | h; exact c1' h; exact c3' h.2)
                clear HNI HNK
                clear hc
                go_wp2
                refine wp_region_still_lit (by kernel_rfl) (by kernel_rfl) ?_
                iterate 53 (with_reducible (refine wpStill_go (v := ?_) (by kernel_rfl) ?_ ?_); rotate_left; (go_simp; with_reducible rfl); simp only [Act.put, List.setIfInBounds_toArray, List.set_cons_succ, List.set_cons_zero])
                with_reducible (refine wpStill_nil ?_)
                change Exit.then _ _ _ _ wr.drew
                go_wp2
                go_roundg (m.length - (i + 1))
                case measure => omega
                case rel => exact ⟨i + 1, k, rfl, rfl, by omega, by omega, ⟨below_drew1 HB.out⟩, .inr ⟨k, rfl, by omega, HN⟩⟩
            · have HN := HNK (fun h => by rcases h with h | h; exact c1' h; exact c2' h.1)
              have c2b : (ya == xa) = false := beq_eq_false_iff_ne.2 c2'
              have c1b : decide (ya < xa) = false := decide_eq_false c1'
              clear HNI HNK
              clear hc
              go_wp2
              refine wp_region_still_lit (by kernel_rfl) (by kernel_rfl) ?_
              iterate 36 (with_reducible (refine wpStill_go (v := ?_) (by kernel_rfl) ?_ ?_); rotate_left; (go_simp; with_reducible rfl); simp only [Act.put, List.setIfInBounds_toArray, List.set_cons_succ, List.set_cons_zero])
              iterate 15 (with_reducible (refine wpStill_skip (by kernel_rfl) ?_); simp only [Act.put, List.setIfInBounds_toArray, List.set_cons_succ, List.set_cons_zero])
              iterate 2 (with_reducible (refine wpStill_go (v := ?_) (by kernel_rfl) ?_ ?_); rotate_left; (go_simp; with_reducible rfl); simp only [Act.put, List.setIfInBounds_toArray, List.set_cons_succ, List.set_cons_zero])
              with_reducible (refine wpStill_nil ?_)
              change Exit.then _ _ _ _ wr.drew
              go_wp2
              go_roundg (m.length - (i + 1))
              case measure => omega
              case rel => exact ⟨i + 1, k, rfl, rfl, by omega, by omega, ⟨below_drew1 HB.out⟩, .inr ⟨k, rfl, by omega, HN⟩⟩
      · obtain rfl : i = m.length := by omega
        rcases hbest with ⟨rfl, hz⟩ | ⟨k, rfl, hki, HK⟩
        · omega
        · have hz := Aside0.mk (nextVal_some (soonest_at hki HK.out))
          obtain ⟨e0, e1⟩ := hc k hki
          have r1 : (k : Int) < (m.length : Int) := by omega
          generalize Heap.at_ m k = x at e0 e1 hz
          obtain ⟨xi, xa⟩ := x
          simp only at e0 e1 hz
          clear hc HK
          go_wp2
          go_still (by kernel_rfl)
          go_wp2
          go_ret3
          exact ⟨by rw [hz.out]; rfl, below_drew1 HB.out⟩
end Go.Proofs.Ythjcdjanadeobaa.MH
