/- The reference's Drop, Set walked. -/
import Derived.Test.YthjcdjanadeobaaHRefNext
import Derived.Maps.AppendAt
import Derived.Deep.RegionLaw
namespace Go.Proofs.Ythjcdjanadeobaa.MH
open Go.RowKit Go.Proofs.YthjcdjanadeobaaW.PrintWords Go.Proofs.YthjcdjanadeobaaW.PrintLast Go.Proofs.YthjcdjanadeobaaW.PrintMore Go.Proofs.Ythjcdjanadeobaa.Heap
set_option linter.unusedVariables false
set_option linter.unusedSimpArgs false

/-- append onto a row of one's own, at a step of a region that draws; what is appended may be nothing. -/
theorem step_append_at {P : Program} (w : World) {ops : Array Oper} {o : Oper} {a : Act} {K : Act → World → Prop} {Q : Exit → Act → World → Prop} {E : Prop} (hgd : o.guard = none) (s x : Operand) (t : TypeId)
    (ho : o.op = .call { callee := .builtin .append, args := #[s, x], argTypes := #[t, t] })
    (base : Nat) (e : TypeId) (i : TypeInfo) (z : Value) (size bytes : Nat) (ht : P.underlying t = some (.slice e)) (hi : P.info? e = some i) (hz : i.zero = some z)
    (hsize : i.size = size) (hby : i.bytes = bytes) (hzs : z.cells.size = size) (hsz : 0 < size)
    (v : Value) (n : Nat) (xs : List Value) (hs : a.eval s = v) (hown : w.ownsRow base e size v n xs)
    (ad : Addr) (m c : Nat) (news : List Value) (hx : a.eval x = .slice (some ad) m c) (hl : news.length = m * size) (hnews : ∀ j u, news[j]? = some u → w.cell? (ad.add j) = some u) (h1 : ∀ u ∈ news, u.oneCell' = true)
    (h63 : n + m ≤ maxLen) (hbytes : (n + m) * bytes ≤ 140737488355328) (hbase : base ≤ w.heap.size)
    (h : ∀ v' w', w'.ownsRow base e size v' (n + m) (xs ++ news) → w.grownBy w' v.ownBlock → (v'.ownBlock = v.ownBlock ∨ v'.ownBlock = some w.heap.size) → K (a.put o.dst v') w') :
    if Region.wanted o (yielded ops a.tmps) = true then Oper.wp P o a w K Q else E := by
  have hw : Region.wanted o (yielded ops a.tmps) = true := by simp [Region.wanted, hgd]
  rw [if_pos hw]
  obtain ⟨v', w', hr, h2, h3, h4, h5⟩ := run_append_own_at (P := P) w base t o.type e i z size bytes ht hi hz hsize hby hzs hsz v n xs hown ad m c news hl hnews h1 h63 hbytes hbase
  unfold Oper.wp execOp
  simp only [ho, resolve, invoke, builtin, Sem.run_bind, Sem.run_pure, Result.andThen_ok, List.map_toArray, List.map_cons, List.map_nil, hs, hx, hr]
  exact h v' w' h2 h3 h5
/-- Below two appends onto nil: all that was there stays, and the row is new. -/
theorem twice_new {w w1 w2 : World} {e : TypeId} {v1 v2 : Value} {n1 n2 : Nat} {xs1 xs2 : List Value} (hb : Below w.heap.size w w1) (h1 : w1.ownsRow w.heap.size e 1 v1 n1 xs1) (hg : w1.grownBy w2 v1.ownBlock) (h2 : w2.ownsRow w.heap.size e 1 v2 n2 xs2) : Below w.heap.size w w2 ∧ ∀ b, v2.ownBlock = some b → w.heap.size ≤ b := by
  refine ⟨⟨hg.os.trans hb.os, hg.tape.trans hb.tape, hg.output.trans hb.output, Nat.le_trans hb.size hg.size, fun b hlt => (hg.block b (Nat.lt_of_lt_of_le hlt hb.size) (fun e => ?_)).trans (hb.block b hlt)⟩, fun b hb' => (h2.lt b hb').1⟩
  have := (h1.lt b e.symm).1
  omega
theorem own_any {w : World} {base : Nat} {e : TypeId} {sv : Value} {n s : Nat} {xs : List Value} (h : w.ownsRow base e s sv n xs) : ∃ A c, sv = .slice A n c := by
  rcases h.2 with ⟨rfl, rfl⟩ | ⟨g, cap, cur, rfl, _⟩
  · exact ⟨none, 0, rfl⟩
  · exact ⟨_, _, rfl⟩
theorem add_lit (g i j : Nat) : (⟨g, i, none⟩ : Addr).add j = ⟨g, i + j, none⟩ := by unfold Addr.add; split <;> simp_all
/-- Where 'xs[i+1:]' begins, and the facts that the two appends ask for. -/
theorem tail_at {w : World} {e : TypeId} {g n c i : Nat} {xs : List Value} (h : w.ownsRow 0 e 1 (.slice (some ⟨g, 0, none⟩) n c) n xs) (hi : i < n) (h1 : ∀ u ∈ xs, u.oneCell' = true) (hs : n ≤ 1000000000) :
    ∃ A : Addr, (if c = i + 1 then some (⟨g, 0, none⟩ : Addr) else some ⟨g, i + 1, none⟩) = some A ∧
      (∀ w', Below w.heap.size w w' → (∀ j u, (xs.take i)[j]? = some u → w'.cell? ((⟨g, 0, none⟩ : Addr).add j) = some u) ∧ (∀ j u, (xs.drop (i + 1))[j]? = some u → w'.cell? (A.add j) = some u)) ∧
      (xs.take i).length = i * 1 ∧ (xs.drop (i + 1)).length = (n - (i + 1)) * 1 ∧ (∀ u ∈ xs.take i, u.oneCell' = true) ∧ (∀ u ∈ xs.drop (i + 1), u.oneCell' = true) ∧
      (0 + i ≤ Go.maxLen ∧ (0 + i) * 8 ≤ 140737488355328) ∧ (0 + i + (n - (i + 1)) ≤ Go.maxLen ∧ (0 + i + (n - (i + 1))) * 8 ≤ 140737488355328) := by
  have hlen : xs.length = n := by rw [h.1]; omega
  have hnc : n ≤ c := by
    rcases h.2 with ⟨e, _⟩ | ⟨g2, c2, cur, e, _, _, e2, _⟩
    · cases e
    · injection e with _ _ e; omega
  have hcell : ∀ w', Below w.heap.size w w' → ∀ j u, xs[j]? = some u → w'.cell? ⟨g, j, none⟩ = some u := fun w' hb j u hu => by
    have := own_cell h rfl hu
    exact (hb.cell (World.block_lt_of_cell? w _ this)).trans this
  have hm : ∀ k : Nat, k ≤ 1000000000 → k ≤ Go.maxLen ∧ k * 8 ≤ 140737488355328 := fun k hk => ⟨by unfold Go.maxLen; omega, by omega⟩
  have hA : ∃ A : Addr, (if c = i + 1 then some (⟨g, 0, none⟩ : Addr) else some ⟨g, i + 1, none⟩) = some A ∧ (n = i + 1 ∨ A = ⟨g, i + 1, none⟩) := by
    by_cases hc : c = i + 1
    · exact ⟨_, by rw [if_pos hc], .inl (by omega)⟩
    · exact ⟨_, by rw [if_neg hc], .inr rfl⟩
  obtain ⟨A, hA, hA2⟩ := hA
  refine ⟨A, hA, fun w' hb => ⟨fun j u hu => ?_, fun j u hu => ?_⟩, by rw [List.length_take]; omega, by rw [List.length_drop]; omega, fun u hu => h1 u (List.mem_of_mem_take hu), fun u hu => h1 u (List.mem_of_mem_drop hu), hm _ (by omega), hm _ (by omega)⟩
  · rw [add_lit, Nat.zero_add]
    rw [List.getElem?_take] at hu
    split at hu
    · exact hcell w' hb j u hu
    · cases hu
  · rw [List.getElem?_drop] at hu
    rcases hA2 with hA2 | hA2
    · rw [List.getElem?_eq_none (by omega)] at hu; cases hu
    · rw [hA2, add_lit]
      exact hcell w' hb _ u hu
theorem idsOf_one (m : List Heap.Item) : ∀ u ∈ idsOf m, u.oneCell' = true := fun u hu => by
  obtain ⟨x, _, rfl⟩ := List.mem_map.1 hu; rfl
theorem atsOf_one (m : List Heap.Item) : ∀ u ∈ atsOf m, u.oneCell' = true := fun u hu => by
  obtain ⟨x, _, rfl⟩ := List.mem_map.1 hu; rfl
theorem own_zero {w : World} {base : Nat} {e : TypeId} {sv : Value} {n s : Nat} {xs : List Value} (h : w.ownsRow base e s sv n xs) : w.ownsRow 0 e s sv n xs :=
  ⟨h.1, h.2.imp id (fun ⟨g, cap, cur, e1, _, e3⟩ => ⟨g, cap, cur, e1, Nat.zero_le _, e3⟩)⟩
theorem idsOf_erase (m : List Heap.Item) (i : Nat) : idsOf (m.eraseIdx i) = (idsOf m).take i ++ (idsOf m).drop (i + 1) := by
  unfold idsOf
  rw [List.eraseIdx_eq_take_drop_succ, List.map_append, List.map_take, List.map_drop]
theorem atsOf_erase (m : List Heap.Item) (i : Nat) : atsOf (m.eraseIdx i) = (atsOf m).take i ++ (atsOf m).drop (i + 1) := by
  unfold atsOf
  rw [List.eraseIdx_eq_take_drop_succ, List.map_append, List.map_take, List.map_drop]
/-- Between the two statements: the ids' row is new, the whens' is as it was. -/
structure Mid (w wc : World) (rb : Nat) (iv av : Value) (n : Nat) (xs : List Value) : Prop where
  head : wc.heap[rb]? = some (.cells #[iv, av] 29 (0, 0))
  own : wc.ownsRow 0 3 1 iv n xs
  new : ∀ b, iv.ownBlock = some b → w.heap.size ≤ b
  foot : Foot (fun b => b = rb) w wc
theorem mid_is {w W2 : World} {rb : Nat} {iv0 av iv : Value} {n : Nat} {xs : List Value} (h : w.heap[rb]? = some (.cells #[iv0, av] 29 (0, 0))) (hb : Below w.heap.size w W2) (ho : W2.ownsRow w.heap.size 3 1 iv n xs) : Mid w (W2.setCell ⟨rb, 0, none⟩ iv) rb iv av n xs := by
  have hlt := blk_lt h
  have hF : Foot (fun b => b = rb) W2 (W2.setCell ⟨rb, 0, none⟩ iv) := ⟨rfl, rfl, rfl, by simp [World.setCell], fun b hb hn => Below.heap_setCell _ _ _ _ hn⟩
  have hnew : ∀ b, iv.ownBlock = some b → w.heap.size ≤ b := fun b hb' => (ho.lt b hb').1
  refine ⟨blk_set ((hb.block rb hlt).trans h) _ _, own_below (own_zero ho) hF (fun b hb' e => ?_), hnew, (Foot.below (S := fun b => b = rb) hb).trans hF (fun _ _ h => h)⟩
  have := hnew b hb'
  omega
theorem mid_end {w wc W2 : World} {rb : Nat} {iv av0 av : Value} {m : List Heap.Item} (hm : Mid w wc rb iv av0 m.length (idsOf m)) (hs : m.length ≤ 1000000000) (hrb : rb < w.heap.size) (hb : Below wc.heap.size wc W2) (ho : W2.ownsRow wc.heap.size 31 1 av m.length (atsOf m)) :
    RefO (W2.setCell ⟨rb, 1, none⟩ av) rb iv av m ∧ (∀ b, iv.ownBlock = some b → w.heap.size ≤ b) ∧ (∀ b, av.ownBlock = some b → w.heap.size ≤ b) ∧ Foot (fun b => b = rb) w (W2.setCell ⟨rb, 1, none⟩ av) := by
  have hlt := blk_lt hm.head
  have hF : Foot (fun b => b = rb) W2 (W2.setCell ⟨rb, 1, none⟩ av) := ⟨rfl, rfl, rfl, by simp [World.setCell], fun b hb hn => Below.heap_setCell _ _ _ _ hn⟩
  have hnew : ∀ b, av.ownBlock = some b → wc.heap.size ≤ b := fun b hb' => (ho.lt b hb').1
  have hsz := hm.foot.2.2.2.1
  have hF2 : Foot (fun b => b = rb) wc (W2.setCell ⟨rb, 1, none⟩ av) := (Foot.below (S := fun b => b = rb) hb).trans hF (fun _ _ h => h)
  refine ⟨⟨blk_set ((hb.block rb hlt).trans hm.head) _ _, own_below hm.own hF2 (fun b hb' e => ?_), own_below (own_zero ho) hF (fun b hb' e => ?_), hs, fun e => ?_, fun e => ?_, fun b e1 e2 => ?_⟩, hm.new, fun b hb' => ?_, hm.foot.trans hF2 (fun _ _ h => h)⟩
  · have := hm.new b hb'; omega
  · have := hnew b hb'; omega
  · have := hm.new rb e; omega
  · have := hnew rb e; omega
  · have := (hm.own.lt b e1).2
    have := hnew b e2
    omega
  · have := hnew b hb'; omega
set_option maxHeartbeats 8000000 in
set_option maxRecDepth 100000 in
theorem drop10_there (rb : Nat) (iv av : Value) (m : List Heap.Item) (w : World) (id : Int) (h : RefO w rb iv av m) (hl : 0 < m.length) (i : Nat) (hi : i < m.length) (hP : ∀ k, Place m id k → k = (i : Int)) :
    Calls Try.prog 10 #[.pointer (some ⟨rb, 0, none⟩), .int .i64 id] w fun e w' => e = .returned (.bool true) ∧ ∃ iv' av', RefO w' rb iv' av' (m.eraseIdx i) ∧ (∀ b, iv'.ownBlock = some b → w.heap.size ≤ b) ∧ (∀ b, av'.ownBlock = some b → w.heap.size ≤ b) ∧ Foot (fun b => b = rb) w w' := by
  obtain ⟨h0, h1, f0, f1⟩ := h.at_
  have hsm := h.small
  obtain ⟨g, c, g', c', rfl, rfl, hcell⟩ := h.pair hl
  have HP := Aside0.mk (place20 rb _ _ m w id h)
  have HPP := Aside0.mk hP
  have HC := Aside0.mk hcell
  have HR := Aside0.mk h
  obtain ⟨n, hn⟩ : ∃ n, n = m.length := ⟨_, rfl⟩
  have hc1 : n ≤ c := by
    rcases h.own1.2 with ⟨e, _⟩ | ⟨g2, c2, cur, e, _, _, e2, _⟩
    · cases e
    · injection e with _ _ e; omega
  have hc2 : n ≤ c' := by
    rcases h.own2.2 with ⟨e, _⟩ | ⟨g2, c2, cur, e, _, _, e2, _⟩
    · cases e
    · injection e with _ _ e; omega
  rw [← hn] at h0 h1 hsm hi
  have q0 : (0 : Int) ≤ (i : Int) := by omega
  have q1 : (i : Int) ≤ (c : Int) := by omega
  have q1' : (i : Int) ≤ (c' : Int) := by omega
  have p0 : (0 : Int) ≤ (i : Int) + 1 := by omega
  have p1 : (i : Int) + 1 ≤ (n : Int) := by omega
  have p2 : ((i : Int) + 1).toNat = i + 1 := by omega
  have p3 : IntKind.i64.wrap ((i : Int) + 1) = (i : Int) + 1 := by rw [IntKind.wrap_i64]; omega
  have p4 : (n : Int) ≤ (c : Int) := by omega
  have p4' : (n : Int) ≤ (c' : Int) := by omega
  have p5 : i ≤ c := by omega
  have p5' : i ≤ c' := by omega
  obtain ⟨A, hA, a1, a2, a3, a4, a5, a6, a7⟩ := tail_at h.own1 (i := i) (by omega) (idsOf_one m) h.small
  rw [← hn] at a3 a7
  have H1 := Aside0.mk (And.intro a1 (And.intro a2 (And.intro a3 (And.intro a4 (And.intro a5 (And.intro a6 a7))))))
  have HH1 : Aside0 (∀ w', Below w.heap.size w w' → w'.cell? ⟨rb, 0, none⟩ = some (.slice (some ⟨g, 0, none⟩) n c) ∧ w'.frozen? ⟨rb, 0, none⟩ = false) := ⟨fun w' hb => by
    rw [hn]
    exact ⟨(h.still hb).at_.1, (h.still hb).at_.2.2.1⟩⟩
  have HHd : Aside0 (w.heap[rb]? = some (.cells #[.slice (some ⟨g, 0, none⟩) m.length c, .slice (some ⟨g', 0, none⟩) n c'] 29 (0, 0))) := ⟨by
    have := h.head
    rw [← hn] at this ⊢
    exact this⟩
  have HB0 : Aside0 (∀ w', w.drew.grownBy w' none → Below w.heap.size w w') := ⟨fun w' hg => ⟨hg.os, hg.tape, hg.output, hg.size, fun b hb => hg.block b hb (by simp)⟩⟩
  have HB00 := Aside0.mk (below_drew1 (Below.refl w.heap.size w))
  have HN := Aside0.mk hn
  clear hn h hcell hP hl a1 a2 a3 a4 a5 a6 a7
  go_enter Try.func10, Try.ntmps10
  go_wp2_with fail
  refine HP.out.mono ?_
  rintro e w1 ⟨k, rfl, hpl, hw⟩
  rw [hw]
  clear hw w1
  obtain rfl := HPP.out k hpl
  have r2 : decide ((i : Int) < 0) = false := decide_eq_false (by omega)
  clear hpl HP
  go_wp2_with fail
  go_cut [26] (fun v26 wc => ∃ iv', Aside0 (Mid w wc rb iv' (.slice (some ⟨g', 0, none⟩) n c') (m.eraseIdx i).length (idsOf (m.eraseIdx i))))
  case first =>
    go_region_law (first
      | (refine step_append_at _ (by rfl) (.const (.slice none 0 0)) (.tmp 17) 26 (by rfl) w.heap.size 3 _ (.int .i64 0) 1 8 Try.underlying26 (by rfl) (by rfl) (by rfl) (by rfl) (by rfl) (by decide) _ 0 [] (by rfl) (World.ownsRow_nil _ _ 3 1) ⟨g, 0, none⟩ i c ((idsOf m).take i) (by rfl) H1.out.2.1 (H1.out.1 _ HB00.out).1 H1.out.2.2.2.1 H1.out.2.2.2.2.2.1.1 H1.out.2.2.2.2.2.1.2 HB00.out.size ?_; intro v1 W1 ho1 hg1 ha1; have hbw1 := HB0.out W1 hg1; obtain ⟨c10, _⟩ := HH1.out W1 hbw1)
      | (refine step_append_at _ (by rfl) (.tmp 18) (.tmp 25) 26 (by rfl) w.heap.size 3 _ (.int .i64 0) 1 8 Try.underlying26 (by rfl) (by rfl) (by rfl) (by rfl) (by rfl) (by decide) _ (0 + i) _ (by rfl) ho1 A (n - (i + 1)) (c - (i + 1)) ((idsOf m).drop (i + 1)) (by rfl) H1.out.2.2.1 (H1.out.1 _ hbw1).2 H1.out.2.2.2.2.1 H1.out.2.2.2.2.2.2.1 H1.out.2.2.2.2.2.2.2 hbw1.size ?_; intro v2 W2 ho2 hg2 ha2; obtain ⟨hbw2, hnew2⟩ := twice_new hbw1 ho1 hg2 ho2; obtain ⟨c20, f20⟩ := HH1.out W2 hbw2; obtain ⟨Av, cv, rfl⟩ := own_any ho2))
    all_goals go_wp2
    all_goals go_meet
    all_goals (case rel =>
      refine ⟨_, ⟨mid_is HHd.out hbw2 ?_⟩⟩
      have e1 : (m.eraseIdx i).length = i + (n - (i + 1)) := by
        have := HN.out
        rw [List.length_eraseIdx, if_pos (by omega)]; omega
      rw [e1, idsOf_erase]
      simp only [Nat.zero_add, List.nil_append] at ho2
      exact ho2)
  case rest =>
    obtain ⟨iv', HM⟩ := hcut
    have ho := HR.out.own2
    have hsz := HM.out.foot.2.2.2.1
    have ho2 : wc.ownsRow 0 31 1 (.slice (some ⟨g', 0, none⟩) n c') n (atsOf m) := by
      rw [HN.out]
      exact own_below ho HM.out.foot (fun b hb e => HR.out.n2 (by rw [hb, e]))
    obtain ⟨A', hA', b1, b2, b3, b4, b5, b6, b7⟩ := tail_at ho2 (i := i) (by omega) (atsOf_one m) (by have := HR.out.small; have := HN.out; omega)
    have H2 := Aside0.mk (And.intro b1 (And.intro b2 (And.intro b3 (And.intro b4 (And.intro b5 (And.intro b6 b7))))))
    have h1' : wc.cell? ⟨rb, 1, none⟩ = some (.slice (some ⟨g', 0, none⟩) n c') := (blk_cell HM.out.head 1).trans rfl
    have f1' : wc.frozen? ⟨rb, 1, none⟩ = false := blk_frozen HM.out.head 1
    have HH2 : Aside0 (∀ w', Below wc.heap.size wc w' → w'.cell? ⟨rb, 1, none⟩ = some (.slice (some ⟨g', 0, none⟩) n c') ∧ w'.frozen? ⟨rb, 1, none⟩ = false) := ⟨fun w' hb => by
      have q : w'.heap[rb]? = _ := (hb.block rb (blk_lt HM.out.head)).trans HM.out.head
      exact ⟨(blk_cell q 1).trans rfl, blk_frozen q 1⟩⟩
    have HB2 : Aside0 (∀ w', wc.drew.grownBy w' none → Below wc.heap.size wc w') := ⟨fun w' hg => ⟨hg.os, hg.tape, hg.output, hg.size, fun b hb => hg.block b hb (by simp)⟩⟩
    have HB22 := Aside0.mk (below_drew1 (Below.refl wc.heap.size wc))
    have HRB : Aside0 (rb < w.heap.size) := ⟨blk_lt HR.out.head⟩
    clear hA h0 h1 f0 f1 ho hsz ho2 b1 b2 b3 b4 b5 b6 b7
    go_wp2_with fail
    go_region_law (first
      | (refine step_append_at _ (by rfl) (.const (.slice none 0 0)) (.tmp 35) 27 (by rfl) wc.heap.size 31 _ (.int .u64 0) 1 8 Try.underlying27 (by rfl) (by rfl) (by rfl) (by rfl) (by rfl) (by decide) _ 0 [] (by rfl) (World.ownsRow_nil _ _ 31 1) ⟨g', 0, none⟩ i c' ((atsOf m).take i) (by rfl) H2.out.2.1 (H2.out.1 _ HB22.out).1 H2.out.2.2.2.1 H2.out.2.2.2.2.2.1.1 H2.out.2.2.2.2.2.1.2 HB22.out.size ?_; intro v1 W1 ho1 hg1 ha1; have hbw1 := HB2.out W1 hg1; obtain ⟨c10, _⟩ := HH2.out W1 hbw1)
      | (refine step_append_at _ (by rfl) (.tmp 36) (.tmp 43) 27 (by rfl) wc.heap.size 31 _ (.int .u64 0) 1 8 Try.underlying27 (by rfl) (by rfl) (by rfl) (by rfl) (by rfl) (by decide) _ (0 + i) _ (by rfl) ho1 A' (n - (i + 1)) (c' - (i + 1)) ((atsOf m).drop (i + 1)) (by rfl) H2.out.2.2.1 (H2.out.1 _ hbw1).2 H2.out.2.2.2.2.1 H2.out.2.2.2.2.2.2.1 H2.out.2.2.2.2.2.2.2 hbw1.size ?_; intro v2 W2 ho2 hg2 ha2; obtain ⟨hbw2, hnew2⟩ := twice_new hbw1 ho1 hg2 ho2; obtain ⟨c20, f20⟩ := HH2.out W2 hbw2; obtain ⟨Av, cv, rfl⟩ := own_any ho2))
    all_goals go_wp2
    all_goals go_ret
    all_goals
      have e1 : (m.eraseIdx i).length = i + (n - (i + 1)) := by
        have := HN.out
        rw [List.length_eraseIdx, if_pos (by omega)]; omega
      have hs2 : (m.eraseIdx i).length ≤ 1000000000 := by
        have := HR.out.small
        have := HN.out
        omega
      refine ⟨rfl, iv', _, mid_end HM.out hs2 HRB.out hbw2 ?_⟩
      rw [e1, atsOf_erase]
      simp only [Nat.zero_add, List.nil_append] at ho2
      exact ho2
set_option maxHeartbeats 8000000 in
set_option maxRecDepth 100000 in
theorem drop10_none (rb : Nat) (iv av : Value) (m : List Heap.Item) (w : World) (id : Int) (h : RefO w rb iv av m) (hP : ∀ k, Place m id k → k = -1) :
    Calls Try.prog 10 #[.pointer (some ⟨rb, 0, none⟩), .int .i64 id] w fun e w' => e = .returned (.bool false) ∧ w' = w := by
  have HP := Aside0.mk (place20 rb _ _ m w id h)
  have HPP := Aside0.mk hP
  clear h hP
  go_enter Try.func10, Try.ntmps10
  go_wp2_with fail
  refine HP.out.mono ?_
  rintro e w1 ⟨k, rfl, hpl, hw⟩
  rw [hw]
  clear hw w1
  obtain rfl := HPP.out k hpl
  clear hpl HP
  go_wp2_with fail
  go_ret
  exact ⟨rfl, rfl⟩
end Go.Proofs.Ythjcdjanadeobaa.MH
