/- The reference's Set walked: two rows grow in one region that draws its order. -/
import Derived.Test.YthjcdjanadeobaaHRefDrop
import Derived.Test.YthjcdjanadeobaaHFns
namespace Go.Proofs.Ythjcdjanadeobaa.MH
open Go.RowKit Go.Proofs.YthjcdjanadeobaaW.PrintWords Go.Proofs.YthjcdjanadeobaaW.PrintLast Go.Proofs.YthjcdjanadeobaaW.PrintMore Go.Proofs.Ythjcdjanadeobaa.Heap
set_option linter.unusedVariables false
set_option linter.unusedSimpArgs false

/-- On the way through the region: the head as it was, the two rows as they are now. -/
structure St (w X : World) (rb : Nat) (iv av ca : Value) (na : Nat) (xa : List Value) (cb : Value) (nb : Nat) (xb : List Value) : Prop where
  head : X.heap[rb]? = some (.cells #[iv, av] 29 (0, 0))
  lt : rb < w.heap.size
  size : w.heap.size ≤ X.heap.size
  foot : Foot (fun b => iv.ownBlock = some b ∨ av.ownBlock = some b) w X
  rowa : X.ownsRow 0 3 1 ca na xa
  rowb : X.ownsRow 0 31 1 cb nb xb
  newa : ca.ownBlock = iv.ownBlock ∨ ∀ b, ca.ownBlock = some b → w.heap.size ≤ b
  newb : cb.ownBlock = av.ownBlock ∨ ∀ b, cb.ownBlock = some b → w.heap.size ≤ b
  n1 : iv.ownBlock ≠ some rb
  n2 : av.ownBlock ≠ some rb
  apart : ∀ b, ca.ownBlock = some b → cb.ownBlock ≠ some b
section
variable {w X : World} {rb na nb : Nat} {iv av ca cb : Value} {xa xb : List Value}
theorem own_at {X X' : World} {e : TypeId} {sv : Value} {n s : Nat} {xs : List Value} (h : X.ownsRow 0 e s sv n xs) (hk : ∀ b, sv.ownBlock = some b → X'.heap[b]? = X.heap[b]?) : X'.ownsRow 0 e s sv n xs :=
  ⟨h.1, h.2.imp id (fun ⟨g, cap, cur, e1, e2, e3, e4⟩ => ⟨g, cap, cur, e1, e2, (hk g (by rw [e1]; rfl)).trans e3, e4⟩)⟩
theorem St.al (h : St w X rb iv av ca na xa cb nb xb) (o : Obj) : St w (X.alloc o) rb iv av ca na xa cb nb xb :=
  ⟨blk_alloc h.head _, h.lt, by have := h.size; simp; omega, h.foot.trans (Foot.below (S := fun _ => False) (below_alloc (Below.refl _ X) o)) (fun _ _ h => h.elim), h.rowa.alloc o, h.rowb.alloc o, h.newa, h.newb, h.n1, h.n2, h.apart⟩
theorem St.dr (h : St w X rb iv av ca na xa cb nb xb) : St w X.drew rb iv av ca na xa cb nb xb := ⟨h.head, h.lt, h.size, h.foot, h.rowa, h.rowb, h.newa, h.newb, h.n1, h.n2, h.apart⟩
theorem St.blks (h : St w X rb iv av ca na xa cb nb xb) : (∀ b, ca.ownBlock = some b → b < X.heap.size) ∧ (∀ b, cb.ownBlock = some b → b < X.heap.size) := ⟨fun b hb => (h.rowa.lt b hb).2, fun b hb => (h.rowb.lt b hb).2⟩
theorem St.ra (h : St w X rb iv av ca na xa cb nb xb) : ca.ownBlock ≠ some rb ∧ cb.ownBlock ≠ some rb := by
  have := h.lt
  refine ⟨fun e => ?_, fun e => ?_⟩
  · rcases h.newa with h1 | h1
    · exact h.n1 (h1 ▸ e)
    · have := h1 rb e; omega
  · rcases h.newb with h1 | h1
    · exact h.n2 (h1 ▸ e)
    · have := h1 rb e; omega
theorem St.a {W : World} {v : Value} {n : Nat} {xs : List Value} (h : St w X rb iv av ca na xa cb nb xb) (hg : X.grownBy W ca.ownBlock) (ho : W.ownsRow 0 3 1 v n xs) (ha : v.ownBlock = ca.ownBlock ∨ v.ownBlock = some X.heap.size) : St w W rb iv av v n xs cb nb xb := by
  have hr := h.ra
  refine ⟨(hg.block rb (blk_lt h.head) (fun e => hr.1 e.symm)).trans h.head, h.lt, Nat.le_trans h.size hg.size, ?_, ho, own_at h.rowb (fun b hb => hg.block b (h.blks.2 b hb) (fun e => h.apart b e.symm hb)), ?_, h.newb, h.n1, h.n2, fun b hb hc => ?_⟩
  · refine h.foot.trans (S' := fun b => ca.ownBlock = some b) ⟨hg.os, hg.tape, hg.output, hg.size, fun k hk hn => hg.block k hk (fun e => hn e.symm)⟩ (fun b hlt hb => ?_)
    rcases h.newa with h1 | h1
    · exact .inl (h1 ▸ hb)
    · have := h1 b hb; omega
  · rcases ha with ha | ha
    · rw [ha]; exact h.newa
    · right
      intro b hb
      rw [ha] at hb
      injection hb with hb
      have := h.size
      omega
  · rcases ha with ha | ha
    · exact h.apart b (ha ▸ hb) hc
    · rw [ha] at hb
      injection hb with hb
      have := h.blks.2 b hc
      omega
theorem St.b {W : World} {v : Value} {n : Nat} {xs : List Value} (h : St w X rb iv av ca na xa cb nb xb) (hg : X.grownBy W cb.ownBlock) (ho : W.ownsRow 0 31 1 v n xs) (ha : v.ownBlock = cb.ownBlock ∨ v.ownBlock = some X.heap.size) : St w W rb iv av ca na xa v n xs := by
  have hr := h.ra
  refine ⟨(hg.block rb (blk_lt h.head) (fun e => hr.2 e.symm)).trans h.head, h.lt, Nat.le_trans h.size hg.size, ?_, own_at h.rowa (fun b hb => hg.block b (h.blks.1 b hb) (fun e => h.apart b hb e.symm)), ho, h.newa, ?_, h.n1, h.n2, fun b hb hc => ?_⟩
  · refine h.foot.trans (S' := fun b => cb.ownBlock = some b) ⟨hg.os, hg.tape, hg.output, hg.size, fun k hk hn => hg.block k hk (fun e => hn e.symm)⟩ (fun b hlt hb => ?_)
    rcases h.newb with h1 | h1
    · exact .inr (h1 ▸ hb)
    · have := h1 b hb; omega
  · rcases ha with ha | ha
    · rw [ha]; exact h.newb
    · right
      intro b hb
      rw [ha] at hb
      injection hb with hb
      have := h.size
      omega
  · rcases ha with ha | ha
    · exact h.apart b hb (ha ▸ hc)
    · rw [ha] at hc
      injection hc with hc
      have := h.blks.1 b hb
      omega
theorem St.cells (h : St w X rb iv av ca na xa cb nb xb) : X.cell? ⟨rb, 0, none⟩ = some iv ∧ X.cell? ⟨rb, 1, none⟩ = some av ∧ X.frozen? ⟨rb, 0, none⟩ = false ∧ X.frozen? ⟨rb, 1, none⟩ = false :=
  ⟨(blk_cell h.head 0).trans rfl, (blk_cell h.head 1).trans rfl, blk_frozen h.head 0, blk_frozen h.head 1⟩
end
/-- The block of the one that is appended, through another append. -/
theorem one_kept {X W : World} {row : Option Nat} {k : Nat} {u : Value} {t : TypeId} (hg : X.grownBy W row) (hb : X.heap[k]? = some (.cells #[u] t (0, 0))) (hn : some k ≠ row) : W.heap[k]? = some (.cells #[u] t (0, 0)) := (hg.block k (blk_lt hb) hn).trans hb
theorem one_news {W : World} {k : Nat} {u : Value} {t : TypeId} (hb : W.heap[k]? = some (.cells #[u] t (0, 0))) : ∀ j v, [u][j]? = some v → W.cell? ((⟨k, 0, none⟩ : Addr).add j) = some v := World.news_of_block hb
theorem blk_second (X : World) (o o' : Obj) : ((X.alloc o).alloc o').heap[X.heap.size + 1]? = some o' := by
  have := blk_new (X.alloc o) o'
  have e : (X.alloc o).heap.size = X.heap.size + 1 := by simp
  rwa [e] at this
theorem set_end {w W : World} {rb : Nat} {iv av v1 v2 : Value} {m : List Heap.Item} {id a : Int} (h : St w W rb iv av v1 (m.length + 1) (idsOf m ++ [.int .i64 id]) v2 (m.length + 1) (atsOf m ++ [.int .u64 a])) (hs : m.length + 1 ≤ 1000000000) :
    RefO ((W.setCell ⟨rb, 0, none⟩ v1).setCell ⟨rb, 1, none⟩ v2) rb v1 v2 (m ++ [(id, a)]) ∧ RefO ((W.setCell ⟨rb, 1, none⟩ v2).setCell ⟨rb, 0, none⟩ v1) rb v1 v2 (m ++ [(id, a)]) ∧
      Foot (fun b => b = rb ∨ iv.ownBlock = some b ∨ av.ownBlock = some b) w ((W.setCell ⟨rb, 0, none⟩ v1).setCell ⟨rb, 1, none⟩ v2) ∧ Foot (fun b => b = rb ∨ iv.ownBlock = some b ∨ av.ownBlock = some b) w ((W.setCell ⟨rb, 1, none⟩ v2).setCell ⟨rb, 0, none⟩ v1) ∧
      (v1.ownBlock = iv.ownBlock ∨ ∀ b, v1.ownBlock = some b → w.heap.size ≤ b) ∧ (v2.ownBlock = av.ownBlock ∨ ∀ b, v2.ownBlock = some b → w.heap.size ≤ b) := by
  have hF : ∀ (Y : World) (i : Nat) (v : Value), Foot (fun b => b = rb) Y (Y.setCell ⟨rb, i, none⟩ v) := fun Y i v => ⟨rfl, rfl, rfl, by simp [World.setCell], fun b hb hn => Below.heap_setCell _ _ _ _ hn⟩
  have hF2 : ∀ (i j : Nat) (u v : Value), Foot (fun b => b = rb) W ((W.setCell ⟨rb, i, none⟩ u).setCell ⟨rb, j, none⟩ v) := fun i j u v => (hF W i u).trans (hF _ j v) (fun _ _ h => h)
  have hr := h.ra
  have hlen : (m ++ [(id, a)]).length = m.length + 1 := by simp
  have e1 : idsOf (m ++ [(id, a)]) = idsOf m ++ [.int .i64 id] := by simp [idsOf]
  have e2 : atsOf (m ++ [(id, a)]) = atsOf m ++ [.int .u64 a] := by simp [atsOf]
  have ft : ∀ (i j : Nat) (u v : Value), Foot (fun b => b = rb ∨ iv.ownBlock = some b ∨ av.ownBlock = some b) w ((W.setCell ⟨rb, i, none⟩ u).setCell ⟨rb, j, none⟩ v) := fun i j u v => (h.foot.mono (fun b hb => .inr hb)).trans (hF2 i j u v) (fun b _ hb => .inl hb)
  have mk : ∀ (i j : Nat) (u v : Value), ((W.setCell ⟨rb, i, none⟩ u).setCell ⟨rb, j, none⟩ v).heap[rb]? = some (.cells #[v1, v2] 29 (0, 0)) → RefO ((W.setCell ⟨rb, i, none⟩ u).setCell ⟨rb, j, none⟩ v) rb v1 v2 (m ++ [(id, a)]) := fun i j u v hh => by
    refine ⟨hh, ?_, ?_, by rw [hlen]; exact hs, hr.1, hr.2, h.apart⟩
    · rw [hlen, e1]; exact own_below h.rowa (hF2 i j u v) (fun b hb e => hr.1 (by rw [hb, e]))
    · rw [hlen, e2]; exact own_below h.rowb (hF2 i j u v) (fun b hb e => hr.2 (by rw [hb, e]))
  exact ⟨mk 0 1 v1 v2 (blk_set (blk_set h.head _ _) _ _), mk 1 0 v2 v1 (blk_set (blk_set h.head _ _) _ _), ft 0 1 v1 v2, ft 1 0 v2 v1, h.newa, h.newb⟩
set_option maxHeartbeats 80000000 in
set_option maxRecDepth 100000 in
/-- Set, where Drop's turn is known. -/
theorem set15_of (rb : Nat) (w : World) (id a : Int) (P : World → Value → Value → List Heap.Item → Prop) (hE : Calls Try.prog 10 #[.pointer (some ⟨rb, 0, none⟩), .int .i64 id] w fun e w' => ∃ b, e = .returned (.bool b) ∧ ∃ iv av m, RefO w' rb iv av m ∧ m.length < 1000000000 ∧ P w' iv av m) :
    Calls Try.prog 15 #[.pointer (some ⟨rb, 0, none⟩), .int .i64 id, .int .u64 a] w fun e w' => e = .returned (.tuple #[]) ∧ ∃ w1 iv av m iv' av', P w1 iv av m ∧ RefO w' rb iv' av' (m ++ [(id, a)]) ∧ Foot (fun b => b = rb ∨ iv.ownBlock = some b ∨ av.ownBlock = some b) w1 w' ∧
      (iv'.ownBlock = iv.ownBlock ∨ ∀ b, iv'.ownBlock = some b → w1.heap.size ≤ b) ∧ (av'.ownBlock = av.ownBlock ∨ ∀ b, av'.ownBlock = some b → w1.heap.size ≤ b) := by
  have HE := Aside0.mk hE
  clear hE
  go_enter Try.func15, Try.ntmps15
  go_wp2_with fail
  refine HE.out.mono ?_
  clear HE
  rintro e w ⟨b, rfl, iv, av, m, h, hs, hP⟩
  obtain ⟨h0, h1, f0, f1⟩ := h.at_
  have H0 : ∀ o, (w.alloc o).cell? ⟨rb, 0, none⟩ = some iv := fun o => (h.still (below_alloc (Below.refl _ w) o)).at_.1
  have H1 : ∀ o, (w.alloc o).cell? ⟨rb, 1, none⟩ = some av := fun o => (h.still (below_alloc (Below.refl _ w) o)).at_.2.1
  have H00 : ∀ o o', ((w.alloc o).alloc o').cell? ⟨rb, 0, none⟩ = some iv := fun o o' => (h.still (below_alloc (below_alloc (Below.refl _ w) o) o')).at_.1
  have H11 : ∀ o o', ((w.alloc o).alloc o').cell? ⟨rb, 1, none⟩ = some av := fun o o' => (h.still (below_alloc (below_alloc (Below.refl _ w) o) o')).at_.2.1
  obtain ⟨A, c, rfl⟩ := own_any h.own1
  obtain ⟨A', c', rfl⟩ := own_any h.own2
  have HST : Aside0 (St w w.drew rb (.slice A m.length c) (.slice A' m.length c') (.slice A m.length c) m.length (idsOf m) (.slice A' m.length c') m.length (atsOf m)) :=
    ⟨St.dr ⟨h.head, blk_lt h.head, Nat.le_refl _, Foot.refl _ _, h.own1, h.own2, .inl rfl, .inl rfl, h.n1, h.n2, h.n3⟩⟩
  have HB : Aside0 (m.length + 1 ≤ Go.maxLen ∧ (m.length + 1) * 8 ≤ 140737488355328 ∧ m.length + 1 ≤ 1000000000) := ⟨by unfold Go.maxLen; omega, by omega, by omega⟩
  have HP := Aside0.mk hP
  have HA1 : Aside0 (∀ k, (Value.slice A m.length c).ownBlock = some k → k < w.heap.size) := ⟨fun k hk => (h.own1.lt k hk).2⟩
  have HA2 : Aside0 (∀ k, (Value.slice A' m.length c').ownBlock = some k → k < w.heap.size) := ⟨fun k hk => (h.own2.lt k hk).2⟩
  clear h hs hP
  go_wp2_with fail
  go_region_law (first
      | (refine step_append_at _ (by rfl) (.tmp 14) (.tmp 16) 26 (by rfl) 0 3 _ (.int .i64 0) 1 8 Try.underlying26 (by rfl) (by rfl) (by rfl) (by rfl) (by rfl) (by decide) (.slice A m.length c) m.length (idsOf m) (by rfl) (by first | exact HST.out.rowa | exact (HST.out.al _).rowa | exact ((HST.out.al _).al _).rowa) _ 1 1 [.int .i64 id] (by rfl) (by rfl)
          (one_news (by first | exact blk_new _ _ | exact blk_alloc (blk_new _ _) _ | exact blk_second _ _ _ | exact one_kept hgb (blk_new _ _) (by intro e; have := HA2.out _ e.symm; first | omega | (simp at this; omega)) | exact one_kept hgb (blk_alloc (blk_new _ _) _) (by intro e; have := HA2.out _ e.symm; first | omega | (simp at this; omega)) | exact one_kept hgb (blk_second _ _ _) (by intro e; have := HA2.out _ e.symm; first | omega | (simp at this; omega))))
          (by intro u hu; simp only [List.mem_cons, List.mem_nil_iff, or_false] at hu; subst hu; rfl) HB.out.1 HB.out.2.1 (Nat.zero_le _) ?_
         intro v1 W1 ho1 hga ha1
         have HST1 : Aside0 (St w W1 rb _ _ _ _ _ _ _ _) := ⟨by first | exact HST.out.a hga ho1 ha1 | exact (HST.out.al _).a hga ho1 ha1 | exact ((HST.out.al _).al _).a hga ho1 ha1⟩
         obtain ⟨c10, c11, f10, f11⟩ := HST1.out.cells
         have c12 := fun o => (HST1.out.al o).cells.2.1
         obtain ⟨Av, cv, rfl⟩ := own_any ho1
         replace HST := HST1; clear HST1 ho1 ha1)
      | (refine step_append_at _ (by rfl) (.tmp 21) (.tmp 23) 27 (by rfl) 0 31 _ (.int .u64 0) 1 8 Try.underlying27 (by rfl) (by rfl) (by rfl) (by rfl) (by rfl) (by decide) (.slice A' m.length c') m.length (atsOf m) (by rfl) (by first | exact HST.out.rowb | exact (HST.out.al _).rowb | exact ((HST.out.al _).al _).rowb) _ 1 1 [.int .u64 a] (by rfl) (by rfl)
          (one_news (by first | exact blk_new _ _ | exact blk_alloc (blk_new _ _) _ | exact blk_second _ _ _ | exact one_kept hga (blk_new _ _) (by intro e; have := HA1.out _ e.symm; first | omega | (simp at this; omega)) | exact one_kept hga (blk_alloc (blk_new _ _) _) (by intro e; have := HA1.out _ e.symm; first | omega | (simp at this; omega)) | exact one_kept hga (blk_second _ _ _) (by intro e; have := HA1.out _ e.symm; first | omega | (simp at this; omega))))
          (by intro u hu; simp only [List.mem_cons, List.mem_nil_iff, or_false] at hu; subst hu; rfl) HB.out.1 HB.out.2.1 (Nat.zero_le _) ?_
         intro v2 W2 ho2 hgb ha2
         have HST2 : Aside0 (St w W2 rb _ _ _ _ _ _ _ _) := ⟨by first | exact HST.out.b hgb ho2 ha2 | exact (HST.out.al _).b hgb ho2 ha2 | exact ((HST.out.al _).al _).b hgb ho2 ha2⟩
         obtain ⟨c20, c21, f20, f21⟩ := HST2.out.cells
         have c22 := fun o => (HST2.out.al o).cells.1
         obtain ⟨Aw, cw, rfl⟩ := own_any ho2
         replace HST := HST2; clear HST2 ho2 ha2))
  all_goals go_wp2
  all_goals go_end0
  all_goals
    obtain ⟨z1, z2, z3, z4, z5, z6⟩ := set_end HST.out HB.out.2.2
    first
    | exact ⟨rfl, w, _, _, m, _, _, HP.out, z1, z3, z5, z6⟩
    | exact ⟨rfl, w, _, _, m, _, _, HP.out, z2, z4, z5, z6⟩
end Go.Proofs.Ythjcdjanadeobaa.MH
