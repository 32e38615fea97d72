/- ResidueBack: part 23 of its proof. -/
import Derived.Test.YthapknnppabdaaaGreatZ02
import Derived.Shelf.Abstract
import Derived.Lib.LazyBuf
import Derived.Test.YthapknnppabdaaaGreatZ22
namespace Go.Proofs.YthapknnppabdaaaGreat.MQ
open Go.RowKit Go.Proofs.YthapknnppabdaaaGreatW.PrintWords Go.Proofs.YthapknnppabdaaaGreatW.PrintLast Go.Proofs.YthapknnppabdaaaGreatW.PrintMore
set_option linter.unusedVariables false
set_option linter.unusedSimpArgs false
def slices_Clone_byte_byte.f (a0 : List Int) : Option (List Int) := if a0.length ≤ 140737488355328 then some a0 else none
theorem slices_Clone_byte_byte.empty (w : World) : Kd.R (Kd.int .u8) 5 (w.alloc (.cells #[] 5)) w.heap.size (fun _ => True) (.slice (some ⟨w.heap.size, 0, none⟩) 0 0) ([] : List Int) :=
  ⟨fun _ _ => trivial, [], ⟨rfl, .inr ⟨w.heap.size, 0, #[], rfl, Nat.le_refl _, blk_new w _, Nat.le_refl _, Nat.zero_le _, rfl, rfl⟩⟩, Reps.none _ _⟩
theorem slices_Clone_byte_byte.is_nil (W : World) (a : Option Addr) (n c : Nat) : (binOp .eql 38 (.slice a n c) (.slice none 0 0)).run Tryz.prog W = .ok (.bool a.isNone) W := Go.run_eql_slice_nil W 38 5 a n c Tryz.underlying38
set_option maxHeartbeats 4000000 in
set_option maxRecDepth 100000 in
theorem slices_Clone_byte_byte.calls (A0 : Option Addr) (c0 : Nat) (l0 : List Int) (r : List Int) (w : World) (hr0 : Kd.C (Kd.int .u8) w A0 l0.length l0) (hc0 : l0.length ≤ c0) (h : slices_Clone_byte_byte.f l0 = some r) :
    Calls Tryz.prog 65 #[.slice A0 l0.length c0] w fun e w' => ∃ v0_ : Value, e = .returned (v0_) ∧ Kd.R (Kd.int .u8) 5 w' w.heap.size (fun _ => True) v0_ r ∧ Below w.heap.size w w' := by
  unfold slices_Clone_byte_byte.f at h
  by_cases hs : l0.length ≤ 140737488355328
  · rw [if_pos hs] at h
    obtain rfl := Option.some.inj h
    have HR := Aside0.mk hr0
    have HS := Aside0.mk hs
    clear hr0 h hs hc0
    rcases A0 with _ | ad
    · have hl : l0 = [] := by
        rcases Nat.eq_zero_or_pos l0.length with h0 | h0
        · exact List.length_eq_zero_iff.1 h0
        · obtain ⟨ad, h, _⟩ := HR.out.2.2 h0; cases h
      subst hl
      clear HR HS
      have hnil_ := fun W : World => slices_Clone_byte_byte.is_nil W none 0 c0
      go_enter Tryz.func65, Tryz.ntmps65
      go_wp2
      go_ret
      exact ⟨_, rfl, Kd.R_nil _ _ _ _ _, Below.refl _ _⟩
    · have hnil_ := fun W : World => slices_Clone_byte_byte.is_nil W (some ad) l0.length c0
      go_enter Tryz.func65, Tryz.ntmps65
      go_wp2_with (at_builtin; refine Kd.R_append_rows (Kd.int .u8) (w0 := w) w.heap.size rfl (.tmp 5) (.tmp 6) 38 5 (.int .u8 0) 1 rfl Tryz.underlying38 info5 rfl (by decide) (by decide) _ ([] : List Int) l0 _ _ _ (fun _ => True) (fun _ => False) rfl rfl (slices_Clone_byte_byte.empty w) (Kd.C_alloc HR.out _) (fun _ _ h => h) (fun _ h => h.elim) (fun _ _ => trivial) (below_alloc (Below.refl _ w) _) (below_size (below_alloc (Below.refl _ w) _)) (by have := HS.out; simp only [List.length_nil]; omega) ?_; intro v1 w1 ho hb hg hat)
      go_ret
      exact ⟨_, rfl, ho, hb⟩
  · rw [if_neg hs] at h
    cases h

theorem info48c : (Tryz.prog.info? 48).map (fun i => (i.zero, i.size, i.bytes)) = some (some (.agg #[(.string ⟨#[]⟩), (.string ⟨#[]⟩)]), 2, 32) := by kernel_rfl
def api_Pair_37.f (a0 : List S48) : Option (List S48) := if a0.length ≤ 4398046511104 then some a0 else none
theorem api_Pair_37.empty (w : World) : Kd.R k48 48 (w.alloc (.cells #[] 48)) w.heap.size (fun _ => True) (.slice (some ⟨w.heap.size, 0, none⟩) 0 0) ([] : List S48) :=
  ⟨fun _ _ => trivial, [], ⟨rfl, .inr ⟨w.heap.size, 0, #[], rfl, Nat.le_refl _, blk_new w _, Nat.le_refl _, Nat.zero_le _, rfl, rfl⟩⟩, Reps.none _ _⟩
theorem api_Pair_37.is_nil (W : World) (a : Option Addr) (n c : Nat) : (binOp .eql 26 (.slice a n c) (.slice none 0 0)).run Tryz.prog W = .ok (.bool a.isNone) W := Go.run_eql_slice_nil W 26 48 a n c Tryz.underlying26
set_option maxHeartbeats 4000000 in
set_option maxRecDepth 100000 in
theorem api_Pair_37.calls (A0 : Option Addr) (c0 : Nat) (l0 : List S48) (r : List S48) (w : World) (hr0 : Kd.C k48 w A0 l0.length l0) (hc0 : l0.length ≤ c0) (h : api_Pair_37.f l0 = some r) :
    Calls Tryz.prog 37 #[.slice A0 l0.length c0] w fun e w' => ∃ v0_ : Value, e = .returned (v0_) ∧ Kd.R k48 48 w' w.heap.size (fun _ => True) v0_ r ∧ Below w.heap.size w w' := by
  unfold api_Pair_37.f at h
  by_cases hs : l0.length ≤ 4398046511104
  · rw [if_pos hs] at h
    obtain rfl := Option.some.inj h
    have HR := Aside0.mk hr0
    have HS := Aside0.mk hs
    clear hr0 h hs hc0
    rcases A0 with _ | ad
    · have hl : l0 = [] := by
        rcases Nat.eq_zero_or_pos l0.length with h0 | h0
        · exact List.length_eq_zero_iff.1 h0
        · obtain ⟨ad, h, _⟩ := HR.out.2.2 h0; cases h
      subst hl
      clear HR HS
      have hnil_ := fun W : World => api_Pair_37.is_nil W none 0 c0
      go_enter Tryz.func37, Tryz.ntmps37
      go_wp2
      go_ret
      exact ⟨_, rfl, Kd.R_nil _ _ _ _ _, Below.refl _ _⟩
    · have hnil_ := fun W : World => api_Pair_37.is_nil W (some ad) l0.length c0
      go_enter Tryz.func37, Tryz.ntmps37
      go_wp2_with (at_builtin; refine Kd.R_append_rows k48 (w0 := w) w.heap.size rfl (.tmp 5) (.tmp 6) 26 48 (.agg #[(.string ⟨#[]⟩), (.string ⟨#[]⟩)]) 32 rfl Tryz.underlying26 info48c rfl (by decide) (by decide) _ ([] : List S48) l0 _ _ _ (fun _ => True) (fun _ => False) rfl rfl (api_Pair_37.empty w) (Kd.C_alloc HR.out _) (fun _ _ h => h) (fun _ h => h.elim) (fun _ _ => trivial) (below_alloc (Below.refl _ w) _) (below_size (below_alloc (Below.refl _ w) _)) (by have := HS.out; simp only [List.length_nil]; omega) ?_; intro v1 w1 ho hb hg hat)
      go_ret
      exact ⟨_, rfl, ho, hb⟩
  · rw [if_neg hs] at h
    cases h

/-- A list that lies in blocks from b on, whatever becomes of the others. -/
def GL {α : Type} (d : Kd α) (b : Nat) (W : World) (v : Value) (l : List α) : Prop := ∃ A c, v = .slice A l.length c ∧ l.length ≤ c ∧ ∀ W' : World, (∀ k, b ≤ k → k < W.heap.size → W'.heap[k]? = W.heap[k]?) → d.C W' A l.length l
theorem gl_R {α : Type} {d : Kd α} {e b : Nat} {W : World} {v : Value} {l : List α} (h : Kd.R d e W b (fun _ => True) v l) : GL d b W v l := by
  obtain ⟨A, c, q, hc, _⟩ := Kd.R_reads h
  subst q
  exact ⟨A, c, rfl, hc, fun W' hW => (Kd.R_reads' (Kd.R_step (Kd.R_bound h) (fun k hk hlt => hW k hk.2.1 hlt))).2.2⟩
theorem gl_S {α : Type} {d : Kd α} {e b : Nat} {W : World} {v : Value} {l : List α} (h : Kd.S d e W b (fun _ => True) v l) : GL d b W v l := by
  obtain ⟨A, c, q⟩ := Kd.S_slice h
  subst q
  exact ⟨A, c, rfl, (Kd.S_reads' h).2.1, fun W' hW => (Kd.S_reads' (Kd.S_step (Kd.S_bound h) (fun k hk hlt => hW k hk.2.1 hlt))).2.2⟩
/-- Blocks from b on are as they were. -/
def KB (b : Nat) (W W' : World) : Prop := W.heap.size ≤ W'.heap.size ∧ ∀ k, b ≤ k → k < W.heap.size → W'.heap[k]? = W.heap[k]?
theorem KB.refl (b : Nat) (W : World) : KB b W W := ⟨Nat.le_refl _, fun _ _ _ => rfl⟩
theorem KB.trans {b : Nat} {W W1 W2 : World} (h : KB b W W1) (g : KB b W1 W2) : KB b W W2 := ⟨Nat.le_trans h.1 g.1, fun k h1 h2 => (g.2 k h1 (Nat.lt_of_lt_of_le h2 h.1)).trans (h.2 k h1 h2)⟩
theorem KB.below {b : Nat} {W W1 W2 : World} (h : KB b W W1) (g : Below W1.heap.size W1 W2) : KB b W W2 := h.trans ⟨g.size, fun k _ h2 => g.block k h2⟩
theorem KB.set {b : Nat} {W W1 : World} (h : KB b W W1) {g : Nat} (hg : g < b ∨ W.heap.size ≤ g) (j : Nat) (u : Value) : KB b W (W1.setCell ⟨g, j, none⟩ u) :=
  ⟨by simpa [World.setCell] using h.1, fun k h1 h2 => (Below.heap_setCell _ _ _ _ (by show k ≠ g; omega)).trans (h.2 k h1 h2)⟩
theorem KB.but {b : Nat} {W W1 W2 : World} (h : KB b W W1) {g : Nat} (hg : g < b ∨ W.heap.size ≤ g) (hk : KeepBut W1 W2 g none) : KB b W W2 :=
  ⟨Nat.le_trans h.1 hk.1, fun k h1 h2 => (hk.2 k (Nat.lt_of_lt_of_le h2 h.1) (by omega) (by simp)).trans (h.2 k h1 h2)⟩
theorem GL.step {α : Type} {d : Kd α} {b : Nat} {W W1 : World} {v : Value} {l : List α} (h : GL d b W v l) (g : KB b W W1) : GL d b W1 v l := by
  obtain ⟨A, c, e, hc, hC⟩ := h
  exact ⟨A, c, e, hc, fun W' hW => hC W' (fun k h1 h2 => (hW k h1 (Nat.lt_of_lt_of_le h2 g.1)).trans (g.2 k h1 h2))⟩
theorem gl_now {α : Type} {d : Kd α} {b : Nat} {W W1 : World} {A : Option Addr} {n c : Nat} {l : List α} (h : GL d b W (.slice A n c) l) (g : KB b W W1) : l.length ≤ c ∧ d.C W1 A l.length l := by
  obtain ⟨A', c', e, hc, hC⟩ := h
  injection e with h1 h2 h3
  subst h1; subst h3
  exact ⟨hc, hC W1 g.2⟩
def T39_5 : Bool × List (List Nat × List Nat) := (true, [([], []), ([], []), ([1], [1]), ([], []), ([3], [3]), ([4], [4]), ([2, 5], [2, 5]), ([6], [6]), ([0, 7, 5], [0, 7]), ([8, 8, 0, 1, 2, 3, 4, 5, 6, 7, 8], [0, 8])])
def B39_5 : List Nat := [0, 0, 2, 0, 8, 24, 62, 126, 255, 511]
theorem tab39_5 : rtab .any (opsOf Tryz.f39 5) = T39_5 := by kernel_rfl
theorem bits39_5 : waitsOk T39_5.2 B39_5 = true := by kernel_rfl
set_option maxHeartbeats 8000000 in
set_option maxRecDepth 100000 in
theorem elements_x (A : Option Addr) (c : Nat) (l : List S50) (w : World) (hC : k50.C w A l.length l) (hl : l.length ≤ 4398046511104) (hd : ∀ t ∈ l, t.f1.length ≤ 140737488355328) : Calls Tryz.prog 39 #[.slice A l.length c] w fun e w' => ∃ v : Value, e = .returned v ∧ Kd.S k50 50 w' w.heap.size (fun _ => True) v l ∧ Below w.heap.size w w' := by
  have HC := Aside0.mk hC
  have HL := Aside0.mk (And.intro hl hd)
  have hu := Tryz.underlying50
  clear hC hl hd
  go_enter Tryz.func39, Tryz.ntmps39
  go_wp2_with fail
  go_loopg [3, 8] l.length (fun gg s3 s8 wr => ∃ k : Nat, k ≤ l.length ∧ l.length - k ≤ gg ∧ s8 = .int .i64 k ∧ Aside0 (Kd.S k50 50 wr w.heap.size (fun _ => True) s3 (l.take k)) ∧ Aside0 (Below w.heap.size w wr))
  case atStart => exact ⟨0, by omega, by omega, rfl, ⟨Kd.S_nil _ _ _ _ _⟩, ⟨Below.refl _ w⟩⟩
  case round =>
    obtain ⟨k, hk, hg, rfl, HS, BR⟩ := hrel
    have ek : wrap64 ((k : Int) + 1) = ((k + 1 : Nat) : Int) := by have := HL.out.1; unfold wrap64; omega
    have EK := Aside0.mk ek; clear ek
    by_cases hlt : k < l.length
    · have hltz : (k : Int) < (l.length : Int) := by omega
      obtain ⟨ad, A1, c1, eA, a0, a1, al, ag⟩ := at_T50 (Kd.C_below HC.out BR.out) (k : Int) (by omega) (by omega)
      subst eA
      rw [Int.toNat_natCast] at a0 a1
      have hrd : rd_T50 l (k : Int) = l[k] := by simp [rd_T50, List.getD_eq_getElem?_getD, hlt]
      rw [hrd] at a0 a1 al ag
      have HD := Aside0.mk (HL.out.2 _ (List.getElem_mem hlt))
      have HTK := Aside0.mk (List.take_succ_eq_append_getElem hlt)
      obtain ⟨y, hy⟩ : ∃ y, y = l[k] := ⟨_, rfl⟩
      rw [← hy] at a0 a1 al ag HD HTK
      clear hy hrd
      obtain ⟨n, d⟩ := y
      have HAG := Aside0.mk (And.intro al ag)
      clear al ag
      have HN : Aside0 ((l.take k).length = k) := ⟨by rw [List.length_take]; omega⟩
      obtain ⟨xs, hxs⟩ : ∃ xs, xs = l.take k := ⟨_, rfl⟩
      rw [← hxs] at HS HN HTK
      clear hxs
      obtain ⟨A3, c3, e3⟩ := Kd.S_slice HS.out
      subst e3
      go_upto_region 5 with fail
      obtain ⟨q, hq⟩ : ∃ q, q = wr.heap.size := ⟨_, rfl⟩
      have hb := blk_new wr (.cells #[.int .i64 n, .slice A1 d.length c1] 50)
      have bx := below_alloc (Below.refl _ wr) (.cells #[.int .i64 n, .slice A1 d.length c1] 50)
      have sx := Kd.S_old HS.out (below_alloc (Below.refl _ wr) (.cells #[.int .i64 n, .slice A1 d.length c1] 50))
      have hsz : Aside0 (w.heap.size ≤ q) := ⟨by rw [hq]; exact below_size BR.out⟩
      have bw := below_alloc BR.out (.cells #[.int .i64 n, .slice A1 d.length c1] 50)
      have hc := Kd.C_below HAG.out.2 bx
      rw [← hq] at hb sx ⊢
      clear hq bx
      generalize wr.alloc (.cells #[.int .i64 n, .slice A1 d.length c1] 50) = w1 at hb sx bw hc ⊢
      have HB := Aside0.mk hb
      have BX := Aside0.mk bw
      have SX := Aside0.mk sx
      have HCC := Aside0.mk hc
      clear hb sx bw hc a0 a1 HS
      have BD := Aside0.mk (below_drew1 (Below.refl w1.heap.size w1))
      refine start_ (n := 10) (ds := []) (S := fun w' => w'.cell? ⟨q, 0, none⟩ = some (.int .i64 n) ∧ w'.cell? ⟨q, 1, none⟩ = some (.slice A1 d.length c1)) (V 10 0) (by rfl) (by rfl) (by kernel_rfl) (⟨(blk_cell (blk_below HB.out BD.out) 0).trans rfl, (blk_cell (blk_below HB.out BD.out) 1).trans rfl⟩) (fun hHeld => ?_); refine with_tabW tab39_5 bits39_5 (fun HT_ HW_ => ?_)
      generalize w1.drew = wd at BD hHeld ⊢
      refine pure_ (i := 0) (N := some 12) (v := ?_) (a' := ?_) (V 10 1) rfl rfl (any_of HT_.out (by kernel_rfl)) (fun _ _ _ h => h) (Or.inl ⟨by rfl, ?_⟩) ?_ ?_; rotate_left
      · intro w'; go_simp; with_reducible rfl
      rotate_left
      · simp only [Act.put, List.setIfInBounds_toArray, List.set_cons_zero, List.set_cons_succ, i64_w, i32_w]; rfl
      refine pure_ (i := 1) (N := some 13) (v := ?_) (a' := ?_) (V 10 3) rfl rfl (any_of HT_.out (by kernel_rfl)) (fun _ _ _ h => h) (Or.inl ⟨by rfl, ?_⟩) ?_ ?_; rotate_left
      · intro w'; go_simp; with_reducible rfl
      rotate_left
      · simp only [Act.put, List.setIfInBounds_toArray, List.set_cons_zero, List.set_cons_succ, i64_w, i32_w]; rfl
      refine take_ (i := 2) (N := some 14) (v := ?_) (a' := ?_) (V 10 7) rfl rfl (take_ofW HT_.out HW_.out (by kernel_rfl)) (fun _ _ _ h => h) (Or.inl ⟨by rfl, ?_⟩) hHeld ?_ ?_; rotate_left
      · rintro w' ⟨s1, s2⟩; go_simp; with_reducible rfl
      rotate_left
      · simp only [Act.put, List.setIfInBounds_toArray, List.set_cons_zero, List.set_cons_succ, i64_w, i32_w]; rfl
      refine pure_ (i := 3) (N := some 15) (v := ?_) (a' := ?_) (V 10 15) rfl rfl (any_of HT_.out (by kernel_rfl)) (fun _ _ _ h => h) (Or.inl ⟨by rfl, ?_⟩) ?_ ?_; rotate_left
      · intro w'; go_simp; with_reducible rfl
      rotate_left
      · simp only [Act.put, List.setIfInBounds_toArray, List.set_cons_zero, List.set_cons_succ, i64_w, i32_w]; rfl
      refine take_ (i := 4) (N := some 16) (v := ?_) (a' := ?_) (V 10 31) rfl rfl (take_ofW HT_.out HW_.out (by kernel_rfl)) (fun _ _ _ h => h) (Or.inl ⟨by rfl, ?_⟩) hHeld ?_ ?_; rotate_left
      · rintro w' ⟨s1, s2⟩; go_simp; with_reducible rfl
      rotate_left
      · simp only [Act.put, List.setIfInBounds_toArray, List.set_cons_zero, List.set_cons_succ, i64_w, i32_w]; rfl
      refine one_ (i := 5) (N := some 17) (V 10 63) rfl rfl (one_of HT_.out (by kernel_rfl)) (by decide) (fun K hK => ?_)
      refine goes_ Tryz.func65 (by kernel_rfl) rfl #[.slice A1 d.length c1] (by rfl) rfl rfl (by (try simp only [List.map_toArray, List.map_cons, List.map_nil]); first | done | rfl) ?_
      with_reducible refine (slices_Clone_byte_byte.calls A1 c1 d d _ (Kd.C_below HCC.out BD.out) HAG.out.1 (by unfold slices_Clone_byte_byte.f; rw [if_pos HD.out])).mono ?_
      rintro e w105 ⟨v0, rfl, hR, hb⟩
      refine ⟨_, rfl, ?_⟩
      obtain ⟨Ad, cd, ed⟩ := Kd.R_slice hR
      subst ed
      have HDD := Aside0.mk (Kd.R_lower hR (below_size BD.out)); have BD5 := Aside0.mk (below_step BD.out hb); clear hR hb BD hHeld; have BD := BD5; clear BD5
      refine hK.out _ _ (⟨(blk_cell (blk_below HB.out BD.out) 0).trans rfl, (blk_cell (blk_below HB.out BD.out) 1).trans rfl⟩) (fun hHeld => ?_)
      clear hK K
      refine norm_ (a' := ?_) ?_ ?_; rotate_left
      · show Act.put _ (some 17) _ = _; simp only [Act.put, List.setIfInBounds_toArray, List.set_cons_zero, List.set_cons_succ, i64_w, i32_w]; rfl
      refine pure_ (i := 6) (N := some 18) (v := ?_) (a' := ?_) (V 10 127) rfl rfl (any_of HT_.out (by kernel_rfl)) (fun _ _ _ h => h) (Or.inl ⟨by rfl, ?_⟩) ?_ ?_; rotate_left
      · intro w'; go_simp; with_reducible rfl
      rotate_left
      · simp only [Act.put, List.setIfInBounds_toArray, List.set_cons_zero, List.set_cons_succ, i64_w, i32_w]; rfl
      refine one_ (i := 7) (N := some 19) (V 10 255) rfl rfl (one_of HT_.out (by kernel_rfl)) (by decide) (fun K hK => ?_)
      refine value_ (w1 := ?_) (v := ?_) (by rfl) rfl ?_ ?_; rotate_left 2
      · go_simp
        constructor
        · rfl
        · rfl
      refine hK.out _ _ (⟨(blk_cell (blk_below HB.out (below_alloc BD.out _)) 0).trans rfl, (blk_cell (blk_below HB.out (below_alloc BD.out _)) 1).trans rfl⟩) (fun hHeld => ?_)
      clear hK K
      refine norm_ (a' := ?_) ?_ ?_; rotate_left
      · show Act.put _ (some 19) _ = _; simp only [Act.put, List.setIfInBounds_toArray, List.set_cons_zero, List.set_cons_succ, i64_w, i32_w]; rfl
      refine one_ (i := 8) (N := some 20) (V 10 511) rfl rfl (one_of HT_.out (by kernel_rfl)) (by decide) (fun K hK => ?_)
      have SX5 := Aside0.mk (Kd.S_below SX.out BD.out); have BX5 := Aside0.mk (below_step BX.out BD.out); have HB5 := Aside0.mk (blk_below HB.out BD.out)
      refine Kd.S_append_step k50 (w0 := w) w.heap.size (by rfl) (.tmp 12) (.tmp 19) 27 50 (.agg #[.int .i64 0, .slice none 0 0]) 32 rfl Tryz.underlying27 info50 rfl (by decide) (by omega) (.slice A3 xs.length c3) xs (⟨n, d⟩ : S50) [.int .i64 n, .slice Ad d.length cd] (fun _ => True) (fun k => some k = (Value.slice Ad d.length cd).ownBlock) rfl rfl ?aP ?aK ?aF ?aO ?aB ?aS ?aL ?_
      (case aP => exact k50_mkM _ _ _ (⟨n, d⟩ : S50) (Kd.R_lower (Kd.R_tight rfl HDD.out) (below_size BX.out)))
      (case aK => exact (fun k hk => ⟨trivial, Kd.S_away SX5.out (fun k' hk' => by have h1 := Kd.R_base HDD.out k hk.symm; have h2 : k' < q := hk'.2; have h3 := blk_lt HB.out; omega)⟩))
      (case aF => exact (fun _ _ => trivial))
      (case aO => exact Kd.S_mono SX5.out (fun k hk => ⟨trivial, fun ek => by have h1 := Kd.R_base HDD.out k ek.symm; have h2 : k < q := hk.2; have h3 := blk_lt HB.out; omega⟩))
      (case aB => exact BX5.out)
      (case aS => exact below_size BX5.out)
      (case aL => exact (by have := HN.out; have := HL.out.1; omega))
      intro v2 w6 ho hb hg hat
      have HB6 : w6.heap[q]? = some (.cells #[.int .i64 n, .slice A1 d.length c1] 50 (0, 0)) := (hg.block q (blk_lt HB5.out) (Kd.S_away SX5.out (fun k' hk' => by have h2 : k' < q := hk'.2; omega))).trans HB5.out
      have HO := Aside0.mk ho; have BO := Aside0.mk hb; clear ho hb hg hat
      refine hK.out _ _ (⟨(blk_cell HB6 0).trans rfl, (blk_cell HB6 1).trans rfl⟩) (fun hHeld => ?_)
      clear hK K
      refine norm_ (a' := ?_) ?_ ?_; rotate_left
      · show Act.put _ (some 20) _ = _; simp only [Act.put, List.setIfInBounds_toArray, List.set_cons_zero, List.set_cons_succ, i64_w, i32_w]; rfl
      refine pure_ (i := 9) (N := some 3) (v := ?_) (a' := ?_) (V 10 1023) rfl rfl (any_of HT_.out (by kernel_rfl)) (fun _ _ _ h => h) (Or.inl ⟨by rfl, ?_⟩) ?_ ?_; rotate_left
      · intro w'; go_simp; with_reducible rfl
      rotate_left
      · simp only [Act.put, List.setIfInBounds_toArray, List.set_cons_zero, List.set_cons_succ, i64_w, i32_w]; rfl
      refine done_ (done_of HT_.out (by kernel_rfl)) ?_
      try go_wp2
      go_roundg (l.length - (k + 1))
      case measure => omega
      case rel => exact ⟨k + 1, by omega, Nat.le_refl _, by rw [EK.out], ⟨by rw [HTK.out]; exact HO.out⟩, BO⟩
    · have hltz : ¬ (k : Int) < (l.length : Int) := by omega
      have HE : Aside0 (Kd.S k50 50 wr w.heap.size (fun _ => True) u3 l) := ⟨by have h := HS.out; rwa [List.take_of_length_le (by omega)] at h⟩
      go_wp2_with fail
      go_ret
      exact ⟨u3, rfl, HE.out, BR.out⟩
def T50_5 : Bool × List (List Nat × List Nat) := (true, [([], []), ([], []), ([1], [1]), ([], []), ([3], [3]), ([4], [4]), ([2, 5], [2, 5]), ([6], [6]), ([0, 7, 5], [0, 7]), ([8, 8, 0, 1, 2, 3, 4, 5, 6, 7, 8], [0, 8])])
def B50_5 : List Nat := [0, 0, 2, 0, 8, 24, 62, 126, 255, 511]
theorem tab50_5 : rtab .any (opsOf Tryz.f50 5) = T50_5 := by kernel_rfl
theorem bits50_5 : waitsOk T50_5.2 B50_5 = true := by kernel_rfl
set_option maxHeartbeats 8000000 in
set_option maxRecDepth 100000 in
theorem tags_copy (A : Option Addr) (c : Nat) (l : List S46) (w : World) (hC : k46.C w A l.length l) (hl : l.length ≤ 4398046511104) (hd : ∀ t ∈ l, t.f1.length ≤ 140737488355328) : Calls Tryz.prog 50 #[.slice A l.length c] w fun e w' => ∃ v : Value, e = .returned v ∧ Kd.S k46 46 w' w.heap.size (fun _ => True) v l ∧ Below w.heap.size w w' := by
  have HC := Aside0.mk hC
  have HL := Aside0.mk (And.intro hl hd)
  have hu := Tryz.underlying46
  clear hC hl hd
  go_enter Tryz.func50, Tryz.ntmps50
  go_wp2_with fail
  go_loopg [3, 8] l.length (fun gg s3 s8 wr => ∃ k : Nat, k ≤ l.length ∧ l.length - k ≤ gg ∧ s8 = .int .i64 k ∧ Aside0 (Kd.S k46 46 wr w.heap.size (fun _ => True) s3 (l.take k)) ∧ Aside0 (Below w.heap.size w wr))
  case atStart => exact ⟨0, by omega, by omega, rfl, ⟨Kd.S_nil _ _ _ _ _⟩, ⟨Below.refl _ w⟩⟩
  case round =>
    obtain ⟨k, hk, hg, rfl, HS, BR⟩ := hrel
    have ek : wrap64 ((k : Int) + 1) = ((k + 1 : Nat) : Int) := by have := HL.out.1; unfold wrap64; omega
    have EK := Aside0.mk ek; clear ek
    by_cases hlt : k < l.length
    · have hltz : (k : Int) < (l.length : Int) := by omega
      obtain ⟨ad, A1, c1, eA, a0, a1, al, ag⟩ := at_T46 (Kd.C_below HC.out BR.out) (k : Int) (by omega) (by omega)
      subst eA
      rw [Int.toNat_natCast] at a0 a1
      have hrd : rd_T46 l (k : Int) = l[k] := by simp [rd_T46, List.getD_eq_getElem?_getD, hlt]
      rw [hrd] at a0 a1 al ag
      have HD := Aside0.mk (HL.out.2 _ (List.getElem_mem hlt))
      have HTK := Aside0.mk (List.take_succ_eq_append_getElem hlt)
      obtain ⟨y, hy⟩ : ∃ y, y = l[k] := ⟨_, rfl⟩
      rw [← hy] at a0 a1 al ag HD HTK
      clear hy hrd
      obtain ⟨n, d⟩ := y
      have HAG := Aside0.mk (And.intro al ag)
      clear al ag
      have HN : Aside0 ((l.take k).length = k) := ⟨by rw [List.length_take]; omega⟩
      obtain ⟨xs, hxs⟩ : ∃ xs, xs = l.take k := ⟨_, rfl⟩
      rw [← hxs] at HS HN HTK
      clear hxs
      obtain ⟨A3, c3, e3⟩ := Kd.S_slice HS.out
      subst e3
      go_upto_region 5 with fail
      obtain ⟨q, hq⟩ : ∃ q, q = wr.heap.size := ⟨_, rfl⟩
      have hb := blk_new wr (.cells #[.int .i64 n, .slice A1 d.length c1] 46)
      have bx := below_alloc (Below.refl _ wr) (.cells #[.int .i64 n, .slice A1 d.length c1] 46)
      have sx := Kd.S_old HS.out (below_alloc (Below.refl _ wr) (.cells #[.int .i64 n, .slice A1 d.length c1] 46))
      have hsz : Aside0 (w.heap.size ≤ q) := ⟨by rw [hq]; exact below_size BR.out⟩
      have bw := below_alloc BR.out (.cells #[.int .i64 n, .slice A1 d.length c1] 46)
      have hc := Kd.C_below HAG.out.2 bx
      rw [← hq] at hb sx ⊢
      clear hq bx
      generalize wr.alloc (.cells #[.int .i64 n, .slice A1 d.length c1] 46) = w1 at hb sx bw hc ⊢
      have HB := Aside0.mk hb
      have BX := Aside0.mk bw
      have SX := Aside0.mk sx
      have HCC := Aside0.mk hc
      clear hb sx bw hc a0 a1 HS
      have BD := Aside0.mk (below_drew1 (Below.refl w1.heap.size w1))
      refine start_ (n := 10) (ds := []) (S := fun w' => w'.cell? ⟨q, 0, none⟩ = some (.int .i64 n) ∧ w'.cell? ⟨q, 1, none⟩ = some (.slice A1 d.length c1)) (V 10 0) (by rfl) (by rfl) (by kernel_rfl) (⟨(blk_cell (blk_below HB.out BD.out) 0).trans rfl, (blk_cell (blk_below HB.out BD.out) 1).trans rfl⟩) (fun hHeld => ?_); refine with_tabW tab50_5 bits50_5 (fun HT_ HW_ => ?_)
      generalize w1.drew = wd at BD hHeld ⊢
      refine pure_ (i := 0) (N := some 12) (v := ?_) (a' := ?_) (V 10 1) rfl rfl (any_of HT_.out (by kernel_rfl)) (fun _ _ _ h => h) (Or.inl ⟨by rfl, ?_⟩) ?_ ?_; rotate_left
      · intro w'; go_simp; with_reducible rfl
      rotate_left
      · simp only [Act.put, List.setIfInBounds_toArray, List.set_cons_zero, List.set_cons_succ, i64_w, i32_w]; rfl
      refine pure_ (i := 1) (N := some 13) (v := ?_) (a' := ?_) (V 10 3) rfl rfl (any_of HT_.out (by kernel_rfl)) (fun _ _ _ h => h) (Or.inl ⟨by rfl, ?_⟩) ?_ ?_; rotate_left
      · intro w'; go_simp; with_reducible rfl
      rotate_left
      · simp only [Act.put, List.setIfInBounds_toArray, List.set_cons_zero, List.set_cons_succ, i64_w, i32_w]; rfl
      refine take_ (i := 2) (N := some 14) (v := ?_) (a' := ?_) (V 10 7) rfl rfl (take_ofW HT_.out HW_.out (by kernel_rfl)) (fun _ _ _ h => h) (Or.inl ⟨by rfl, ?_⟩) hHeld ?_ ?_; rotate_left
      · rintro w' ⟨s1, s2⟩; go_simp; with_reducible rfl
      rotate_left
      · simp only [Act.put, List.setIfInBounds_toArray, List.set_cons_zero, List.set_cons_succ, i64_w, i32_w]; rfl
      refine pure_ (i := 3) (N := some 15) (v := ?_) (a' := ?_) (V 10 15) rfl rfl (any_of HT_.out (by kernel_rfl)) (fun _ _ _ h => h) (Or.inl ⟨by rfl, ?_⟩) ?_ ?_; rotate_left
      · intro w'; go_simp; with_reducible rfl
      rotate_left
      · simp only [Act.put, List.setIfInBounds_toArray, List.set_cons_zero, List.set_cons_succ, i64_w, i32_w]; rfl
      refine take_ (i := 4) (N := some 16) (v := ?_) (a' := ?_) (V 10 31) rfl rfl (take_ofW HT_.out HW_.out (by kernel_rfl)) (fun _ _ _ h => h) (Or.inl ⟨by rfl, ?_⟩) hHeld ?_ ?_; rotate_left
      · rintro w' ⟨s1, s2⟩; go_simp; with_reducible rfl
      rotate_left
      · simp only [Act.put, List.setIfInBounds_toArray, List.set_cons_zero, List.set_cons_succ, i64_w, i32_w]; rfl
      refine one_ (i := 5) (N := some 17) (V 10 63) rfl rfl (one_of HT_.out (by kernel_rfl)) (by decide) (fun K hK => ?_)
      refine goes_ Tryz.func65 (by kernel_rfl) rfl #[.slice A1 d.length c1] (by rfl) rfl rfl (by (try simp only [List.map_toArray, List.map_cons, List.map_nil]); first | done | rfl) ?_
      with_reducible refine (slices_Clone_byte_byte.calls A1 c1 d d _ (Kd.C_below HCC.out BD.out) HAG.out.1 (by unfold slices_Clone_byte_byte.f; rw [if_pos HD.out])).mono ?_
      rintro e w105 ⟨v0, rfl, hR, hb⟩
      refine ⟨_, rfl, ?_⟩
      obtain ⟨Ad, cd, ed⟩ := Kd.R_slice hR
      subst ed
      have HDD := Aside0.mk (Kd.R_lower hR (below_size BD.out)); have BD5 := Aside0.mk (below_step BD.out hb); clear hR hb BD hHeld; have BD := BD5; clear BD5
      refine hK.out _ _ (⟨(blk_cell (blk_below HB.out BD.out) 0).trans rfl, (blk_cell (blk_below HB.out BD.out) 1).trans rfl⟩) (fun hHeld => ?_)
      clear hK K
      refine norm_ (a' := ?_) ?_ ?_; rotate_left
      · show Act.put _ (some 17) _ = _; simp only [Act.put, List.setIfInBounds_toArray, List.set_cons_zero, List.set_cons_succ, i64_w, i32_w]; rfl
      refine pure_ (i := 6) (N := some 18) (v := ?_) (a' := ?_) (V 10 127) rfl rfl (any_of HT_.out (by kernel_rfl)) (fun _ _ _ h => h) (Or.inl ⟨by rfl, ?_⟩) ?_ ?_; rotate_left
      · intro w'; go_simp; with_reducible rfl
      rotate_left
      · simp only [Act.put, List.setIfInBounds_toArray, List.set_cons_zero, List.set_cons_succ, i64_w, i32_w]; rfl
      refine one_ (i := 7) (N := some 19) (V 10 255) rfl rfl (one_of HT_.out (by kernel_rfl)) (by decide) (fun K hK => ?_)
      refine value_ (w1 := ?_) (v := ?_) (by rfl) rfl ?_ ?_; rotate_left 2
      · go_simp
        constructor
        · rfl
        · rfl
      refine hK.out _ _ (⟨(blk_cell (blk_below HB.out (below_alloc BD.out _)) 0).trans rfl, (blk_cell (blk_below HB.out (below_alloc BD.out _)) 1).trans rfl⟩) (fun hHeld => ?_)
      clear hK K
      refine norm_ (a' := ?_) ?_ ?_; rotate_left
      · show Act.put _ (some 19) _ = _; simp only [Act.put, List.setIfInBounds_toArray, List.set_cons_zero, List.set_cons_succ, i64_w, i32_w]; rfl
      refine one_ (i := 8) (N := some 20) (V 10 511) rfl rfl (one_of HT_.out (by kernel_rfl)) (by decide) (fun K hK => ?_)
      have SX5 := Aside0.mk (Kd.S_below SX.out BD.out); have BX5 := Aside0.mk (below_step BX.out BD.out); have HB5 := Aside0.mk (blk_below HB.out BD.out)
      refine Kd.S_append_step k46 (w0 := w) w.heap.size (by rfl) (.tmp 12) (.tmp 19) 25 46 (.agg #[.int .i64 0, .slice none 0 0]) 32 rfl Tryz.underlying25 info46 rfl (by decide) (by omega) (.slice A3 xs.length c3) xs (⟨n, d⟩ : S46) [.int .i64 n, .slice Ad d.length cd] (fun _ => True) (fun k => some k = (Value.slice Ad d.length cd).ownBlock) rfl rfl ?aP ?aK ?aF ?aO ?aB ?aS ?aL ?_
      (case aP => exact k46_mkM _ _ _ (⟨n, d⟩ : S46) (Kd.R_lower (Kd.R_tight rfl HDD.out) (below_size BX.out)))
      (case aK => exact (fun k hk => ⟨trivial, Kd.S_away SX5.out (fun k' hk' => by have h1 := Kd.R_base HDD.out k hk.symm; have h2 : k' < q := hk'.2; have h3 := blk_lt HB.out; omega)⟩))
      (case aF => exact (fun _ _ => trivial))
      (case aO => exact Kd.S_mono SX5.out (fun k hk => ⟨trivial, fun ek => by have h1 := Kd.R_base HDD.out k ek.symm; have h2 : k < q := hk.2; have h3 := blk_lt HB.out; omega⟩))
      (case aB => exact BX5.out)
      (case aS => exact below_size BX5.out)
      (case aL => exact (by have := HN.out; have := HL.out.1; omega))
      intro v2 w6 ho hb hg hat
      have HB6 : w6.heap[q]? = some (.cells #[.int .i64 n, .slice A1 d.length c1] 46 (0, 0)) := (hg.block q (blk_lt HB5.out) (Kd.S_away SX5.out (fun k' hk' => by have h2 : k' < q := hk'.2; omega))).trans HB5.out
      have HO := Aside0.mk ho; have BO := Aside0.mk hb; clear ho hb hg hat
      refine hK.out _ _ (⟨(blk_cell HB6 0).trans rfl, (blk_cell HB6 1).trans rfl⟩) (fun hHeld => ?_)
      clear hK K
      refine norm_ (a' := ?_) ?_ ?_; rotate_left
      · show Act.put _ (some 20) _ = _; simp only [Act.put, List.setIfInBounds_toArray, List.set_cons_zero, List.set_cons_succ, i64_w, i32_w]; rfl
      refine pure_ (i := 9) (N := some 3) (v := ?_) (a' := ?_) (V 10 1023) rfl rfl (any_of HT_.out (by kernel_rfl)) (fun _ _ _ h => h) (Or.inl ⟨by rfl, ?_⟩) ?_ ?_; rotate_left
      · intro w'; go_simp; with_reducible rfl
      rotate_left
      · simp only [Act.put, List.setIfInBounds_toArray, List.set_cons_zero, List.set_cons_succ, i64_w, i32_w]; rfl
      refine done_ (done_of HT_.out (by kernel_rfl)) ?_
      try go_wp2
      go_roundg (l.length - (k + 1))
      case measure => omega
      case rel => exact ⟨k + 1, by omega, Nat.le_refl _, by rw [EK.out], ⟨by rw [HTK.out]; exact HO.out⟩, BO⟩
    · have hltz : ¬ (k : Int) < (l.length : Int) := by omega
      have HE : Aside0 (Kd.S k46 46 wr w.heap.size (fun _ => True) u3 l) := ⟨by have h := HS.out; rwa [List.take_of_length_le (by omega)] at h⟩
      go_wp2_with fail
      go_ret
      exact ⟨u3, rfl, HE.out, BR.out⟩
theorem rowM_one3 (x : S29) {v16 v19 v20 : Value} (h : v16.oneCell' = true) (h9 : v19.oneCell' = true) (h0 : v20.oneCell' = true) : (rowM x v16 v19 v20).all (·.oneCell') = true := by
  rw [← Array.all_toList]
  simp only [rowM, List.all_cons, List.all_nil, h, h9, h0]
  rfl
/-- Lists within the reach. -/
structure ReachL (x : S29) : Prop where
  h15 : x.f15.length ≤ 4398046511104
  d15 : ∀ t ∈ x.f15, t.f1.length ≤ 140737488355328
  h18 : x.f18.length ≤ 4398046511104
  h19 : x.f19.length ≤ 4398046511104
  d19 : ∀ t ∈ x.f19, t.f1.length ≤ 140737488355328
theorem GL.low {α : Type} {d : Kd α} {b b' : Nat} {W : World} {v : Value} {l : List α} (h : GL d b' W v l) (hb : b ≤ b') : GL d b W v l := by
  obtain ⟨A, c, e, hc, hC⟩ := h
  exact ⟨A, c, e, hc, fun W' hW => hC W' (fun k h1 h2 => hW k (Nat.le_trans hb h1) h2)⟩
/-- The message whose lists are copied, the result. -/
structure OJ (w w1 : World) (p b : Nat) (mc : Array Value) (W : World) : Prop where
  m : W.heap[p]? = some (.cells mc 29 (0, 0))
  o : W.heap[p + 1]? = some (.cells zeroM 29 (0, 0))
  kb : KB b w1 W
  bel : Below w.heap.size w W
  lo : w.heap.size ≤ p
  lt : p + 1 < b
  lb : b ≤ W.heap.size
theorem OJ.below {w w1 : World} {p b : Nat} {mc : Array Value} {W W' : World} (h : OJ w w1 p b mc W) (hb : Below W.heap.size W W') : OJ w w1 p b mc W' :=
  ⟨blk_below h.m hb, blk_below h.o hb, h.kb.below hb, below_step h.bel hb, h.lo, h.lt, Nat.le_trans h.lb hb.size⟩
theorem OJ.start {w w1 : World} {p b : Nat} {mc : Array Value} {W : World} (h : OJ w w1 p b mc W) : OJ w W p b mc W := ⟨h.m, h.o, KB.refl _ _, h.bel, h.lo, h.lt, h.lb⟩
theorem OJ.set {w w1 : World} {p b : Nat} {mc mc' : Array Value} {W : World} (h : OJ w w1 p b mc W) (i : Nat) (v : Value) (hr : mc.setIfInBounds i v = mc') : OJ w w1 p b mc' (W.setCell ⟨p, i, none⟩ v) := by
  have h1 := h.lt
  have kb : KB b w1 (W.setCell ⟨p, i, none⟩ v) := h.kb.set (.inl (by omega)) i v
  exact ⟨by rw [← hr]; exact blk_set h.m _ _, (Below.heap_setCell _ _ _ _ (by show p + 1 ≠ p; omega)).trans h.o, kb, below_set h.bel h.lo, h.lo, h1, by rw [show (W.setCell ⟨p, i, none⟩ v).heap.size = W.heap.size by simp [World.setCell]]; exact h.lb⟩

def T25_1 : Bool × List (List Nat × List Nat) := (true, [([], []), ([0], [0]), ([1], [1]), ([], []), ([3], [3]), ([4, 2], [4]), ([], []), ([6], [6]), ([7, 5], [7]), ([0, 1, 2, 3, 4, 6, 7], []), ([9, 2, 8, 0, 1, 2, 3, 4, 6, 7], [2, 9]), ([0, 1, 2, 3, 4, 5, 6, 7, 9, 10], []), ([11, 5, 10, 0, 1, 2, 3, 4, 5, 6, 7, 9, 10], [5, 11]), ([0, 1, 2, 3, 4, 5, 6, 7, 8, 9, 10, 11, 12], []), ([13, 8, 12, 0, 1, 2, 3, 4, 5, 6, 7, 8, 9, 10, 11, 12], [8, 13])])
def B25_1 : List Nat := [0, 1, 3, 0, 8, 31, 0, 64, 255, 223, 1023, 2047, 4095, 8191, 16383]
theorem tab25_1 : rtab .any (opsOf Tryz.f25 1) = T25_1 := by kernel_rfl
theorem bits25_1 : waitsOk T25_1.2 B25_1 = true := by kernel_rfl
set_option maxHeartbeats 16000000 in
set_option maxRecDepth 100000 in
theorem own_x (x : S29) (mc : Array Value) (w : World) (h : k29.K w x mc.toList) (hr : ReachL x) :
    Calls Tryz.prog 25 #[.agg mc] w fun e w' => ∃ v16 v19 v20 : Value, e = .returned (.agg (rowM x v16 v19 v20)) ∧ GL k46 w.heap.size w' v16 x.f15 ∧ GL k48 w.heap.size w' v19 x.f18 ∧ GL k50 w.heap.size w' v20 x.f19 ∧ Below w.heap.size w w' := by
  have hu29 := Aside0.mk Tryz.underlying29
  obtain ⟨A16, c16, A19, c19, A20, c20, e, l16, g16, l19, g19, l20, g20⟩ := k29_open h
  have em : mc = rowM x (.slice A16 x.f15.length c16) (.slice A19 x.f18.length c19) (.slice A20 x.f19.length c20) := Array.toList_inj.1 e
  have HMC := Aside0.mk em
  have HR := Aside0.mk hr
  have HG := Aside0.mk (And.intro l19 (And.intro g16 (And.intro g19 g20)))
  clear h hr e em l16 l19 l20 g16 g19 g20
  go_enter Tryz.func25, Tryz.ntmps25
  go_upto_region 1 with fail
  obtain ⟨p, hp⟩ : ∃ p, p = w.heap.size := ⟨_, rfl⟩
  have J0 : ((w.alloc (.cells mc 29)).alloc (.cells zeroM 29)).heap[w.heap.size]? = some (.cells mc 29 (0, 0)) ∧ ((w.alloc (.cells mc 29)).alloc (.cells zeroM 29)).heap[w.heap.size + 1]? = some (.cells zeroM 29 (0, 0)) ∧ (∀ n, n = w.heap.size → Below n w ((w.alloc (.cells mc 29)).alloc (.cells zeroM 29))) :=
    ⟨blk_alloc (blk_new w _) _, blk_new2 w _ _, fun n hn => hn ▸ below_alloc (below_alloc (Below.refl _ w) _) _⟩
  have HP : Aside0 (p = w.heap.size) := ⟨hp⟩
  rw [← hp] at J0 ⊢
  clear hp
  revert J0
  change _ → Code.wp _ _ _ _ ((w.alloc (.cells mc 29)).alloc (.cells zeroM 29))
  generalize ((w.alloc (.cells mc 29)).alloc (.cells zeroM 29)) = W0
  intro J0
  have JX : Aside0 (OJ w W0 p W0.heap.size mc W0.drew) := ⟨OJ.below ⟨J0.1, J0.2.1, KB.refl _ _, J0.2.2 _ HP.out.symm, by rw [HP.out]; exact Nat.le_refl _, blk_lt J0.2.1, Nat.le_refl _⟩ (below_drew1 (Below.refl _ _))⟩
  clear J0
  refine start_ (n := 15) (ds := [10, 12, 14]) (S := fun w' => w'.cell? ⟨p, 16, none⟩ = some (.slice A16 x.f15.length c16) ∧ w'.cell? ⟨p, 19, none⟩ = some (.slice A19 x.f18.length c19) ∧ w'.cell? ⟨p, 20, none⟩ = some (.slice A20 x.f19.length c20)) (V 15 0) (by rfl) (by rfl) (by kernel_rfl) (⟨(blk_cell JX.out.m 16).trans (by rw [HMC.out]; rfl), (blk_cell JX.out.m 19).trans (by rw [HMC.out]; rfl), (blk_cell JX.out.m 20).trans (by rw [HMC.out]; rfl)⟩) (fun hHeld => ?_); refine with_tabW tab25_1 bits25_1 (fun HT_ HW_ => ?_)
  revert JX; generalize W0.drew = wd at hHeld ⊢; intro JX
  refine pure_ (i := 0) (N := some 3) (v := ?_) (a' := ?_) (V 15 1) rfl rfl (any_of HT_.out (by kernel_rfl)) (fun _ _ _ h => h) (Or.inl ⟨by rfl, ?_⟩) ?_ ?_; rotate_left
  · intro w'; go_simp; with_reducible rfl
  rotate_left
  · simp only [Act.put, List.setIfInBounds_toArray, List.set_cons_zero, List.set_cons_succ, i64_w, i32_w]; rfl
  refine take_ (i := 1) (N := some 4) (v := ?_) (a' := ?_) (V 15 3) rfl rfl (take_ofW HT_.out HW_.out (by kernel_rfl)) (fun _ _ _ h => h) (Or.inl ⟨by rfl, ?_⟩) hHeld ?_ ?_; rotate_left
  · rintro w' ⟨s0, s1, s2⟩; go_simp; with_reducible rfl
  rotate_left
  · simp only [Act.put, List.setIfInBounds_toArray, List.set_cons_zero, List.set_cons_succ, i64_w, i32_w]; rfl
  refine pure_ (i := 3) (N := some 6) (v := ?_) (a' := ?_) (V 15 11) rfl rfl (any_of HT_.out (by kernel_rfl)) (fun _ _ _ h => h) (Or.inl ⟨by rfl, ?_⟩) ?_ ?_; rotate_left
  · intro w'; go_simp; with_reducible rfl
  rotate_left
  · simp only [Act.put, List.setIfInBounds_toArray, List.set_cons_zero, List.set_cons_succ, i64_w, i32_w]; rfl
  refine take_ (i := 4) (N := some 7) (v := ?_) (a' := ?_) (V 15 27) rfl rfl (take_ofW HT_.out HW_.out (by kernel_rfl)) (fun _ _ _ h => h) (Or.inl ⟨by rfl, ?_⟩) hHeld ?_ ?_; rotate_left
  · rintro w' ⟨s0, s1, s2⟩; go_simp; with_reducible rfl
  rotate_left
  · simp only [Act.put, List.setIfInBounds_toArray, List.set_cons_zero, List.set_cons_succ, i64_w, i32_w]; rfl
  refine pure_ (i := 6) (N := some 9) (v := ?_) (a' := ?_) (V 15 91) rfl rfl (any_of HT_.out (by kernel_rfl)) (fun _ _ _ h => h) (Or.inl ⟨by rfl, ?_⟩) ?_ ?_; rotate_left
  · intro w'; go_simp; with_reducible rfl
  rotate_left
  · simp only [Act.put, List.setIfInBounds_toArray, List.set_cons_zero, List.set_cons_succ, i64_w, i32_w]; rfl
  refine take_ (i := 7) (N := some 10) (v := ?_) (a' := ?_) (V 15 219) rfl rfl (take_ofW HT_.out HW_.out (by kernel_rfl)) (fun _ _ _ h => h) (Or.inl ⟨by rfl, ?_⟩) hHeld ?_ ?_; rotate_left
  · rintro w' ⟨s0, s1, s2⟩; go_simp; with_reducible rfl
  rotate_left
  · simp only [Act.put, List.setIfInBounds_toArray, List.set_cons_zero, List.set_cons_succ, i64_w, i32_w]; rfl
  refine one_ (i := 2) (N := some 5) (V 15 223) rfl rfl (one_of HT_.out (by kernel_rfl)) (by decide) (fun K hK => ?_)
  refine goes_ Tryz.func50 (by kernel_rfl) rfl #[.slice A16 x.f15.length c16] (by rfl) rfl rfl (by (try simp only [List.map_toArray, List.map_cons, List.map_nil]); first | done | rfl) ?_
  with_reducible refine (tags_copy A16 c16 x.f15 _ (Kd.C_below HG.out.2.1 JX.out.bel) HR.out.h15 HR.out.d15).mono ?_
  rintro e w102 ⟨v16, rfl, hS, hb⟩
  refine ⟨_, rfl, ?_⟩
  obtain ⟨B16, d16, e16, -, -⟩ := (gl_S hS : GL _ _ _ _ _)
  subst e16
  have G16 := Aside0.mk ((gl_S hS).low JX.out.lb)
  have JY := Aside0.mk (JX.out.below hb); clear JX hHeld hS; have JX := JY; clear JY
  have H16 := Aside0.mk (G16.out); clear G16 hb
  refine hK.out _ _ (⟨(blk_cell JX.out.m 16).trans (by rw [HMC.out]; rfl), (blk_cell JX.out.m 19).trans (by rw [HMC.out]; rfl), (blk_cell JX.out.m 20).trans (by rw [HMC.out]; rfl)⟩) (fun hHeld => ?_)
  clear hK K
  refine norm_ (a' := ?_) ?_ ?_; rotate_left
  · show Act.put _ (some 5) _ = _; simp only [Act.put, List.setIfInBounds_toArray, List.set_cons_zero, List.set_cons_succ, i64_w, i32_w]; rfl
  refine pure_ (i := 9) (N := some 12) (v := ?_) (a' := ?_) (V 15 735) rfl rfl (any_of HT_.out (by kernel_rfl)) (fun _ _ _ h => h) (Or.inl ⟨by rfl, ?_⟩) ?_ ?_; rotate_left
  · intro w'; go_simp; with_reducible rfl
  rotate_left
  · simp only [Act.put, List.setIfInBounds_toArray, List.set_cons_zero, List.set_cons_succ, i64_w, i32_w]; rfl
  refine one_ (i := 5) (N := some 8) (V 15 767) rfl rfl (one_of HT_.out (by kernel_rfl)) (by decide) (fun K hK => ?_)
  refine goes_ Tryz.func37 (by kernel_rfl) rfl #[.slice A19 x.f18.length c19] (by rfl) rfl rfl (by (try simp only [List.map_toArray, List.map_cons, List.map_nil]); first | done | rfl) ?_
  with_reducible refine (api_Pair_37.calls A19 c19 x.f18 x.f18 _ (Kd.C_below HG.out.2.2.1 JX.out.bel) HG.out.1 (by unfold api_Pair_37.f; rw [if_pos HR.out.h18])).mono ?_
  rintro e w105 ⟨v19, rfl, hR, hb⟩
  refine ⟨_, rfl, ?_⟩
  obtain ⟨B19, d19, e19, -, -⟩ := (gl_R hR : GL _ _ _ _ _)
  subst e19
  have G19 := Aside0.mk ((gl_R hR).low JX.out.lb)
  have JY := Aside0.mk (JX.out.below hb); clear JX hHeld hR; have JX := JY; clear JY
  have K16 := Aside0.mk (H16.out.step ((KB.refl _ _).below hb)); clear hb H16
  refine hK.out _ _ (⟨(blk_cell JX.out.m 16).trans (by rw [HMC.out]; rfl), (blk_cell JX.out.m 19).trans (by rw [HMC.out]; rfl), (blk_cell JX.out.m 20).trans (by rw [HMC.out]; rfl)⟩) (fun hHeld => ?_)
  clear hK K
  refine norm_ (a' := ?_) ?_ ?_; rotate_left
  · show Act.put _ (some 8) _ = _; simp only [Act.put, List.setIfInBounds_toArray, List.set_cons_zero, List.set_cons_succ, i64_w, i32_w]; rfl
  refine one_ (i := 8) (N := some 11) (V 15 1023) rfl rfl (one_of HT_.out (by kernel_rfl)) (by decide) (fun K hK => ?_)
  refine goes_ Tryz.func39 (by kernel_rfl) rfl #[.slice A20 x.f19.length c20] (by rfl) rfl rfl (by (try simp only [List.map_toArray, List.map_cons, List.map_nil]); first | done | rfl) ?_
  with_reducible refine (elements_x A20 c20 x.f19 _ (Kd.C_below HG.out.2.2.2 JX.out.bel) HR.out.h19 HR.out.d19).mono ?_
  rintro e w108 ⟨v20, rfl, hS, hb⟩
  refine ⟨_, rfl, ?_⟩
  obtain ⟨B20, d20, e20, -, -⟩ := (gl_S hS : GL _ _ _ _ _)
  subst e20
  have G20 := Aside0.mk ((gl_S hS).low JX.out.lb)
  have JY := Aside0.mk (JX.out.below hb); clear JX hHeld hS; have JX := JY; clear JY
  have HGL := Aside0.mk (And.intro (K16.out.step ((KB.refl _ _).below hb)) (And.intro (G19.out.step ((KB.refl _ _).below hb)) G20.out)); clear hb K16 G19 G20
  refine hK.out _ _ (⟨(blk_cell JX.out.m 16).trans (by rw [HMC.out]; rfl), (blk_cell JX.out.m 19).trans (by rw [HMC.out]; rfl), (blk_cell JX.out.m 20).trans (by rw [HMC.out]; rfl)⟩) (fun hHeld => ?_)
  clear hK K
  refine norm_ (a' := ?_) ?_ ?_; rotate_left
  · show Act.put _ (some 11) _ = _; simp only [Act.put, List.setIfInBounds_toArray, List.set_cons_zero, List.set_cons_succ, i64_w, i32_w]; rfl
  have JY := Aside0.mk JX.out.start; clear JX hHeld; have JX := JY; clear JY
  have dq := (blk_cell JX.out.m 16).trans (show _ = some (Value.slice A16 x.f15.length c16) by rw [HMC.out]; rfl); have zq := blk_frozen JX.out.m 16
  refine last_ (i := 10) (N := none) (V 15 2047) rfl rfl (one_of HT_.out (by kernel_rfl)) (by decide) (fun K hK => ?_)
  refine skip_ (w1 := ?_) (by rfl) rfl ?_ ?_; rotate_left
  · go_simp
    rfl
  refine hK.out _ _ ?_
  clear hK K
  have JY := Aside0.mk (JX.out.set (mc' := rowM x (.slice B16 x.f15.length d16) (.slice A19 x.f18.length c19) (.slice A20 x.f19.length c20)) 16 (.slice B16 x.f15.length d16) (by rw [HMC.out]; rfl)); clear JX dq zq; have JX := JY; clear JY
  refine pure_ (i := 11) (N := some 13) (v := ?_) (a' := ?_) (V 15 4095) rfl rfl (any_of HT_.out (by kernel_rfl)) (fun _ _ _ h => h) (Or.inl ⟨by rfl, ?_⟩) ?_ ?_; rotate_left
  · intro w'; go_simp; with_reducible rfl
  rotate_left
  · simp only [Act.put, List.setIfInBounds_toArray, List.set_cons_zero, List.set_cons_succ, i64_w, i32_w]; rfl
  have dq := (blk_cell JX.out.m 19).trans (show _ = some (Value.slice A19 x.f18.length c19) by rfl); have zq := blk_frozen JX.out.m 19
  refine last_ (i := 12) (N := none) (V 15 8191) rfl rfl (one_of HT_.out (by kernel_rfl)) (by decide) (fun K hK => ?_)
  refine skip_ (w1 := ?_) (by rfl) rfl ?_ ?_; rotate_left
  · go_simp
    rfl
  refine hK.out _ _ ?_
  clear hK K
  have JY := Aside0.mk (JX.out.set (mc' := rowM x (.slice B16 x.f15.length d16) (.slice B19 x.f18.length d19) (.slice A20 x.f19.length c20)) 19 (.slice B19 x.f18.length d19) (by rfl)); clear JX dq zq; have JX := JY; clear JY
  refine pure_ (i := 13) (N := some 14) (v := ?_) (a' := ?_) (V 15 16383) rfl rfl (any_of HT_.out (by kernel_rfl)) (fun _ _ _ h => h) (Or.inl ⟨by rfl, ?_⟩) ?_ ?_; rotate_left
  · intro w'; go_simp; with_reducible rfl
  rotate_left
  · simp only [Act.put, List.setIfInBounds_toArray, List.set_cons_zero, List.set_cons_succ, i64_w, i32_w]; rfl
  have dq := (blk_cell JX.out.m 20).trans (show _ = some (Value.slice A20 x.f19.length c20) by rfl); have zq := blk_frozen JX.out.m 20
  refine last_ (i := 14) (N := none) (V 15 32767) rfl rfl (one_of HT_.out (by kernel_rfl)) (by decide) (fun K hK => ?_)
  refine skip_ (w1 := ?_) (by rfl) rfl ?_ ?_; rotate_left
  · go_simp
    rfl
  refine hK.out _ _ ?_
  clear hK K
  have JY := Aside0.mk (JX.out.set (mc' := rowM x (.slice B16 x.f15.length d16) (.slice B19 x.f18.length d19) (.slice B20 x.f19.length d20)) 20 (.slice B20 x.f19.length d20) (by rfl)); clear JX dq zq; have JX := JY; clear JY
  refine done_ (done_of HT_.out (by kernel_rfl)) ?_
  revert JX; generalize World.setCell _ _ _ = W1; intro JX; clear HT_ HW_
  go_wp2_with (first | ((with_reducible refine gate_dst (N := 15) rfl ?_); refine wpList_load_row rfl 29 (.tmp 1) rfl p rfl 29 (rowM x (.slice B16 x.f15.length d16) (.slice B19 x.f18.length d19) (.slice B20 x.f19.length d20)) (0, 0) _ JX.out.m hu29.out rfl (by kernel_rfl) ?_) | ((with_reducible refine gate_store (t := 29) (p := 2) rfl ?_); refine Fill.store_event rfl 29 _ _ rfl (p + 1) (rowM x (.slice B16 x.f15.length d16) (.slice B19 x.f18.length d19) (.slice B20 x.f19.length d20)) rfl rfl 29 zeroM JX.out.o (by kernel_rfl) (by rfl) (rowM_one3 x rfl rfl rfl) ?_; intro w9 ea eb ec; have HE := Aside0.mk (And.intro ea (And.intro eb (ec _ _ JX.out.bel (by have := JX.out.lo; omega)))); clear ea eb ec))
  refine bodyPost_ret (results_cell_row (fn := Tryz.f25) (p := 2) (ty := 29) (by rfl) _ _ (p + 1) 29 (rowM x (.slice B16 x.f15.length d16) (.slice B19 x.f18.length d19) (.slice B20 x.f19.length d20)) (0, 0) _ (by rfl) HE.out.1 hu29.out rfl (by kernel_rfl)) rfl ?_
  have kb := JX.out.kb.but (g := p + 1) (.inl JX.out.lt) HE.out.2.1
  have hlo : w.heap.size ≤ W0.heap.size := by have := JX.out.lo; have := JX.out.lt; omega
  exact ⟨_, _, _, rfl, (HGL.out.1.step kb).low hlo, (HGL.out.2.1.step kb).low hlo, (HGL.out.2.2.step kb).low hlo, HE.out.2.2⟩
def inB (t : Int × Int) (c : Int) : Bool := decide (t.1 ≤ c) && decide (c ≤ t.2)
def anyB (ts : List (Int × Int)) (c : Int) : Bool := ts.any fun t => inB t c
def allB (s : ByteArray) (ts : List (Int × Int)) : Bool := s.data.toList.all fun b => anyB ts (b.toNat : Int)
def spanV (t : Int × Int) : Value := .func (.func 77) #[.agg #[.int .u8 t.1, .int .u8 t.2]] #[]
theorem has_calls (lo hi c : Int) (W : World) : Calls Tryz.prog 77 #[.agg #[.int .u8 lo, .int .u8 hi], .int .u8 c] W fun e w' => e = .returned (.bool (inB (lo, hi) c)) ∧ Below W.heap.size W w' := by
  cases h1 : decide (lo ≤ c)
  · have HF : Aside0 (inB (lo, hi) c = false) := ⟨by unfold inB; rw [h1]; rfl⟩
    go_enter Tryz.func77, Tryz.ntmps77
    go_wp2
    go_ret
    exact ⟨by rw [HF.out]; rfl, below_alloc (Below.refl _ W) _⟩
  · have HF : Aside0 (inB (lo, hi) c = decide (c ≤ hi)) := ⟨by unfold inB; rw [h1]; rfl⟩
    go_enter Tryz.func77, Tryz.ntmps77
    go_wp2
    go_ret
    exact ⟨by rw [HF.out]; rfl, below_alloc (Below.refl _ W) _⟩
theorem bt_get (s : ByteArray) (i : Nat) (h : i < s.data.toList.length) : bt s (i : Int) = ((s.data.toList[i]).toNat : Int) := by
  have h' : i < s.size := by simpa using h
  unfold bt
  simp only [Int.toNat_natCast]
  rw [dif_pos h']
  rfl
theorem allB_yes (s : ByteArray) (ts : List (Int × Int)) (h : ∀ j : Nat, j < s.size → anyB ts (bt s (j : Int)) = true) : allB s ts = true := by
  unfold allB
  rw [List.all_eq_true]
  intro b hb
  obtain ⟨j, hj, rfl⟩ := List.getElem_of_mem hb
  rw [← bt_get s j hj]
  exact h j (by simpa using hj)
theorem allB_no (s : ByteArray) (ts : List (Int × Int)) (j : Nat) (hj : j < s.size) (h : anyB ts (bt s (j : Int)) = false) : allB s ts = false := by
  have hj' : j < s.data.toList.length := by simpa using hj
  unfold allB
  rw [Bool.eq_false_iff]
  intro hall
  rw [List.all_eq_true] at hall
  have := hall _ (List.getElem_mem hj')
  rw [← bt_get s j hj', h] at this
  cases this
theorem any_take (ts : List (Int × Int)) (c : Int) (j : Nat) (hj : j < ts.length) : anyB (ts.take (j + 1)) c = (anyB (ts.take j) c || inB (ts.getD j (0, 0)) c) := by
  unfold anyB
  rw [List.take_succ_eq_append_getElem hj, List.any_append]
  simp [List.getD_eq_getElem?_getD, List.getElem?_eq_getElem hj]
set_option maxHeartbeats 4000000 in
theorem all_calls (s : ByteArray) (g : Nat) (ts : List (Int × Int)) (w : World) (hn : ts.length < 100) (hs : s.size ≤ 9223372036854775807) (ht : ∀ j : Nat, j < ts.length → w.cell? ⟨g, j, none⟩ = some (spanV (ts.getD j (0, 0)))) :
    Calls Tryz.prog 76 #[.string s, .slice (some ⟨g, 0, none⟩) ts.length ts.length] w fun e w' => e = .returned (.bool (allB s ts)) ∧ Below w.heap.size w w' := by
  have HT := Aside0.mk ht
  have HS := Aside0.mk hs
  clear ht
  have eg : ∀ args w, (callFunc 77 args).run Tryz.prog w = .ok (.enter 77 args) w := enters_of Tryz.func77 (by kernel_rfl) rfl
  go_enter Tryz.func76, Tryz.ntmps76
  go_wp2
  go_loopg [11] s.size (fun gg s11 wr => ∃ kk : Nat, kk ≤ s.size ∧ s.size - kk ≤ gg ∧ s11 = .int .i64 kk ∧ Aside0 (Below w.heap.size w wr) ∧ Aside0 (∀ j : Nat, j < kk → anyB ts (bt s (j : Int)) = true))
  case atStart => exact ⟨0, Nat.zero_le _, by omega, rfl, ⟨Below.refl _ w⟩, ⟨fun j hj => absurd hj (Nat.not_lt_zero _)⟩⟩
  case round =>
    obtain ⟨kk, hkk, hg, rfl, BW, AL⟩ := hrel
    by_cases hlt : kk < s.size
    · have hltz : (kk : Int) < (s.size : Int) := by omega
      have hx : ∀ h : kk < s.size, ((s[kk]'h).toNat : Int) = bt s (kk : Int) := fun h => by have := bt_at s (kk : Int); simp only [Int.toNat_natCast] at this; exact this h
      generalize hc : bt s (kk : Int) = c at hx
      have HC := Aside0.mk hc
      clear hc
      go_wp2
      go_loopg [6, 16] ts.length (fun gg s6 s16 wr2 => ∃ jj : Nat, jj ≤ ts.length ∧ ts.length - jj ≤ gg ∧ s6 = .bool (anyB (ts.take jj) c) ∧ s16 = .int .i64 jj ∧ Aside0 (Below w.heap.size w wr2))
      case atStart => exact ⟨0, Nat.zero_le _, by omega, rfl, rfl, BW⟩
      case round =>
        obtain ⟨jj, hjj, hg2, rfl, rfl, BW2⟩ := hrel
        by_cases hlt2 : jj < ts.length
        · have hltz2 : (jj : Int) < (ts.length : Int) := by omega
          have h0 := (BW2.out.cell (World.block_lt_of_cell? w _ (HT.out jj hlt2))).trans (HT.out jj hlt2)
          have HN := Aside0.mk (any_take ts c jj hlt2)
          generalize ts.getD jj (0, 0) = t at h0 HN
          obtain ⟨lo, hi⟩ := t
          unfold spanV at h0
          cases hq : anyB (ts.take jj) c with
          | true =>
            rw [hq] at HN
            go_wp2
            go_roundg (ts.length - (jj + 1))
            case measure => omega
            case rel => exact ⟨jj + 1, by omega, by omega, by rw [HN.out]; rfl, by go_num, BW2⟩
          | false =>
            rw [hq] at HN
            have hcall := has_calls lo hi c wr
            generalize hv : inB (lo, hi) c = v at hcall HN
            clear hv
            go_wp2_with (go_at_fn 77; refine hcall.mono ?_; rintro e w' ⟨rfl, hb'⟩)
            go_roundg (ts.length - (jj + 1))
            case measure => omega
            case rel => exact ⟨jj + 1, by omega, by omega, by rw [HN.out]; rfl, by go_num, ⟨BW2.out.trans (hb'.mono BW2.out.size)⟩⟩
        · have hltz2 : ¬ (jj : Int) < (ts.length : Int) := by omega
          have e2 : ts.take jj = ts := List.take_of_length_le (by omega)
          rw [e2]
          cases hq : anyB ts c with
          | true =>
            have HQ := Aside0.mk hq
            clear hq
            go_wp2
            go_roundg (s.size - (kk + 1))
            case measure => omega
            case rel =>
              refine ⟨kk + 1, by omega, by omega, by go_num, BW2, ⟨fun j hj => ?_⟩⟩
              by_cases e : j = kk
              · subst e; rw [HC.out]; exact HQ.out
              · exact AL.out j (by omega)
          | false =>
            have HQ := Aside0.mk hq
            clear hq
            go_wp2
            go_ret
            refine ⟨?_, BW2.out⟩
            rw [allB_no s ts kk hlt (by rw [HC.out]; exact HQ.out)]
            rfl
    · have hltz : ¬ (kk : Int) < (s.size : Int) := by omega
      go_wp2
      go_ret
      refine ⟨?_, BW.out⟩
      rw [allB_yes s ts (fun j hj => AL.out j (by omega))]
      rfl
def text_Ans.f (a0 : ByteArray) (a1 : Int) : Option Bool := if a0.size ≤ 9223372036854775807 then some (decide (1 ≤ (a0.size : Int)) && decide ((a0.size : Int) ≤ a1) && allB a0 [(32, 126)]) else none
set_option maxHeartbeats 4000000 in
theorem text_Ans.calls (a0 : ByteArray) (a1 : Int) (r : Bool) (w : World) (h : text_Ans.f a0 a1 = some r) :
    Calls Tryz.prog 51 #[.string a0, .int .i64 a1] w fun e w' => e = .returned (.bool r) ∧ Below w.heap.size w w' := by
  unfold text_Ans.f at h
  by_cases hs : a0.size ≤ 9223372036854775807
  · rw [if_pos hs] at h
    have h := Option.some.inj h
    cases h1 : decide (1 ≤ (a0.size : Int))
    · rw [h1] at h
      subst h
      go_enter Tryz.func51, Tryz.ntmps51
      go_wp2
      go_ret
      exact ⟨rfl, Below.refl _ _⟩
    · cases h2 : decide ((a0.size : Int) ≤ a1)
      · rw [h1, h2] at h
        subst h
        go_enter Tryz.func51, Tryz.ntmps51
        go_wp2
        go_ret
        exact ⟨rfl, Below.refl _ _⟩
      · rw [h1, h2] at h
        have HF := Aside0.mk h
        clear h
        go_enter Tryz.func51, Tryz.ntmps51
        go_wp2_with fail
        refine (all_calls a0 w.heap.size [(32, 126)] _ (by decide) hs (fun j hj => ?_)).mono ?_
        · obtain rfl : j = 0 := by simp at hj; omega
          exact (blk_cell (blk_new w _) 0).trans rfl
        rintro e w' ⟨rfl, hb⟩
        go_wp2
        go_ret
        exact ⟨by rw [← HF.out]; rfl, below_step (below_alloc (Below.refl _ w) _) hb⟩
  · rw [if_neg hs] at h
    cases h
end Go.Proofs.YthapknnppabdaaaGreat.MQ
