/- ResidueBack: part 17 of its proof. -/
import Derived.Test.YthapknnppabdaaaGreatZ16
namespace Go.Proofs.YthapknnppabdaaaGreat.MQ
open Go.RowKit Go.Proofs.YthapknnppabdaaaGreatW.PrintWords Go.Proofs.YthapknnppabdaaaGreatW.PrintLast Go.Proofs.YthapknnppabdaaaGreatW.PrintMore
set_option linter.unusedVariables false
set_option linter.unusedSimpArgs false
def Asc (L : List S50) : Prop := L.Pairwise (fun a b => a.f0 < b.f0)
theorem cell_up {w W : World} {a : Addr} {v : Value} (h : w.cell? a = some v) (hb : Below w.heap.size w W) : W.cell? a = some v := by
  rw [hb.cell (World.block_lt_of_cell? w _ h)]; exact h
/-- What lies merged so far. -/
structure MG (a b : List S50) (i k : Nat) (L : List S50) : Prop where
  len : L.length = i + k
  asc : Asc L
  mem : ∀ x ∈ L, x ∈ a ∨ x ∈ b
  la : ∀ x ∈ L, ∀ y ∈ a.drop i, x.f0 < y.f0
  lb : ∀ x ∈ L, ∀ y ∈ b.drop k, x.f0 < y.f0
theorem MG.swap {a b L : List S50} {i k : Nat} (h : MG a b i k L) : MG b a k i L := ⟨by have := h.len; omega, h.asc, fun x hx => (h.mem x hx).symm, h.lb, h.la⟩
theorem asc_drop {a : List S50} (h : Asc a) {i : Nat} (hi : i < a.length) : ∀ y ∈ a.drop (i + 1), a[i].f0 < y.f0 := by
  have h1 : Asc (a.drop i) := List.Pairwise.sublist (List.drop_sublist i a) h
  rw [List.drop_eq_getElem_cons hi] at h1
  exact fun y hy => (List.pairwise_cons.1 h1).1 y hy
theorem drop_mem {a : List S50} {i : Nat} (hi : i < a.length) {y : S50} (hy : y ∈ a.drop i) : y = a[i] ∨ y ∈ a.drop (i + 1) := by
  rw [List.drop_eq_getElem_cons hi, List.mem_cons] at hy
  exact hy
theorem MG.step {a b L : List S50} {i k : Nat} (h : MG a b i k L) (pa : Asc a) (pb : Asc b) (hi : i < a.length) (hc : ∀ hk : k < b.length, a[i].f0 < b[k].f0) : MG a b (i + 1) k (L ++ [a[i]]) := by
  have hm : a[i] ∈ a.drop i := by rw [List.drop_eq_getElem_cons hi]; exact List.mem_cons_self
  refine ⟨by rw [List.length_append, h.len]; show i + k + 1 = _; omega, ?_, fun x hx => ?_, fun x hx y hy => ?_, fun x hx y hy => ?_⟩
  · refine List.pairwise_append.2 ⟨h.asc, List.pairwise_singleton _ _, fun x hx y hy => ?_⟩
    rw [List.mem_singleton] at hy
    rw [hy]; exact h.la x hx _ hm
  · rcases List.mem_append.1 hx with hx | hx
    · exact h.mem x hx
    · rw [List.mem_singleton] at hx; rw [hx]; exact .inl (List.getElem_mem hi)
  · rcases List.mem_append.1 hx with hx | hx
    · exact h.la x hx y (by rw [List.drop_eq_getElem_cons hi]; exact List.mem_cons_of_mem _ hy)
    · rw [List.mem_singleton] at hx; rw [hx]; exact asc_drop pa hi y hy
  · rcases List.mem_append.1 hx with hx | hx
    · exact h.lb x hx y hy
    · rw [List.mem_singleton] at hx
      rw [hx]
      by_cases hk : k < b.length
      · have h1 := hc hk
        rcases drop_mem hk hy with rfl | hy
        · exact h1
        · have := asc_drop pb hk y hy
          omega
      · rw [List.drop_of_length_le (by omega)] at hy; cases hy
theorem MG.start (a b : List S50) : MG a b 0 0 [] := ⟨rfl, List.Pairwise.nil, fun x hx => (by cases hx), fun x hx => (by cases hx), fun x hx => (by cases hx)⟩
/-- The rows of a list that is made: the cells of each, what they lead to in the world w. -/
structure MR (w : World) (L : List S50) (v : Value) (W : World) : Prop where
  ex : ∃ zs, Kd.R (kraw 2) 50 W w.heap.size (fun _ => True) v zs ∧ zs.length = L.length ∧ ∀ (j : Nat) (x : S50) (z : List Value), L[j]? = some x → zs[j]? = some z → k50.K w x z
  bel : Below w.heap.size w W
theorem MR.drawn {w W : World} {L : List S50} {v : Value} (h : MR w L v W) (n : Nat) : MR w L v (W.drewN n) := by
  obtain ⟨zs, h1, h2, h3⟩ := h.ex
  exact ⟨⟨zs, Kd.R_drewN h1 n, h2, h3⟩, pw_below_drewN h.bel n⟩
theorem mr_snoc {w W : World} {L : List S50} {zs : List (List Value)} {v : Value} {x : S50} {z : List Value} (h : Kd.R (kraw 2) 50 W w.heap.size (fun _ => True) v (zs ++ [z])) (hl : zs.length = L.length) (hk : ∀ (j : Nat) (x : S50) (z : List Value), L[j]? = some x → zs[j]? = some z → k50.K w x z) (hz : k50.K w x z) (hb : Below w.heap.size w W) : MR w (L ++ [x]) v W := by
  refine ⟨⟨zs ++ [z], h, by rw [List.length_append, List.length_append, hl]; rfl, fun j y u hy hu => ?_⟩, hb⟩
  rcases Nat.lt_or_ge j L.length with hj | hj
  · rw [List.getElem?_append_left hj] at hy
    rw [List.getElem?_append_left (by rw [hl]; exact hj)] at hu
    exact hk j y u hy hu
  · rw [List.getElem?_append_right hj] at hy
    rw [List.getElem?_append_right (by rw [hl]; exact hj), hl] at hu
    rcases Nat.eq_zero_or_pos (j - L.length) with q | q
    · rw [q] at hy hu
      obtain rfl := Option.some.inj hy
      obtain rfl := Option.some.inj hu
      exact hz
    · rw [List.getElem?_eq_none (by simp; omega)] at hy; cases hy
/-- The merged list comes back. -/
def MergeEnd (a b : List S50) (w : World) (e : Ending) (w' : World) : Prop := ∃ (L : List S50) (A : Option Addr) (c : Nat), e = .returned (.slice A L.length c) ∧ MG a b a.length b.length L ∧ L.length ≤ c ∧ k50.C w' A L.length L ∧ Below w.heap.size w w'
theorem merge_end {a b : List S50} {w W : World} {L : List S50} {v : Value} (h : MR w L v W) (hm : MG a b a.length b.length L) : MergeEnd a b w (.returned v) W := by
  obtain ⟨zs, h1, h2, h3⟩ := h.ex
  obtain ⟨A, c, e, hc, hC⟩ := Kd.R_reads h1
  rw [h2] at e hc hC
  exact ⟨L, A, c, by rw [e], hm, hc, raw_back (d := k50) hC rfl (fun j x z hx hz => k50.K_below h.bel (h3 j x z hx hz)), h.bel⟩
theorem el_get {l : List S50} {i : Nat} (h : i < l.length) : rd_T50 l (i : Int) = l[i] := by simp [rd_T50, List.getD_eq_getElem?_getD, h]
set_option maxHeartbeats 8000000 in
set_option maxRecDepth 10000 in
theorem merged_e (A : Option Addr) (c : Nat) (a : List S50) (B : Option Addr) (d : Nat) (b : List S50) (w : World) (ha : k50.C w A a.length a) (hb : k50.C w B b.length b) (la : a.length ≤ 1000) (lb : b.length ≤ 1000) (pa : Asc a) (pb : Asc b) (hne : ∀ x ∈ a, ∀ y ∈ b, x.f0 ≠ y.f0) :
    Calls Tryz.prog 60 #[.slice A a.length c, .slice B b.length d] w (MergeEnd a b w) := by
  have HA := Aside0.mk ha
  have HB := Aside0.mk hb
  have HL := Aside0.mk (And.intro la lb)
  have HP := Aside0.mk (And.intro pa (And.intro pb hne))
  clear ha hb la lb pa pb hne
  have hu50 := Tryz.underlying50
  go_enter Tryz.func60, Tryz.ntmps60
  go_wp2_with fail
  go_loopg [5, 6, 7] (a.length + b.length) (fun gg s5 s6 s7 wr => ∃ (i k : Nat) (L : List S50), i ≤ a.length ∧ k ≤ b.length ∧ a.length + b.length - (i + k) ≤ gg ∧ s6 = .int .i64 i ∧ s7 = .int .i64 k ∧ Aside0 (MG a b i k L) ∧ Aside0 (MR w L s5 wr))
  case atStart => exact ⟨0, 0, [], by omega, by omega, by omega, rfl, rfl, ⟨MG.start a b⟩, ⟨⟨[], Kd.R_nil _ _ _ _ _, rfl, fun j x z hx => by simp at hx⟩, Below.refl _ w⟩⟩
  case round =>
    obtain ⟨i, k, L, hi, hk, hg, rfl, rfl, HM, HR⟩ := hrel
    have ew1 : wrap64 ((i : Int) + 1) = ((i + 1 : Nat) : Int) := by have := HL.out; unfold wrap64; omega
    have ew2 : wrap64 ((k : Int) + 1) = ((k + 1 : Nat) : Int) := by have := HL.out; unfold wrap64; omega
    have EW := Aside0.mk (And.intro ew1 ew2)
    clear ew1 ew2
    by_cases qa : i < a.length
    · have qaz : (i : Int) < (a.length : Int) := by omega
      obtain ⟨ad, A1, ac, ea, a0, a1', al, ag⟩ := at_T50 HA.out (i : Int) (by omega) (by omega)
      subst ea
      rw [Int.toNat_natCast, el_get qa] at a0 a1'
      rw [el_get qa] at al ag
      obtain ⟨xa, hxa⟩ : ∃ x, x = a[i] := ⟨_, rfl⟩
      rw [← hxa] at a0 a1' al ag
      have HXa := Aside0.mk hxa
      clear hxa
      have Ka := Aside0.mk (k50_mk w xa al ag)
      replace a0 := cell_up a0 HR.out.bel
      replace a1' := cell_up a1' HR.out.bel
      clear al ag
      by_cases qb : k < b.length
      · have qbz : (k : Int) < (b.length : Int) := by omega
        have qbe : ((k : Int) == (b.length : Int)) = false := beq_eq_false_iff_ne.mpr (by omega)
        obtain ⟨bd, B1, bc, eb, b0, b1', bl, bg⟩ := at_T50 HB.out (k : Int) (by omega) (by omega)
        subst eb
        rw [Int.toNat_natCast, el_get qb] at b0 b1'
        rw [el_get qb] at bl bg
        obtain ⟨xb, hxb⟩ : ∃ x, x = b[k] := ⟨_, rfl⟩
        rw [← hxb] at b0 b1' bl bg
        have HXb := Aside0.mk hxb
        clear hxb
        have Kb := Aside0.mk (k50_mk w xb bl bg)
        replace b0 := cell_up b0 HR.out.bel
        replace b1' := cell_up b1' HR.out.bel
        clear bl bg
        by_cases qc : xa.f0 < xb.f0
        · skip
          have HN : Aside0 (MG a b (i + 1) k (L ++ [xa])) := ⟨by rw [HXa.out]; exact HM.out.step HP.out.1 HP.out.2.1 qa (fun hk => by rw [← HXa.out, ← HXb.out]; exact qc)⟩
          go_wp2_with fail
          repeat (go_quiet (fail))
          have HD := Aside0.mk (HR.out.drawn nq)
          replace a0 := cell_up a0 (pw_below_drewN (Below.refl wr.heap.size wr) nq)
          replace a1' := cell_up a1' (pw_below_drewN (Below.refl wr.heap.size wr) nq)
          clear HR b0 b1'
          generalize wr.drewN nq = W at HD a0 a1' ⊢
          obtain ⟨zs, hR, hz, hk0⟩ := HD.out.ex
          have HZ := Aside0.mk (And.intro hR (And.intro hz hk0))
          clear hR hz hk0
          go_wp2_with (first | ((with_reducible refine gate_builtin (b := .append) (xs := #[.tmp 41, .tmp 46]) rfl ?_); at_builtin; refine Kd.R_append (kraw 2) (w0 := w) w.heap.size rfl (.tmp 41) (.tmp 46) 27 50 (.agg #[(.int .i64 0), (.slice none 0 0)]) 32 rfl Tryz.underlying27 info50 rfl (by decide) (by omega) u5 zs [.int .i64 xa.f0, .slice A1 xa.f1.length ac] [.int .i64 xa.f0, .slice A1 xa.f1.length ac] (fun _ => True) (fun _ => False) rfl rfl ?aP (fun _ hk => hk.elim) ?aF ?aO ?aB ?aS ?aL ?_; (case aP => exact ⟨rfl, rfl, by simp [Value.oneCell']⟩); (case aF => exact (fun _ _ => trivial)); (case aO => exact HZ.out.1); (case aB => exact HD.out.bel); (case aS => exact below_size HD.out.bel); (case aL => exact (by have := HZ.out.2.1; have := HM.out.len; have := HL.out; omega)); intro v1 w2 ho hb hg hat; have HY := Aside0.mk (mr_snoc ho HZ.out.2.1 HZ.out.2.2 Ka.out hb); clear ho hb hg hat))
          go_roundg (a.length + b.length - ((i + 1) + k))
          case measure => omega
          case rel => exact ⟨i + 1, k, _, by omega, by omega, Nat.le_refl _, by rw [EW.out.1], rfl, HN, HY⟩
        · skip
          have HN : Aside0 (MG a b i (k + 1) (L ++ [xb])) := ⟨by rw [HXb.out]; exact (HM.out.swap.step HP.out.2.1 HP.out.1 qb (fun hk => by rw [← HXa.out, ← HXb.out]; have := HP.out.2.2 a[i] (List.getElem_mem qa) b[k] (List.getElem_mem qb); rw [← HXa.out, ← HXb.out] at this; omega)).swap⟩
          go_wp2_with fail
          repeat (go_quiet (fail))
          have HD := Aside0.mk (HR.out.drawn nq)
          replace b0 := cell_up b0 (pw_below_drewN (Below.refl wr.heap.size wr) nq)
          replace b1' := cell_up b1' (pw_below_drewN (Below.refl wr.heap.size wr) nq)
          clear HR a0 a1'
          generalize wr.drewN nq = W at HD b0 b1' ⊢
          obtain ⟨zs, hR, hz, hk0⟩ := HD.out.ex
          have HZ := Aside0.mk (And.intro hR (And.intro hz hk0))
          clear hR hz hk0
          go_wp2_with (first | ((with_reducible refine gate_builtin (b := .append) (xs := #[.tmp 50, .tmp 55]) rfl ?_); at_builtin; refine Kd.R_append (kraw 2) (w0 := w) w.heap.size rfl (.tmp 50) (.tmp 55) 27 50 (.agg #[(.int .i64 0), (.slice none 0 0)]) 32 rfl Tryz.underlying27 info50 rfl (by decide) (by omega) u5 zs [.int .i64 xb.f0, .slice B1 xb.f1.length bc] [.int .i64 xb.f0, .slice B1 xb.f1.length bc] (fun _ => True) (fun _ => False) rfl rfl ?aP (fun _ hk => hk.elim) ?aF ?aO ?aB ?aS ?aL ?_; (case aP => exact ⟨rfl, rfl, by simp [Value.oneCell']⟩); (case aF => exact (fun _ _ => trivial)); (case aO => exact HZ.out.1); (case aB => exact HD.out.bel); (case aS => exact below_size HD.out.bel); (case aL => exact (by have := HZ.out.2.1; have := HM.out.len; have := HL.out; omega)); intro v1 w2 ho hb hg hat; have HY := Aside0.mk (mr_snoc ho HZ.out.2.1 HZ.out.2.2 Kb.out hb); clear ho hb hg hat))
          go_roundg (a.length + b.length - (i + (k + 1)))
          case measure => omega
          case rel => exact ⟨i, k + 1, _, by omega, by omega, Nat.le_refl _, rfl, by rw [EW.out.2], HN, HY⟩
      · have qbe : ((k : Int) == (b.length : Int)) = true := beq_iff_eq.mpr (by omega)
        have HN : Aside0 (MG a b (i + 1) k (L ++ [xa])) := ⟨by rw [HXa.out]; exact HM.out.step HP.out.1 HP.out.2.1 qa (fun hk => absurd hk qb)⟩
        go_wp2_with fail
        repeat (go_quiet (fail))
        have HD := Aside0.mk (HR.out.drawn nq)
        replace a0 := cell_up a0 (pw_below_drewN (Below.refl wr.heap.size wr) nq)
        replace a1' := cell_up a1' (pw_below_drewN (Below.refl wr.heap.size wr) nq)
        clear HR
        generalize wr.drewN nq = W at HD a0 a1' ⊢
        obtain ⟨zs, hR, hz, hk0⟩ := HD.out.ex
        have HZ := Aside0.mk (And.intro hR (And.intro hz hk0))
        clear hR hz hk0
        go_wp2_with (first | ((with_reducible refine gate_builtin (b := .append) (xs := #[.tmp 41, .tmp 46]) rfl ?_); at_builtin; refine Kd.R_append (kraw 2) (w0 := w) w.heap.size rfl (.tmp 41) (.tmp 46) 27 50 (.agg #[(.int .i64 0), (.slice none 0 0)]) 32 rfl Tryz.underlying27 info50 rfl (by decide) (by omega) u5 zs [.int .i64 xa.f0, .slice A1 xa.f1.length ac] [.int .i64 xa.f0, .slice A1 xa.f1.length ac] (fun _ => True) (fun _ => False) rfl rfl ?aP (fun _ hk => hk.elim) ?aF ?aO ?aB ?aS ?aL ?_; (case aP => exact ⟨rfl, rfl, by simp [Value.oneCell']⟩); (case aF => exact (fun _ _ => trivial)); (case aO => exact HZ.out.1); (case aB => exact HD.out.bel); (case aS => exact below_size HD.out.bel); (case aL => exact (by have := HZ.out.2.1; have := HM.out.len; have := HL.out; omega)); intro v1 w2 ho hb hg hat; have HY := Aside0.mk (mr_snoc ho HZ.out.2.1 HZ.out.2.2 Ka.out hb); clear ho hb hg hat))
        go_roundg (a.length + b.length - ((i + 1) + k))
        case measure => omega
        case rel => exact ⟨i + 1, k, _, by omega, by omega, Nat.le_refl _, by rw [EW.out.1], rfl, HN, HY⟩
    · have qaz : ¬ (i : Int) < (a.length : Int) := by omega
      by_cases qb : k < b.length
      · have qbz : (k : Int) < (b.length : Int) := by omega
        have qbe : ((k : Int) == (b.length : Int)) = false := beq_eq_false_iff_ne.mpr (by omega)
        obtain ⟨bd, B1, bc, eb, b0, b1', bl, bg⟩ := at_T50 HB.out (k : Int) (by omega) (by omega)
        subst eb
        rw [Int.toNat_natCast, el_get qb] at b0 b1'
        rw [el_get qb] at bl bg
        obtain ⟨xb, hxb⟩ : ∃ x, x = b[k] := ⟨_, rfl⟩
        rw [← hxb] at b0 b1' bl bg
        have HXb := Aside0.mk hxb
        clear hxb
        have Kb := Aside0.mk (k50_mk w xb bl bg)
        replace b0 := cell_up b0 HR.out.bel
        replace b1' := cell_up b1' HR.out.bel
        clear bl bg
        have HN : Aside0 (MG a b i (k + 1) (L ++ [xb])) := ⟨by rw [HXb.out]; exact (HM.out.swap.step HP.out.2.1 HP.out.1 qb (fun hk => absurd hk qa)).swap⟩
        go_wp2_with fail
        repeat (go_quiet (fail))
        have HD := Aside0.mk (HR.out.drawn nq)
        replace b0 := cell_up b0 (pw_below_drewN (Below.refl wr.heap.size wr) nq)
        replace b1' := cell_up b1' (pw_below_drewN (Below.refl wr.heap.size wr) nq)
        clear HR
        generalize wr.drewN nq = W at HD b0 b1' ⊢
        obtain ⟨zs, hR, hz, hk0⟩ := HD.out.ex
        have HZ := Aside0.mk (And.intro hR (And.intro hz hk0))
        clear hR hz hk0
        go_wp2_with (first | ((with_reducible refine gate_builtin (b := .append) (xs := #[.tmp 50, .tmp 55]) rfl ?_); at_builtin; refine Kd.R_append (kraw 2) (w0 := w) w.heap.size rfl (.tmp 50) (.tmp 55) 27 50 (.agg #[(.int .i64 0), (.slice none 0 0)]) 32 rfl Tryz.underlying27 info50 rfl (by decide) (by omega) u5 zs [.int .i64 xb.f0, .slice B1 xb.f1.length bc] [.int .i64 xb.f0, .slice B1 xb.f1.length bc] (fun _ => True) (fun _ => False) rfl rfl ?aP (fun _ hk => hk.elim) ?aF ?aO ?aB ?aS ?aL ?_; (case aP => exact ⟨rfl, rfl, by simp [Value.oneCell']⟩); (case aF => exact (fun _ _ => trivial)); (case aO => exact HZ.out.1); (case aB => exact HD.out.bel); (case aS => exact below_size HD.out.bel); (case aL => exact (by have := HZ.out.2.1; have := HM.out.len; have := HL.out; omega)); intro v1 w2 ho hb hg hat; have HY := Aside0.mk (mr_snoc ho HZ.out.2.1 HZ.out.2.2 Kb.out hb); clear ho hb hg hat))
        go_roundg (a.length + b.length - (i + (k + 1)))
        case measure => omega
        case rel => exact ⟨i, k + 1, _, by omega, by omega, Nat.le_refl _, rfl, by rw [EW.out.2], HN, HY⟩
      · have qbz : ¬ (k : Int) < (b.length : Int) := by omega
        have HE : Aside0 (MergeEnd a b w (.returned u5) wr) := ⟨merge_end HR.out (by rw [show a.length = i by omega, show b.length = k by omega]; exact HM.out)⟩
        go_wp2_with fail
        go_ret
        exact HE.out
theorem wm_at (l : List Int) (i : Nat) (h : i < l.length) : rd l (i : Int) = l[i] := by
  simp [rd, List.getD_eq_getElem?_getD, h]
theorem wm_byte {n : Int} (h1 : 1 ≤ n) (h2 : n ≤ 128) : wrap64 (Int.tdiv (wrap64 (n - 1)) 8) = (n - 1) / 8 := by
  have e : wrap64 (n - 1) = n - 1 := by unfold wrap64; omega
  rw [e, Int.tdiv_eq_ediv_of_nonneg (by omega)]
  unfold wrap64; omega
theorem u64_nonneg' (v : Int) : 0 ≤ IntKind.u64.wrap v := by
  have e : (2 : Int) ^ IntKind.u64.bits = 18446744073709551616 := by decide
  simp only [IntKind.wrap, IntKind.u64]
  exact Int.emod_nonneg _ (by decide)
def WmLen (l : List Int) : Prop := l.length = 8 ∨ l.length = 16
def z8 : List Int := [0, 0, 0, 0, 0, 0, 0, 0]
theorem z8_C (W : World) : (Kd.int .u8).C (W.alloc (.cells #[.int .u8 0, .int .u8 0, .int .u8 0, .int .u8 0, .int .u8 0, .int .u8 0, .int .u8 0, .int .u8 0] 5)) (some ⟨W.heap.size, 0, none⟩) z8.length z8 := by
  refine Kd.C_of_reads (d := (0 : Int)) ⟨rfl, by decide, fun _ => ⟨_, rfl, fun j hj => ?_⟩⟩
  have hj8 : j < 8 := hj
  have hb := blk_new W (.cells #[.int .u8 0, .int .u8 0, .int .u8 0, .int .u8 0, .int .u8 0, .int .u8 0, .int .u8 0, .int .u8 0] 5)
  have ea : ((⟨W.heap.size, 0, none⟩ : Addr).add j) = ⟨W.heap.size, j, none⟩ := by simp [Addr.add]; omega
  rw [ea]
  obtain rfl | rfl | rfl | rfl | rfl | rfl | rfl | rfl : j = 0 ∨ j = 1 ∨ j = 2 ∨ j = 3 ∨ j = 4 ∨ j = 5 ∨ j = 6 ∨ j = 7 := by omega
  all_goals exact (blk_cell hb _).trans rfl
/-- The map so far: bytes of one's own. -/
structure WM (w : World) (v : Value) (xs : List Int) (W : World) : Prop where
  row : Kd.R (Kd.int .u8) 5 W w.heap.size (fun _ => True) v xs
  len : WmLen xs
  bel : Below w.heap.size w W
theorem WM.set {w W : World} {g c n : Nat} {xs : List Int} (h : WM w (.slice (some ⟨g, 0, none⟩) n c) xs W) (hn : n = xs.length) (hg : w.heap.size ≤ g) (i : Int) (u : Int) : WM w (.slice (some ⟨g, 0, none⟩) n c) (xs.set i.toNat u) (W.setCell ⟨g, i.toNat, none⟩ (.int .u8 u)) := by
  subst hn
  exact ⟨(Kd.R_putg h.row i u).1, by have := h.len; unfold WmLen at this ⊢; rw [List.length_set]; exact this, below_set h.bel hg⟩
set_option maxHeartbeats 8000000 in
set_option maxRecDepth 100000 in
theorem writeMap_e (A : Option Addr) (c : Nat) (l : List Int) (w : World) (hl : l.length ≤ 1000) (hr : ∀ x ∈ l, 2 ≤ x ∧ x ≤ 128 ∧ x ≠ 65) (hp : l.Pairwise (· < ·)) (hC : Kd.C (Kd.int .i64) w A l.length l) (hc : l.length ≤ c) :
    Calls Tryz.prog 98 #[.slice A l.length c] w fun e w' => ∃ (m : List Int) (B : Option Addr) (d : Nat), e = .returned (.tuple #[.slice B m.length d, .int .i64 0]) ∧ m.length ≤ 16 ∧ m.length ≤ d ∧ (Kd.int .u8).C w' B m.length m ∧ Below w.heap.size w w' := by
  have HC := Aside0.mk hC
  have HL := Aside0.mk (And.intro hl (And.intro hr hp))
  clear hC hl hr hp hc
  go_enter Tryz.func98, Tryz.ntmps98
  go_wp2_with (first | ((with_reducible refine gate_dst (N := 7) rfl ?_); refine Kd.R_make (Kd.int .u8) _ 5 rfl (N := 7) rfl 38 _ _ rfl 8 rfl rfl Tryz.underlying38 (.int .u8 0) 1 info5 rfl (by decide) (by omega) 0 (ok := fun _ => True) (okp := fun _ => True) rfl (fun _ hk => hk) trivial (by omega) (by omega) (Below.refl _ _) (Nat.le_refl _) ?_; intro v0 w3 ho hb hg_ hnew_; have HM := Aside0.mk (show WM w v0 (List.replicate 8 0) w3 from ⟨ho, .inl rfl, hb⟩); clear hg_ hnew_ ho hb))
  go_loopg [4, 5] l.length (fun gg s4 s5 wr => ∃ (k : Nat) (xs : List Int), k ≤ l.length ∧ l.length - k ≤ gg ∧ s5 = .int .i64 k ∧ Aside0 (WM w s4 xs wr))
  case atStart => exact ⟨0, _, by omega, by omega, rfl, HM⟩
  case round =>
    obtain ⟨k, xs, hk, hg, rfl, HM⟩ := hrel
    have ek : wrap64 ((k : Int) + 1) = ((k + 1 : Nat) : Int) := by have := HL.out.1; unfold wrap64; omega
    have EK := Aside0.mk ek; clear ek
    by_cases hlt : k < l.length
    · have hltz : (k : Int) < (l.length : Int) := by omega
      obtain ⟨ad, eA, a0⟩ := Kd.at_int (Kd.C_below HC.out HM.out.bel) (k : Int) (by omega) (by omega)
      subst eA
      rw [wm_at l k hlt, Int.toNat_natCast] at a0
      have hn := HL.out.2.1 _ (List.getElem_mem hlt)
      have HP : Aside0 (∀ j : Nat, (hj : j + 1 = k) → l[j]'(by omega) < l[k]) := ⟨fun j hj => List.pairwise_iff_getElem.1 HL.out.2.2 j k (by omega) hlt (by omega)⟩
      obtain ⟨n, en⟩ : ∃ n, n = l[k] := ⟨_, rfl⟩
      rw [← en] at a0 hn HP
      clear en
      have n1 : ¬ n < 2 := by omega
      have n2 : ¬ 128 < n := by omega
      have n3 : (n == 65) = false := beq_eq_false_iff_ne.mpr hn.2.2
      have HN := Aside0.mk hn
      clear hn
      go_upto_region 6 with fail
      go_cut [40] from 18 to 40 (fun s40 wc => s40 = .bool false ∧ wc = wr)
      case first =>
        by_cases k0 : k = 0
        · have kz : ¬ (0 : Int) < (k : Int) := by omega
          replace k0 := Aside0.mk k0
          go_wp2_with fail
          go_meet
          exact ⟨by first | rfl | trivial, rfl⟩
        · have kz : (0 : Int) < (k : Int) := by omega
          obtain ⟨j, hj⟩ : ∃ j, j + 1 = k := ⟨k - 1, by omega⟩
          have hj1 : j < l.length := by omega
          obtain ⟨ad', eA', b0⟩ := Kd.at_int (Kd.C_below HC.out HM.out.bel) (j : Int) (by omega) (by omega)
          obtain rfl : ad = ad' := Option.some.inj eA'
          rw [wm_at l j hj1, Int.toNat_natCast] at b0
          have hlt2 := HP.out j hj
          generalize l[j] = m at b0 hlt2
          have hle : ¬ n ≤ m := by omega
          have e1 : (k : Int) - 1 = (j : Int) := by omega
          have e2 : wrap64 ((k : Int) - 1) = (j : Int) := by have := HL.out.1; unfold wrap64; omega
          have e3 : wrap64 (j : Int) = (j : Int) := by have := HL.out.1; unfold wrap64; omega
          have hjz : (j : Int) < (l.length : Int) := by omega
          replace hj := Aside0.mk hj
          clear eA' HP
          go_wp2_with fail
          go_meet
          exact ⟨by first | rfl | trivial, rfl⟩
      case rest =>
      obtain ⟨rfl, rfl⟩ := hcut
      clear HP n1 n2 n3 a0
      obtain ⟨A4, c4, e4⟩ := Kd.R_slice HM.out.row
      subst e4
      have HQ : Aside0 (wrap64 (Int.tdiv (wrap64 (n - 1)) 8) = (n - 1) / 8) := ⟨wm_byte (by have := HN.out; omega) HN.out.2.1⟩
      go_upto_region 8 with fail
      go_cut [47] from 41 to 47 (fun s47 wd => ∃ b : Bool, s47 = .bool b ∧ wd = wc ∧ Aside0 (b = true ↔ 64 < n ∧ xs.length = 8))
      case first =>
        by_cases h64 : 64 < n
        · by_cases h8 : xs.length = 8
          · have h8z : ((xs.length : Int) == 8) = true := beq_iff_eq.mpr (by omega)
            have HH : Aside0 (64 < n ∧ xs.length = 8) := ⟨⟨h64, h8⟩⟩
            clear h8
            go_wp2_with fail
            go_meet
            exact ⟨true, rfl, rfl, ⟨⟨fun _ => HH.out, fun _ => rfl⟩⟩⟩
          · have h8z : ((xs.length : Int) == 8) = false := beq_eq_false_iff_ne.mpr (by omega)
            have HH : Aside0 (¬ (64 < n ∧ xs.length = 8)) := ⟨fun h => h8 h.2⟩
            clear h8
            go_wp2_with fail
            go_meet
            exact ⟨false, rfl, rfl, ⟨⟨fun h => absurd h (by decide), fun h => absurd h HH.out⟩⟩⟩
        · have HH : Aside0 (¬ (64 < n ∧ xs.length = 8)) := ⟨fun h => h64 h.1⟩
          go_wp2_with fail
          go_meet
          exact ⟨false, rfl, rfl, ⟨⟨fun h => absurd h (by decide), fun h => absurd h HH.out⟩⟩⟩
      case rest =>
      obtain ⟨b, rfl, rfl, HB⟩ := hcut
      go_upto_if 47 with fail
      go_cut [4] from 48 to 56 (fun s4 wc => ∃ ys : List Int, Aside0 (WM w s4 ys wc ∧ (n - 1) / 8 < (ys.length : Int)))
      case first =>
        cases b with
        | true =>
          have HX8 : Aside0 (xs.length = 8) := ⟨(HB.out.1 (by first | rfl | trivial)).2⟩
          clear HB
          go_wp2_with (first | ((with_reducible refine gate_builtin (b := .append) (xs := #[.tmp 48, .tmp 49]) rfl ?_); at_builtin; refine Kd.R_append_rows (Kd.int .u8) (w0 := w) w.heap.size rfl (.tmp 48) (.tmp 49) 38 5 (.int .u8 0) 1 rfl Tryz.underlying38 info5 rfl (by decide) (by decide) _ xs z8 _ _ _ (fun _ => True) (fun _ => False) rfl rfl (Kd.R_alloc HM.out.row _) (z8_C _) (fun _ _ h => h) (fun _ h => h.elim) (fun _ _ => trivial) (below_alloc HM.out.bel _) (below_size (below_alloc HM.out.bel _)) (by have := HX8.out; show (xs.length + 8) * 1 ≤ _; omega) ?_; intro v1 w5 ho hb hg hat; have HY := Aside0.mk (show WM w v1 (xs ++ z8) w5 from ⟨ho, .inr (by rw [List.length_append, HX8.out]; rfl), hb⟩); clear ho hb hg hat; have L16 : Aside0 ((xs ++ z8).length = 16) := ⟨by rw [List.length_append, HX8.out]; rfl⟩; generalize xs ++ z8 = ys at HY L16; obtain ⟨g, cg, eg, gb, -, -, -⟩ := Kd.R_form HY.out.row (by have := L16.out; omega); subst eg; obtain ⟨q0, z0⟩ := Kd.R_celln 0 HY.out.row 0 (by decide) (by have := L16.out; omega); simp only [Int.toNat_zero] at q0 z0; have GB := Aside0.mk gb; clear gb; have l16 : (0 : Int) < (ys.length : Int) := by have := L16.out; omega))
          have HE : Aside0 (∀ u, WM w (.slice (some ⟨g, 0, none⟩) ys.length cg) (ys.set (0 : Int).toNat u) (w5.setCell ⟨g, 0, none⟩ (.int .u8 u)) ∧ (n - 1) / 8 < ((ys.set (0 : Int).toNat u).length : Int)) := ⟨fun u => ⟨HY.out.set rfl GB.out 0 u, by rw [List.length_set, L16.out]; have := HN.out; omega⟩⟩
          go_meet
          exact ⟨_, ⟨HE.out _⟩⟩
        | false =>
          have HE : Aside0 (WM w (.slice A4 xs.length c4) xs wc ∧ (n - 1) / 8 < (xs.length : Int)) := ⟨HM.out, by
            have h1 := HM.out.len
            have h2 : ¬ (64 < n ∧ xs.length = 8) := fun h => absurd (HB.out.2 h) (by decide)
            have := HN.out
            rcases h1 with h1 | h1 <;> omega⟩
          go_wp2_with fail
          go_meet
          exact ⟨xs, HE⟩
      case rest =>
      obtain ⟨ys, HY⟩ := hcut
      clear HM HB
      obtain ⟨g, cg, eg, gb, -, -, -⟩ := Kd.R_form HY.out.1.row (by have := HY.out.1.len; unfold WmLen at this; omega)
      subst eg
      obtain ⟨ji, hji⟩ : ∃ j, j = (n - 1) / 8 := ⟨_, rfl⟩
      have hj0 : 0 ≤ ji := by have := HN.out; omega
      have hj1 : ji < (ys.length : Int) := by have := HY.out.2; omega
      obtain ⟨q0, z0⟩ := Kd.R_celln 0 HY.out.1.row ji hj0 hj1
      have e1 : wrap64 (Int.tdiv (wrap64 (n - 1)) 8) = ji := HQ.out.trans hji.symm
      have e2 : IntKind.i64.wrap (Int.tdiv (wrap64 (n - 1)) 8) = ji := (i64_w _).trans e1
      have hu : 0 ≤ IntKind.u64.wrap (Int.tmod (wrap64 (n - 1)) 8) := u64_nonneg' _
      obtain ⟨sh, hsh⟩ : ∃ s, IntKind.u64.wrap (Int.tmod (wrap64 (n - 1)) 8) = s := ⟨_, rfl⟩
      rw [hsh] at hu
      have HE : Aside0 (∀ u, WM w (.slice (some ⟨g, 0, none⟩) ys.length cg) (ys.set ji.toNat u) (wc.setCell ⟨g, ji.toNat, none⟩ (.int .u8 u))) := ⟨fun u => HY.out.1.set rfl gb ji u⟩
      clear gb hji HQ HY
      go_wp2_with fail
      go_roundg (l.length - (k + 1))
      case measure => omega
      case rel => exact ⟨k + 1, _, by omega, Nat.le_refl _, by rw [EK.out], ⟨HE.out _⟩⟩
    · have hltz : ¬ (k : Int) < (l.length : Int) := by omega
      obtain ⟨B, d, e, hd, hC⟩ := Kd.R_reads HM.out.row
      subst e
      have HE := Aside0.mk (And.intro hd (And.intro hC HM.out.bel))
      have H16 : Aside0 (xs.length ≤ 16) := ⟨by rcases HM.out.len with h | h <;> omega⟩
      clear hd hC
      go_wp2_with fail
      go_ret2
      exact ⟨xs, B, d, rfl, H16.out, HE.out.1, HE.out.2.1, HE.out.2.2⟩
/-- Bytes come back, or it is too long. -/
def PackEnd (w : World) (e : Ending) (w' : World) : Prop := ∃ (A : Option Addr) (n c : Nat) (f : Int), e = .returned (.tuple #[.slice A n c, .int .i64 f]) ∧ (f = 0 ∨ f = 4) ∧ Below w.heap.size w w'
def nosOf (L : List S50) : List Int := L.map (·.f0)
theorem nos_take {L : List S50} {k : Nat} (h : k < L.length) : nosOf (L.take (k + 1)) = nosOf (L.take k) ++ [L[k].f0] := by
  unfold nosOf
  rw [List.take_succ_eq_append_getElem h, List.map_append]; rfl
theorem nos_good {L : List S50} (pa : Asc L) (hok : ∀ y ∈ L, ElemOK y) : (∀ x ∈ nosOf L, 2 ≤ x ∧ x ≤ 128 ∧ x ≠ 65) ∧ (nosOf L).Pairwise (· < ·) := by
  refine ⟨fun x hx => ?_, List.pairwise_map.2 pa⟩
  obtain ⟨y, hy, rfl⟩ := List.mem_map.1 hx
  have h := elem_is (hok y hy)
  exact ⟨h.lo, h.hi, h.no⟩
set_option maxHeartbeats 8000000 in
set_option maxRecDepth 100000 in
theorem packIso_e (mti : ByteArray) (A : Option Addr) (c : Nat) (L : List S50) (w : World) (hm : rightF mti 4 4 = true) (hC : k50.C w A L.length L) (hl : L.length ≤ 200) (pa : Asc L) (hok : ∀ y ∈ L, ElemOK y) :
    Calls Tryz.prog 58 #[.agg #[.string mti, .slice A L.length c]] w (PackEnd w) := by
  have HM := Aside0.mk hm
  have HC := Aside0.mk hC
  have HL := Aside0.mk (And.intro hl hok)
  have HN := Aside0.mk (nos_good pa hok)
  have MS : Aside0 (mti.size = 4) := ⟨by have := (right_iff.1 hm).2; omega⟩
  have hu104 := Tryz.underlying104
  have hu50 := Tryz.underlying50
  clear hm hC hl pa hok
  go_enter Tryz.func58, Tryz.ntmps58
  go_upto_region 1 with fail
  obtain ⟨p, hp⟩ : ∃ p, p = w.heap.size := ⟨_, rfl⟩
  obtain ⟨W0, hW0⟩ : ∃ W, W = w.alloc (.cells #[.string mti, .slice A L.length c] 104) := ⟨_, rfl⟩
  have WB : Aside0 (Below w.heap.size w W0) := ⟨by rw [hW0]; exact below_alloc (Below.refl _ w) _⟩
  have CW : Aside0 (k50.C W0 A L.length L) := ⟨Kd.C_below HC.out WB.out⟩
  have MB : Aside0 (∀ W, Below W0.heap.size W0 W → W.heap[p]? = some (.cells #[.string mti, .slice A L.length c] 104 (0, 0))) := ⟨fun W hW => blk_below (by rw [hW0, hp]; exact blk_new w _) hW⟩
  rw [← hW0, ← hp]
  clear hW0 hp
  have B0 := Aside0.mk (Below.refl W0.heap.size W0)
  have c0 : W0.cell? ⟨p, 0, none⟩ = some (.string mti) := (blk_cell (MB.out _ B0.out) 0).trans rfl
  go_wp2_with fail
  refine (right_e mti 4 4 _ (by have := MS.out; omega)).mono ?_
  rintro e w1 ⟨rfl, hB⟩
  rw [HM.out]
  have B1 := Aside0.mk (below_step B0.out hB.below)
  clear hB c0 B0
  go_wp2_with fail
  go_loopg [4, 5] L.length (fun gg s4 s5 wr => ∃ k : Nat, k ≤ L.length ∧ L.length - k ≤ gg ∧ s5 = .int .i64 k ∧ Aside0 (Kd.R (Kd.int .i64) 3 wr W0.heap.size (fun _ => True) s4 (nosOf (L.take k))) ∧ Aside0 (Below W0.heap.size W0 wr))
  case atStart => exact ⟨0, by omega, by omega, rfl, ⟨Kd.R_nil _ _ _ _ _⟩, B1⟩
  case round =>
    obtain ⟨k, hk, hg, rfl, HR, BR⟩ := hrel
    have ek : wrap64 ((k : Int) + 1) = ((k + 1 : Nat) : Int) := by have := HL.out.1; unfold wrap64; omega
    have EK := Aside0.mk ek
    clear ek
    have c1 : wr.cell? ⟨p, 1, none⟩ = some (.slice A L.length c) := (blk_cell (MB.out _ BR.out) 1).trans rfl
    by_cases hlt : k < L.length
    · have hltz : (k : Int) < (L.length : Int) := by omega
      obtain ⟨ad, A1, d1, eA, a0, -, -, -⟩ := at_T50 (Kd.C_below CW.out BR.out) (k : Int) (by omega) (by omega)
      subst eA
      rw [Int.toNat_natCast, el_get hlt] at a0
      obtain ⟨n, hn⟩ : ∃ n, n = L[k].f0 := ⟨_, rfl⟩
      rw [← hn] at a0
      have HX := Aside0.mk hn
      clear hn
      have HZ : Aside0 ((nosOf (L.take k)).length ≤ 200) := ⟨by unfold nosOf; rw [List.length_map, List.length_take]; have := HL.out.1; omega⟩
      go_wp2_with (first | ((with_reducible refine gate_builtin (b := .append) (xs := #[.tmp 23, .tmp 30]) rfl ?_); at_builtin; refine Kd.R_append (Kd.int .i64) (w0 := W0) W0.heap.size rfl (.tmp 23) (.tmp 30) 144 3 (.int .i64 0) 8 rfl Tryz.underlying144 info3 rfl (by decide) (by omega) u4 (nosOf (L.take k)) n [.int .i64 n] (fun _ => True) (fun _ => False) rfl rfl ?aP (fun _ hk => hk.elim) ?aF ?aO ?aB ?aS ?aL ?_; (case aP => exact rfl); (case aB => exact BR.out); (case aF => exact (fun _ _ => trivial)); (case aO => exact HR.out); (case aS => exact below_size BR.out); (case aL => exact (by have := HZ.out; omega)); intro v1 w2 ho hb hg hat; have HO2 := Aside0.mk ho; have BY := Aside0.mk hb; clear ho hb hg hat))
      go_roundg (L.length - (k + 1))
      case measure => omega
      case rel => exact ⟨k + 1, by omega, Nat.le_refl _, by rw [EK.out], ⟨by rw [nos_take hlt, ← HX.out]; exact HO2.out⟩, BY⟩
    · have hltz : ¬ (k : Int) < (L.length : Int) := by omega
      obtain ⟨AL, cl, el, hcl, hCl⟩ := Kd.R_reads HR.out
      have etk : L.take k = L := List.take_of_length_le (by omega)
      rw [etk] at el hcl hCl
      subst el
      have HW := Aside0.mk (And.intro hcl hCl)
      clear hcl hCl etk HR
      have HNL : Aside0 ((nosOf L).length ≤ 1000) := ⟨by unfold nosOf; rw [List.length_map]; have := HL.out.1; omega⟩
      go_wp2_with fail
      refine (writeMap_e AL cl (nosOf L) _ HNL.out HN.out.1 HN.out.2 HW.out.2 HW.out.1).mono ?_
      rintro e w2 ⟨xm, AX, cx, rfl, hx16, hxc, hxC, hB⟩
      have B2 := Aside0.mk (below_step BR.out hB)
      have HXM := Aside0.mk (And.intro hx16 (And.intro hxc hxC))
      clear hB hx16 hxc hxC HW BR c1
      have kb := fun W => print_bytes (P := Tryz.prog) 9 38 5 Tryz.underlying9 Tryz.underlying38 Tryz.underlying5 mti W
      have HB := Aside0.mk (bb_start W0 w2 mti B2.out (by have := MS.out; omega))
      have HXC := Aside0.mk (Kd.C_below HXM.out.2.2 (bytes_below (Below.refl _ w2) (Nat.le_refl _) 5 mti))
      have c0 : w2.cell? ⟨p, 0, none⟩ = some (.string mti) := (blk_cell (MB.out _ B2.out) 0).trans rfl
      go_wp2_with (first | ((with_reducible refine gate_builtin (b := .append) (xs := #[.tmp 42, .tmp 43]) rfl ?_); refine bb_append _ rfl (.tmp 42) (.tmp 43) rfl (by rfl) HB.out AX cx xm (by rfl) HXC.out (by rw [bytesOf_length]; have := MS.out; have := HXM.out.1; omega) ?_; intro v' w' hBB; have HE : Aside0 (∃ l, l.length ≤ 20 ∧ BB W0 l v' w') := ⟨⟨_, by rw [List.length_append, bytesOf_length]; have := MS.out; have := HXM.out.1; omega, hBB⟩⟩; clear hBB))
      go_loopg [8, 9] L.length (fun gg s8 s9 wr => ∃ k : Nat, k ≤ L.length ∧ L.length - k ≤ gg ∧ s9 = .int .i64 k ∧ Aside0 (∃ l, l.length ≤ 20 + k * 1100 ∧ BB W0 l s8 wr))
      case atStart => exact ⟨0, by omega, by omega, rfl, ⟨by obtain ⟨l, h1, h2⟩ := HE.out; exact ⟨l, by omega, h2⟩⟩⟩
      case round =>
        obtain ⟨k, hk, hg, rfl, HR⟩ := hrel
        obtain ⟨l, hl, hBB⟩ := HR.out
        have HB2 := Aside0.mk (And.intro hl hBB)
        have BR := Aside0.mk hBB.bel
        clear hl hBB HR
        have ek : wrap64 ((k : Int) + 1) = ((k + 1 : Nat) : Int) := by have := HL.out.1; unfold wrap64; omega
        have EK := Aside0.mk ek
        clear ek
        have c1 : wr.cell? ⟨p, 1, none⟩ = some (.slice A L.length c) := (blk_cell (MB.out _ BR.out) 1).trans rfl
        by_cases hlt : k < L.length
        · have hltz : (k : Int) < (L.length : Int) := by omega
          obtain ⟨ad, A1, d1, eA, a0, a1, al, ag⟩ := at_T50 (Kd.C_below CW.out BR.out) (k : Int) (by omega) (by omega)
          subst eA
          rw [Int.toNat_natCast, el_get hlt] at a0 a1
          rw [el_get hlt] at al ag
          have HEL := Aside0.mk (HL.out.2 _ (List.getElem_mem hlt))
          obtain ⟨x, hx⟩ : ∃ x, x = L[k] := ⟨_, rfl⟩
          rw [← hx] at a0 a1 al ag HEL
          clear hx
          obtain ⟨no, data⟩ := x
          have HAG := Aside0.mk (And.intro al ag)
          clear al ag
          go_wp2_with fail
          refine (writeEl_e no data A1 d1 _ HAG.out.2 HEL.out).mono ?_
          rintro e w3 ⟨y, AY, cy, rfl, hy, hyc, hyC, hB⟩
          have HY := Aside0.mk (And.intro hy (And.intro hyc hyC))
          have HB3 := Aside0.mk (HB2.out.2.below hB)
          clear hy hyc hyC hB c1 a0 a1
          go_wp2_with (first | ((with_reducible refine gate_builtin (b := .append) (xs := #[.tmp 64, .tmp 65]) rfl ?_); refine bb_append _ rfl (.tmp 64) (.tmp 65) rfl (by rfl) HB3.out AY cy y (by rfl) HY.out.2.2 (by have := HY.out.1; have := HB2.out.1; have := HL.out.1; omega) ?_; intro v' w' hBB; have HE2 : Aside0 (∃ l, l.length ≤ 20 + (k + 1) * 1100 ∧ BB W0 l v' w') := ⟨⟨_, by rw [List.length_append]; have := HY.out.1; have := HB2.out.1; omega, hBB⟩⟩; clear hBB))
          go_roundg (L.length - (k + 1))
          case measure => omega
          case rel => exact ⟨k + 1, by omega, Nat.le_refl _, by rw [EK.out], HE2⟩
        · have hltz : ¬ (k : Int) < (L.length : Int) := by omega
          obtain ⟨AR, cR, eR, hcR, hCR⟩ := HB2.out.2.reads
          subst eR
          have BX := Aside0.mk (below_step WB.out HB2.out.2.bel)
          by_cases h4 : (4096 : Int) < (l.length : Int)
          · go_wp2_with fail
            go_ret2
            exact ⟨_, _, _, 4, rfl, .inr rfl, BX.out⟩
          · go_wp2_with fail
            go_ret2
            exact ⟨_, _, _, 0, rfl, .inl rfl, BX.out⟩
end Go.Proofs.YthapknnppabdaaaGreat.MQ
