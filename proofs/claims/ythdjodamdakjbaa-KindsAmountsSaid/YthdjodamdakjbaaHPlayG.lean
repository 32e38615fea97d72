/- comptoirplay's pieces, by what they leave: elements. -/
import Derived.Test.YthdjodamdakjbaaHPlayB
namespace Go.Proofs.Ythdjodamdakjbaa.MK
open Go.RowKit Go.Proofs.YthdjodamdakjbaaW.PrintWords Go.Proofs.YthdjodamdakjbaaW.PrintLast Go.Proofs.YthdjodamdakjbaaW.PrintMore
set_option linter.unusedVariables false
set_option linter.unusedSimpArgs false

set_option maxHeartbeats 4000000 in
theorem spare_x (n : Int) (w : World) : Calls Try.prog 54 #[.int .i64 n] w (OutB AnyB w) := by
  have HB := Aside0.mk (Below.refl w.heap.size w)
  by_cases h43 : n = 43
  · subst h43; go_enter Try.func54, Try.ntmps54; go_wp2_with fail; go_ret; exact ⟨_, rfl, trivial, HB.out⟩
  by_cases h102 : n = 102
  · subst h102; go_enter Try.func54, Try.ntmps54; go_wp2_with fail; go_ret; exact ⟨_, rfl, trivial, HB.out⟩
  by_cases h103 : n = 103
  · subst h103; go_enter Try.func54, Try.ntmps54; go_wp2_with fail; go_ret; exact ⟨_, rfl, trivial, HB.out⟩
  by_cases h120 : n = 120
  · subst h120; go_enter Try.func54, Try.ntmps54; go_wp2_with fail; go_ret; exact ⟨_, rfl, trivial, HB.out⟩
  have b43 : (n == 43) = false := beq_eq_false_iff_ne.mpr h43
  have b102 : (n == 102) = false := beq_eq_false_iff_ne.mpr h102
  have b103 : (n == 103) = false := beq_eq_false_iff_ne.mpr h103
  have b120 : (n == 120) = false := beq_eq_false_iff_ne.mpr h120
  clear h43 h102 h103 h120
  by_cases r1 : 60 ≤ n
  · by_cases r2 : n ≤ 63
    · go_enter Try.func54, Try.ntmps54; go_wp2_with fail; go_ret; exact ⟨_, rfl, trivial, HB.out⟩
    · go_enter Try.func54, Try.ntmps54; go_wp2_with fail; go_ret; exact ⟨_, rfl, trivial, HB.out⟩
  · go_enter Try.func54, Try.ntmps54; go_wp2_with fail; go_ret; exact ⟨_, rfl, trivial, HB.out⟩
theorem form_x (a b c d : Int) (w : World) : Calls Try.prog 75 #[.int .i64 a, .int .i64 b, .int .i64 c, .int .i64 d] w fun e w' => e = .returned (.agg #[.int .i64 a, .int .i64 b, .int .i64 c, .int .i64 d]) ∧ Below w.heap.size w w' := by
  have hu := Try.underlying92
  go_enter Try.func75, Try.ntmps75
  go_wp2_with fail
  exact bodyPost_ret (results_cell_row (fn := Try.f75) (p := 8) (ty := 92) (by rfl) _ _ w.heap.size 92 #[.int .i64 a, .int .i64 b, .int .i64 c, .int .i64 d] (0, 0) _ (by rfl) (blk_new w _) hu rfl (by kernel_rfl)) rfl ⟨rfl, below_alloc (Below.refl _ w) _⟩
def isInt : Value → Bool
  | .int .i64 _ => true
  | _ => false
theorem isInt_is {v : Value} (h : isInt v = true) : v = .int .i64 (intOf v) := by
  unfold isInt at h
  split at h
  · rfl
  · cases h
theorem lit_C (w : World) (g : Nat) (cs : Array Value) (t n : Nat) (hb : w.heap[g]? = some (.cells cs t (0, 0))) (hn : cs.size = n * 4) (hn' : n ≤ 9223372036854775807) (hi : cs.toList.all isInt = true) : ∃ xs : List S92, k92.C w (some ⟨g, 0, none⟩) n xs := by
  have get : ∀ j, j < n * 4 → w.cell? ⟨g, j, none⟩ = some (.int .i64 (intOf (cs.toList.getD j (.int .i64 0)))) := fun j hj => by
    have hj' : j < cs.toList.length := by rw [Array.length_toList]; omega
    have h1 : cs.toList[j]? = some cs.toList[j] := List.getElem?_eq_getElem hj'
    rw [List.all_eq_true] at hi
    have h2 := isInt_is (hi _ (List.getElem_mem hj'))
    rw [(blk_cell hb j)]
    have h3 : cs[j]? = cs.toList[j]? := by simp
    rw [h3, h1, List.getD_eq_getElem?_getD, h1, Option.getD_some, ← h2]
  refine ⟨(List.range n).map (fun j => ⟨intOf (cs.toList.getD (j * 4) (.int .i64 0)), intOf (cs.toList.getD (j * 4 + 1) (.int .i64 0)), intOf (cs.toList.getD (j * 4 + 2) (.int .i64 0)), intOf (cs.toList.getD (j * 4 + 3) (.int .i64 0))⟩), by simp, hn', fun _ => ⟨_, rfl, fun j p hp => ?_⟩⟩
  have hj : j < n := by
    have := (List.getElem?_eq_some_iff.1 hp).1
    simpa using this
  have hp' : p = ⟨intOf (cs.toList.getD (j * 4) (.int .i64 0)), intOf (cs.toList.getD (j * 4 + 1) (.int .i64 0)), intOf (cs.toList.getD (j * 4 + 2) (.int .i64 0)), intOf (cs.toList.getD (j * 4 + 3) (.int .i64 0))⟩ := by
    rw [List.getElem?_map, List.getElem?_range hj] at hp
    exact (Option.some.inj hp).symm
  subst hp'
  refine ⟨_, rfl, k92_mk w _, fun i u hu => ?_⟩
  have ea : ∀ k, ((⟨g, 0, none⟩ : Addr).add k) = ⟨g, k, none⟩ := fun k => by simp [Addr.add]; omega
  show w.cell? ((⟨g, 0, none⟩ : Addr).add (j * 4 + i)) = some u
  rw [ea]
  match i, hu with
  | 0, hu => rw [← hu]; exact get _ (by omega)
  | 1, hu => rw [← hu]; exact get _ (by omega)
  | 2, hu => rw [← hu]; exact get _ (by omega)
  | 3, hu => rw [← hu]; exact get _ (by omega)
  | i + 4, hu => simp at hu
/-- A list of formats comes back. -/
def Forms (w : World) (e : Ending) (w' : World) : Prop := ∃ (A : Option Addr) (n c : Nat) (xs : List S92), e = .returned (.slice A n c) ∧ k92.C w' A n xs ∧ n ≤ c ∧ n ≤ 1000 ∧ Below w.heap.size w w'
theorem forms_lit {w W : World} {cs : Array Value} {t : Nat} (hb : Below w.heap.size w W) (hn : cs.size = 96) (hi : cs.toList.all isInt = true) : Forms w (.returned (.slice (some ⟨W.heap.size, 0, none⟩) 24 24)) (W.alloc (.cells cs t)) := by
  obtain ⟨xs, hx⟩ := lit_C _ _ cs t 24 (blk_new W (.cells cs t)) hn (by omega) hi
  exact ⟨_, _, _, xs, rfl, hx, Nat.le_refl _, by omega, below_alloc hb _⟩
set_option maxHeartbeats 8000000 in
set_option maxRecDepth 100000 in
theorem formats_x (w : World) : Calls Try.prog 72 #[] w (Forms w) := by
  have BW := Aside0.mk (Below.refl w.heap.size w)
  go_enter Try.func72, Try.ntmps72
  go_wp2_with (first | ((with_reducible refine gate_callee (f := 75) rfl ?_); refine goesL_ (some 1) rfl rfl Try.func75 (by kernel_rfl) rfl #[.int .i64 2, .int .i64 1, .int .i64 2, .int .i64 19] rfl (by (try simp only [List.map_toArray, List.map_cons, List.map_nil]); first | done | rfl) ?_; (with_reducible refine (form_x 2 1 2 19 _).mono ?_); rintro e w1 ⟨rfl, hB⟩; refine ⟨_, rfl, ?_⟩; replace BW := Aside0.mk (below_step BW.out hB); clear hB) | ((with_reducible refine gate_callee (f := 75) rfl ?_); refine goesL_ (some 2) rfl rfl Try.func75 (by kernel_rfl) rfl #[.int .i64 4, .int .i64 1, .int .i64 0, .int .i64 12] rfl (by (try simp only [List.map_toArray, List.map_cons, List.map_nil]); first | done | rfl) ?_; (with_reducible refine (form_x 4 1 0 12 _).mono ?_); rintro e w1 ⟨rfl, hB⟩; refine ⟨_, rfl, ?_⟩; replace BW := Aside0.mk (below_step BW.out hB); clear hB) | ((with_reducible refine gate_callee (f := 75) rfl ?_); refine goesL_ (some 3) rfl rfl Try.func75 (by kernel_rfl) rfl #[.int .i64 11, .int .i64 1, .int .i64 0, .int .i64 6] rfl (by (try simp only [List.map_toArray, List.map_cons, List.map_nil]); first | done | rfl) ?_; (with_reducible refine (form_x 11 1 0 6 _).mono ?_); rintro e w1 ⟨rfl, hB⟩; refine ⟨_, rfl, ?_⟩; replace BW := Aside0.mk (below_step BW.out hB); clear hB) | ((with_reducible refine gate_callee (f := 75) rfl ?_); refine goesL_ (some 4) rfl rfl Try.func75 (by kernel_rfl) rfl #[.int .i64 12, .int .i64 1, .int .i64 0, .int .i64 14] rfl (by (try simp only [List.map_toArray, List.map_cons, List.map_nil]); first | done | rfl) ?_; (with_reducible refine (form_x 12 1 0 14 _).mono ?_); rintro e w1 ⟨rfl, hB⟩; refine ⟨_, rfl, ?_⟩; replace BW := Aside0.mk (below_step BW.out hB); clear hB) | ((with_reducible refine gate_callee (f := 75) rfl ?_); refine goesL_ (some 5) rfl rfl Try.func75 (by kernel_rfl) rfl #[.int .i64 22, .int .i64 1, .int .i64 0, .int .i64 3] rfl (by (try simp only [List.map_toArray, List.map_cons, List.map_nil]); first | done | rfl) ?_; (with_reducible refine (form_x 22 1 0 3 _).mono ?_); rintro e w1 ⟨rfl, hB⟩; refine ⟨_, rfl, ?_⟩; replace BW := Aside0.mk (below_step BW.out hB); clear hB) | ((with_reducible refine gate_callee (f := 75) rfl ?_); refine goesL_ (some 6) rfl rfl Try.func75 (by kernel_rfl) rfl #[.int .i64 25, .int .i64 1, .int .i64 0, .int .i64 4] rfl (by (try simp only [List.map_toArray, List.map_cons, List.map_nil]); first | done | rfl) ?_; (with_reducible refine (form_x 25 1 0 4 _).mono ?_); rintro e w1 ⟨rfl, hB⟩; refine ⟨_, rfl, ?_⟩; replace BW := Aside0.mk (below_step BW.out hB); clear hB) | ((with_reducible refine gate_callee (f := 75) rfl ?_); refine goesL_ (some 7) rfl rfl Try.func75 (by kernel_rfl) rfl #[.int .i64 32, .int .i64 1, .int .i64 2, .int .i64 11] rfl (by (try simp only [List.map_toArray, List.map_cons, List.map_nil]); first | done | rfl) ?_; (with_reducible refine (form_x 32 1 2 11 _).mono ?_); rintro e w1 ⟨rfl, hB⟩; refine ⟨_, rfl, ?_⟩; replace BW := Aside0.mk (below_step BW.out hB); clear hB) | ((with_reducible refine gate_callee (f := 75) rfl ?_); refine goesL_ (some 8) rfl rfl Try.func75 (by kernel_rfl) rfl #[.int .i64 37, .int .i64 2, .int .i64 0, .int .i64 12] rfl (by (try simp only [List.map_toArray, List.map_cons, List.map_nil]); first | done | rfl) ?_; (with_reducible refine (form_x 37 2 0 12 _).mono ?_); rintro e w1 ⟨rfl, hB⟩; refine ⟨_, rfl, ?_⟩; replace BW := Aside0.mk (below_step BW.out hB); clear hB) | ((with_reducible refine gate_callee (f := 75) rfl ?_); refine goesL_ (some 9) rfl rfl Try.func75 (by kernel_rfl) rfl #[.int .i64 38, .int .i64 2, .int .i64 0, .int .i64 6] rfl (by (try simp only [List.map_toArray, List.map_cons, List.map_nil]); first | done | rfl) ?_; (with_reducible refine (form_x 38 2 0 6 _).mono ?_); rintro e w1 ⟨rfl, hB⟩; refine ⟨_, rfl, ?_⟩; replace BW := Aside0.mk (below_step BW.out hB); clear hB) | ((with_reducible refine gate_callee (f := 75) rfl ?_); refine goesL_ (some 10) rfl rfl Try.func75 (by kernel_rfl) rfl #[.int .i64 39, .int .i64 1, .int .i64 0, .int .i64 3] rfl (by (try simp only [List.map_toArray, List.map_cons, List.map_nil]); first | done | rfl) ?_; (with_reducible refine (form_x 39 1 0 3 _).mono ?_); rintro e w1 ⟨rfl, hB⟩; refine ⟨_, rfl, ?_⟩; replace BW := Aside0.mk (below_step BW.out hB); clear hB) | ((with_reducible refine gate_callee (f := 75) rfl ?_); refine goesL_ (some 11) rfl rfl Try.func75 (by kernel_rfl) rfl #[.int .i64 41, .int .i64 3, .int .i64 0, .int .i64 8] rfl (by (try simp only [List.map_toArray, List.map_cons, List.map_nil]); first | done | rfl) ?_; (with_reducible refine (form_x 41 3 0 8 _).mono ?_); rintro e w1 ⟨rfl, hB⟩; refine ⟨_, rfl, ?_⟩; replace BW := Aside0.mk (below_step BW.out hB); clear hB) | ((with_reducible refine gate_callee (f := 75) rfl ?_); refine goesL_ (some 12) rfl rfl Try.func75 (by kernel_rfl) rfl #[.int .i64 42, .int .i64 3, .int .i64 0, .int .i64 15] rfl (by (try simp only [List.map_toArray, List.map_cons, List.map_nil]); first | done | rfl) ?_; (with_reducible refine (form_x 42 3 0 15 _).mono ?_); rintro e w1 ⟨rfl, hB⟩; refine ⟨_, rfl, ?_⟩; replace BW := Aside0.mk (below_step BW.out hB); clear hB) | ((with_reducible refine gate_callee (f := 75) rfl ?_); refine goesL_ (some 13) rfl rfl Try.func75 (by kernel_rfl) rfl #[.int .i64 43, .int .i64 3, .int .i64 2, .int .i64 40] rfl (by (try simp only [List.map_toArray, List.map_cons, List.map_nil]); first | done | rfl) ?_; (with_reducible refine (form_x 43 3 2 40 _).mono ?_); rintro e w1 ⟨rfl, hB⟩; refine ⟨_, rfl, ?_⟩; replace BW := Aside0.mk (below_step BW.out hB); clear hB) | ((with_reducible refine gate_callee (f := 75) rfl ?_); refine goesL_ (some 14) rfl rfl Try.func75 (by kernel_rfl) rfl #[.int .i64 48, .int .i64 3, .int .i64 3, .int .i64 8] rfl (by (try simp only [List.map_toArray, List.map_cons, List.map_nil]); first | done | rfl) ?_; (with_reducible refine (form_x 48 3 3 8 _).mono ?_); rintro e w1 ⟨rfl, hB⟩; refine ⟨_, rfl, ?_⟩; replace BW := Aside0.mk (below_step BW.out hB); clear hB) | ((with_reducible refine gate_callee (f := 75) rfl ?_); refine goesL_ (some 15) rfl rfl Try.func75 (by kernel_rfl) rfl #[.int .i64 49, .int .i64 1, .int .i64 0, .int .i64 3] rfl (by (try simp only [List.map_toArray, List.map_cons, List.map_nil]); first | done | rfl) ?_; (with_reducible refine (form_x 49 1 0 3 _).mono ?_); rintro e w1 ⟨rfl, hB⟩; refine ⟨_, rfl, ?_⟩; replace BW := Aside0.mk (below_step BW.out hB); clear hB) | ((with_reducible refine gate_callee (f := 75) rfl ?_); refine goesL_ (some 16) rfl rfl Try.func75 (by kernel_rfl) rfl #[.int .i64 55, .int .i64 4, .int .i64 3, .int .i64 255] rfl (by (try simp only [List.map_toArray, List.map_cons, List.map_nil]); first | done | rfl) ?_; (with_reducible refine (form_x 55 4 3 255 _).mono ?_); rintro e w1 ⟨rfl, hB⟩; refine ⟨_, rfl, ?_⟩; replace BW := Aside0.mk (below_step BW.out hB); clear hB) | ((with_reducible refine gate_callee (f := 75) rfl ?_); refine goesL_ (some 17) rfl rfl Try.func75 (by kernel_rfl) rfl #[.int .i64 56, .int .i64 1, .int .i64 0, .int .i64 20] rfl (by (try simp only [List.map_toArray, List.map_cons, List.map_nil]); first | done | rfl) ?_; (with_reducible refine (form_x 56 1 0 20 _).mono ?_); rintro e w1 ⟨rfl, hB⟩; refine ⟨_, rfl, ?_⟩; replace BW := Aside0.mk (below_step BW.out hB); clear hB) | ((with_reducible refine gate_callee (f := 75) rfl ?_); refine goesL_ (some 18) rfl rfl Try.func75 (by kernel_rfl) rfl #[.int .i64 60, .int .i64 3, .int .i64 3, .int .i64 100] rfl (by (try simp only [List.map_toArray, List.map_cons, List.map_nil]); first | done | rfl) ?_; (with_reducible refine (form_x 60 3 3 100 _).mono ?_); rintro e w1 ⟨rfl, hB⟩; refine ⟨_, rfl, ?_⟩; replace BW := Aside0.mk (below_step BW.out hB); clear hB) | ((with_reducible refine gate_callee (f := 75) rfl ?_); refine goesL_ (some 19) rfl rfl Try.func75 (by kernel_rfl) rfl #[.int .i64 61, .int .i64 3, .int .i64 3, .int .i64 100] rfl (by (try simp only [List.map_toArray, List.map_cons, List.map_nil]); first | done | rfl) ?_; (with_reducible refine (form_x 61 3 3 100 _).mono ?_); rintro e w1 ⟨rfl, hB⟩; refine ⟨_, rfl, ?_⟩; replace BW := Aside0.mk (below_step BW.out hB); clear hB) | ((with_reducible refine gate_callee (f := 75) rfl ?_); refine goesL_ (some 20) rfl rfl Try.func75 (by kernel_rfl) rfl #[.int .i64 62, .int .i64 3, .int .i64 3, .int .i64 100] rfl (by (try simp only [List.map_toArray, List.map_cons, List.map_nil]); first | done | rfl) ?_; (with_reducible refine (form_x 62 3 3 100 _).mono ?_); rintro e w1 ⟨rfl, hB⟩; refine ⟨_, rfl, ?_⟩; replace BW := Aside0.mk (below_step BW.out hB); clear hB) | ((with_reducible refine gate_callee (f := 75) rfl ?_); refine goesL_ (some 21) rfl rfl Try.func75 (by kernel_rfl) rfl #[.int .i64 63, .int .i64 3, .int .i64 3, .int .i64 100] rfl (by (try simp only [List.map_toArray, List.map_cons, List.map_nil]); first | done | rfl) ?_; (with_reducible refine (form_x 63 3 3 100 _).mono ?_); rintro e w1 ⟨rfl, hB⟩; refine ⟨_, rfl, ?_⟩; replace BW := Aside0.mk (below_step BW.out hB); clear hB) | ((with_reducible refine gate_callee (f := 75) rfl ?_); refine goesL_ (some 22) rfl rfl Try.func75 (by kernel_rfl) rfl #[.int .i64 102, .int .i64 3, .int .i64 2, .int .i64 28] rfl (by (try simp only [List.map_toArray, List.map_cons, List.map_nil]); first | done | rfl) ?_; (with_reducible refine (form_x 102 3 2 28 _).mono ?_); rintro e w1 ⟨rfl, hB⟩; refine ⟨_, rfl, ?_⟩; replace BW := Aside0.mk (below_step BW.out hB); clear hB) | ((with_reducible refine gate_callee (f := 75) rfl ?_); refine goesL_ (some 23) rfl rfl Try.func75 (by kernel_rfl) rfl #[.int .i64 103, .int .i64 3, .int .i64 2, .int .i64 28] rfl (by (try simp only [List.map_toArray, List.map_cons, List.map_nil]); first | done | rfl) ?_; (with_reducible refine (form_x 103 3 2 28 _).mono ?_); rintro e w1 ⟨rfl, hB⟩; refine ⟨_, rfl, ?_⟩; replace BW := Aside0.mk (below_step BW.out hB); clear hB) | ((with_reducible refine gate_callee (f := 75) rfl ?_); refine goesL_ (some 24) rfl rfl Try.func75 (by kernel_rfl) rfl #[.int .i64 120, .int .i64 4, .int .i64 4, .int .i64 999] rfl (by (try simp only [List.map_toArray, List.map_cons, List.map_nil]); first | done | rfl) ?_; (with_reducible refine (form_x 120 4 4 999 _).mono ?_); rintro e w1 ⟨rfl, hB⟩; refine ⟨_, rfl, ?_⟩; replace BW := Aside0.mk (below_step BW.out hB); clear hB))
  go_ret
  exact forms_lit BW.out rfl rfl
/-- A format comes back, and whether it is one. -/
def FormEnd (w : World) (e : Ending) (w' : World) : Prop := ∃ (a b c d : Int) (is : Bool), e = .returned (.tuple #[.agg #[.int .i64 a, .int .i64 b, .int .i64 c, .int .i64 d], .bool is]) ∧ Below w.heap.size w w'
theorem form_end {w W : World} {tmps : Array Value} {p : Nat} {a b c d : Int} {is : Bool} (ht : tmps.getD 2 undef = .pointer (some ⟨p, 0, none⟩)) (h3 : tmps.getD 3 undef = .bool is) (hb : W.heap[p]? = some (.cells #[.int .i64 a, .int .i64 b, .int .i64 c, .int .i64 d] 92 (0, 0))) (hB : Below w.heap.size w W) :
    bodyPost Try.prog Try.f67 (FormEnd w) Exit.ret { tmps := tmps, defers := [] } W :=
  bodyPost_ret (results_ct (fn := Try.f67) (p := 2) (u := 3) (ty := 92) (by rfl) _ _ p 92 #[.int .i64 a, .int .i64 b, .int .i64 c, .int .i64 d] (0, 0) _ ht hb Try.underlying92 rfl (by kernel_rfl)) rfl ⟨a, b, c, d, is, by rw [h3], hB⟩
set_option maxHeartbeats 8000000 in
set_option maxRecDepth 10000 in
theorem format_x (no : Int) (w : World) : Calls Try.prog 67 #[.int .i64 no] w (FormEnd w) := by
  have hu := Try.underlying92
  go_enter Try.func67, Try.ntmps67
  go_wp2_with fail
  obtain ⟨p, hp⟩ : ∃ p, p = w.heap.size := ⟨_, rfl⟩
  have hb0 := blk_new w (.cells #[.int .i64 0, .int .i64 0, .int .i64 0, .int .i64 0] 92)
  have B0 : Below w.heap.size w (w.alloc (.cells #[.int .i64 0, .int .i64 0, .int .i64 0, .int .i64 0] 92)) := below_alloc (Below.refl _ w) _
  have HLO : Aside0 (w.heap.size ≤ p) := ⟨by omega⟩
  rw [← hp] at hb0 ⊢
  clear hp
  revert hb0 B0
  generalize (w.alloc (.cells #[.int .i64 0, .int .i64 0, .int .i64 0, .int .i64 0] 92)) = W0
  intro hb0 B0
  have HB0 := Aside0.mk hb0
  have BW := Aside0.mk B0
  clear hb0 B0
  refine (formats_x _).mono ?_
  rintro e w1 ⟨A, n, c, xs, rfl, hC, hnc, hn, hB⟩
  have HC := Aside0.mk hC
  have HP := Aside0.mk (blk_below HB0.out hB)
  replace BW := Aside0.mk (below_step BW.out hB)
  clear hC hB HB0
  go_wp2_with fail
  go_loopg [5] n (fun gg s5 wr => ∃ kk : Nat, kk ≤ n ∧ n - kk ≤ gg ∧ s5 = .int .i64 kk ∧ Aside0 (Below w1.heap.size w1 wr))
  case atStart => exact ⟨0, Nat.zero_le _, by omega, rfl, ⟨Below.refl _ w1⟩⟩
  case round =>
    obtain ⟨kk, hkk, hg, rfl, BR⟩ := hrel
    have hp := blk_below HP.out BR.out
    have z0 := blk_frozen hp 0
    have z1 := blk_frozen hp 1
    have z2 := blk_frozen hp 2
    have z3 := blk_frozen hp 3
    have c0 : wr.cell? ⟨p, 0, none⟩ = some (.int .i64 0) := (blk_cell hp 0).trans rfl
    have c1 : wr.cell? ⟨p, 1, none⟩ = some (.int .i64 0) := (blk_cell hp 1).trans rfl
    have c2 : wr.cell? ⟨p, 2, none⟩ = some (.int .i64 0) := (blk_cell hp 2).trans rfl
    have c3 : wr.cell? ⟨p, 3, none⟩ = some (.int .i64 0) := (blk_cell hp 3).trans rfl
    have HPR := Aside0.mk hp
    have BE := Aside0.mk (below_step BW.out BR.out)
    clear hp
    have SET : Aside0 (∀ a b c d : Int, ((((wr.setCell ⟨p, 0, none⟩ (.int .i64 a)).setCell ⟨p, 1, none⟩ (.int .i64 b)).setCell ⟨p, 2, none⟩ (.int .i64 c)).setCell ⟨p, 3, none⟩ (.int .i64 d)).heap[p]? = some (.cells #[.int .i64 a, .int .i64 b, .int .i64 c, .int .i64 d] 92 (0, 0)) ∧ Below w.heap.size w ((((wr.setCell ⟨p, 0, none⟩ (.int .i64 a)).setCell ⟨p, 1, none⟩ (.int .i64 b)).setCell ⟨p, 2, none⟩ (.int .i64 c)).setCell ⟨p, 3, none⟩ (.int .i64 d))) := ⟨fun a b c d =>
      ⟨blk_set (blk_set (blk_set (blk_set HPR.out 0 (.int .i64 a)) 1 (.int .i64 b)) 2 (.int .i64 c)) 3 (.int .i64 d), below_set (below_set (below_set (below_set BE.out HLO.out) HLO.out) HLO.out) HLO.out⟩⟩
    by_cases hlt : kk < n
    · have hltz : (kk : Int) < (n : Int) := by omega
      obtain ⟨ad, e1, h0, h1, h2, h3⟩ := at_T92 (Kd.C_below HC.out BR.out) (kk : Int) (by omega) (by omega)
      subst e1
      rw [Int.toNat_natCast] at h0 h1 h2 h3
      generalize rd_T92 xs (kk : Int) = y at h0 h1 h2 h3
      by_cases q : y.f0 = no
      · have q' : (y.f0 == no) = true := beq_iff_eq.mpr q
        replace q := Aside0.mk q
        go_wp2_with fail
        exact form_end rfl rfl (SET.out _ _ _ _).1 (SET.out _ _ _ _).2
      · have q' : (y.f0 == no) = false := beq_eq_false_iff_ne.mpr q
        replace q := Aside0.mk q
        go_wp2_with fail
        go_roundg (n - (kk + 1))
        case measure => omega
        case rel => exact ⟨kk + 1, by omega, by omega, by go_num, BR⟩
    · have hltz : ¬ (kk : Int) < (n : Int) := by omega
      go_wp2_with fail
      exact form_end rfl rfl (SET.out _ _ _ _).1 (SET.out _ _ _ _).2
theorem nums_size (l : List Int) : (strOfNums l).size = l.length := by
  unfold strOfNums
  show (List.toArray _).size = _
  simp
set_option maxHeartbeats 4000000 in
theorem ansAny_x (s : ByteArray) (top : Int) (w : World) (hs : s.size ≤ 140737488355328) : Calls Try.prog 73 #[.string s, .int .i64 top] w (OutB AnyB w) := by
  go_enter Try.func73, Try.ntmps73
  go_wp2_with fail
  go_loopg [5] s.size (fun gg s5 wr => ∃ kk : Nat, kk ≤ s.size ∧ s.size - kk ≤ gg ∧ s5 = .int .i64 kk ∧ Aside0 (Below w.heap.size w wr))
  case atStart => exact ⟨0, Nat.zero_le _, by omega, rfl, ⟨Below.refl _ w⟩⟩
  case round =>
    obtain ⟨kk, hkk, hg, rfl, BW⟩ := hrel
    by_cases hlt : kk < s.size
    · have hltz : (kk : Int) < (s.size : Int) := by omega
      have hx := byte_at s kk
      generalize bt s (kk : Int) = c at hx
      by_cases q1 : c < 32
      · go_wp2_with fail
        go_ret
        exact ⟨_, rfl, trivial, BW.out⟩
      · by_cases q2 : 126 < c
        · go_wp2_with fail
          go_ret
          exact ⟨_, rfl, trivial, BW.out⟩
        · go_wp2_with fail
          go_roundg (s.size - (kk + 1))
          case measure => omega
          case rel => exact ⟨kk + 1, by omega, by omega, by go_num, BW⟩
    · have hltz : ¬ (kk : Int) < (s.size : Int) := by omega
      by_cases q1 : 1 ≤ (s.size : Int)
      · by_cases q2 : (s.size : Int) ≤ top
        · go_wp2_with fail
          go_ret
          exact ⟨_, rfl, trivial, BW.out⟩
        · go_wp2_with fail
          go_ret
          exact ⟨_, rfl, trivial, BW.out⟩
      · go_wp2_with fail
        go_ret
        exact ⟨_, rfl, trivial, BW.out⟩
set_option maxHeartbeats 8000000 in
set_option maxRecDepth 10000 in
theorem typed_x (a b c d : Int) (A : Option Addr) (cp : Nat) (l : List Int) (w : World) (hr : Kd.C (Kd.int .u8) w A l.length l) (hl : l.length ≤ 140737488355328) : Calls Try.prog 68 #[.agg #[.int .i64 a, .int .i64 b, .int .i64 c, .int .i64 d], .slice A l.length cp] w (OutB AnyB w) := by
  have hu := Try.underlying92
  have hS : (strOfNums l).size ≤ 140737488355328 := by rw [nums_size]; exact hl
  have HS := Aside0.mk hS
  have HR := Aside0.mk hr
  clear hS hr
  go_enter Try.func68, Try.ntmps68
  go_upto_region 1 with fail
  obtain ⟨W0, hW0⟩ : ∃ W, W = w.alloc (.cells #[.int .i64 a, .int .i64 b, .int .i64 c, .int .i64 d] 92) := ⟨_, rfl⟩
  have BW : Aside0 (Below w.heap.size w W0) := ⟨by rw [hW0]; exact below_alloc (Below.refl _ w) _⟩
  have hcv := Kd.C_string (P := Try.prog) (A := A) (c := cp) Try.underlying49 Try.underlying5 Try.underlying9 (Kd.C_below HR.out BW.out)
  have c1 : W0.cell? ⟨w.heap.size, 1, none⟩ = some (.int .i64 b) := by rw [hW0]; exact (blk_cell (blk_new w _) 1).trans rfl
  rw [← hW0]
  replace hW0 := Aside0.mk hW0
  by_cases h1 : b = 1
  · have b1 : (b == 1) = true := beq_iff_eq.mpr h1
    replace h1 := Aside0.mk h1
    go_wp2_with fail
    refine (right_x _ 0 _ _ HS.out).mono ?_
    rintro e w1 ⟨r, rfl, -, hB⟩
    go_wp2_with fail
    go_ret
    exact ⟨_, rfl, trivial, below_step BW.out hB⟩
  have b1 : (b == 1) = false := beq_eq_false_iff_ne.mpr h1
  replace h1 := Aside0.mk h1
  by_cases h2 : b = 2
  · have b2 : (b == 2) = true := beq_iff_eq.mpr h2
    replace h2 := Aside0.mk h2
    go_wp2_with fail
    refine (aln_x _ 0 _ _ HS.out).mono ?_
    rintro e w1 ⟨r, rfl, -, hB⟩
    go_wp2_with fail
    go_ret
    exact ⟨_, rfl, trivial, below_step BW.out hB⟩
  have b2 : (b == 2) = false := beq_eq_false_iff_ne.mpr h2
  replace h2 := Aside0.mk h2
  by_cases h3 : b = 3
  · have b3 : (b == 3) = true := beq_iff_eq.mpr h3
    replace h3 := Aside0.mk h3
    by_cases h0 : (strOfNums l).toList = []
    · have m0 : ((strOfNums l).toList == ([] : List UInt8)) = true := beq_iff_eq.mpr h0
      have m1 : (strOfNums l).toList.isEmpty = true := List.isEmpty_iff.mpr h0
      replace h0 := Aside0.mk h0
      go_wp2_with fail
      go_ret
      exact ⟨_, rfl, trivial, BW.out⟩
    · have m0 : ((strOfNums l).toList == ([] : List UInt8)) = false := beq_eq_false_iff_ne.mpr h0
      have m1 : (strOfNums l).toList.isEmpty = false := List.isEmpty_eq_false_iff.mpr h0
      replace h0 := Aside0.mk h0
      go_wp2_with fail
      refine (ansAny_x _ _ _ HS.out).mono ?_
      rintro e w1 ⟨r, rfl, -, hB⟩
      go_wp2_with fail
      go_ret
      exact ⟨_, rfl, trivial, below_step BW.out hB⟩
  have b3 : (b == 3) = false := beq_eq_false_iff_ne.mpr h3
  replace h3 := Aside0.mk h3
  go_wp2_with fail
  go_ret
  exact ⟨_, rfl, trivial, BW.out⟩
set_option maxHeartbeats 8000000 in
set_option maxRecDepth 10000 in
theorem check_x (no : Int) (A : Option Addr) (cp : Nat) (l : List Int) (w : World) (hr : Kd.C (Kd.int .u8) w A l.length l) (hl : l.length ≤ 140737488355328) : Calls Try.prog 55 #[.agg #[.int .i64 no, .slice A l.length cp]] w (OutI AnyI w) := by
  have hu := Try.underlying92
  have hu52 := Try.underlying55
  have HR := Aside0.mk hr
  have HL := Aside0.mk hl
  clear hr hl
  go_enter Try.func55, Try.ntmps55
  go_upto_region 1 with fail
  obtain ⟨p, hp⟩ : ∃ p, p = w.heap.size := ⟨_, rfl⟩
  obtain ⟨W0, hW0⟩ : ∃ W, W = w.alloc (.cells #[.int .i64 no, .slice A l.length cp] 55) := ⟨_, rfl⟩
  have BW : Aside0 (Below w.heap.size w W0) := ⟨by rw [hW0]; exact below_alloc (Below.refl _ w) _⟩
  have HP : Aside0 (W0.heap[p]? = some (.cells #[.int .i64 no, .slice A l.length cp] 55 (0, 0))) := ⟨by rw [hW0, hp]; exact blk_new w _⟩
  rw [← hW0, ← hp]
  clear hW0 hp
  have c0 : W0.cell? ⟨p, 0, none⟩ = some (.int .i64 no) := (blk_cell HP.out 0).trans rfl
  go_wp2_with fail
  refine (format_x no _).mono ?_
  rintro e w1 ⟨a, b, c, d, is, rfl, hB⟩
  have HP1 := Aside0.mk (blk_below HP.out hB)
  replace BW := Aside0.mk (below_step BW.out hB)
  clear hB c0 HP
  go_upto_block 0 with fail
  obtain ⟨q, hq⟩ : ∃ q, q = w1.heap.size := ⟨_, rfl⟩
  obtain ⟨W2, hW2⟩ : ∃ W, W = w1.alloc (.cells #[.int .i64 a, .int .i64 b, .int .i64 c, .int .i64 d] 92) := ⟨_, rfl⟩
  have BX : Aside0 (Below w1.heap.size w1 W2) := ⟨by rw [hW2]; exact below_alloc (Below.refl _ w1) _⟩
  have HQ : Aside0 (W2.heap[q]? = some (.cells #[.int .i64 a, .int .i64 b, .int .i64 c, .int .i64 d] 92 (0, 0))) := ⟨by rw [hW2, hq]; exact blk_new w1 _⟩
  rw [← hW2, ← hq]
  clear hW2 hq
  have e1 : W2.cell? ⟨p, 1, none⟩ = some (.slice A l.length cp) := (blk_cell (blk_below HP1.out BX.out) 1).trans rfl
  have f0 : W2.cell? ⟨q, 0, none⟩ = some (.int .i64 a) := (blk_cell HQ.out 0).trans rfl
  have f1 : W2.cell? ⟨q, 1, none⟩ = some (.int .i64 b) := (blk_cell HQ.out 1).trans rfl
  have f2 : W2.cell? ⟨q, 2, none⟩ = some (.int .i64 c) := (blk_cell HQ.out 2).trans rfl
  have f3 : W2.cell? ⟨q, 3, none⟩ = some (.int .i64 d) := (blk_cell HQ.out 3).trans rfl
  have BE := Aside0.mk (below_step BW.out BX.out)
  have HT := Aside0.mk (typed_x a b c d A cp l W2 (Kd.C_below (Kd.C_below HR.out BW.out) BX.out) HL.out)
  clear BX HQ HP1 BW
  cases is with
  | false =>
    go_wp2_with fail
    go_ret
    exact ⟨_, rfl, trivial, BE.out⟩
  | true =>
    by_cases g0 : c = 0
    · have c0b : (c == 0) = true := beq_iff_eq.mpr g0
      replace g0 := Aside0.mk g0
      by_cases g1 : (l.length : Int) = d
      · have c1b : ((l.length : Int) != d) = false := bne_eq_false_iff_eq.mpr g1
        have g3 : ¬ d < (l.length : Int) := by omega
        replace g1 := Aside0.mk g1
        by_cases g2 : (l.length : Int) < 1
        · go_wp2_with fail
          go_ret
          exact ⟨_, rfl, trivial, BE.out⟩
        · go_wp2_with fail
          refine HT.out.mono ?_
          rintro e w3 ⟨r, rfl, -, hB⟩
          cases r with
          | true => go_wp2_with fail; go_ret; exact ⟨_, rfl, trivial, below_step BE.out hB⟩
          | false => go_wp2_with fail; go_ret; exact ⟨_, rfl, trivial, below_step BE.out hB⟩
      · have c1b : ((l.length : Int) != d) = true := bne_iff_ne.mpr g1
        replace g1 := Aside0.mk g1
        go_wp2_with fail
        go_ret
        exact ⟨_, rfl, trivial, BE.out⟩
    · have c0b : (c == 0) = false := beq_eq_false_iff_ne.mpr g0
      replace g0 := Aside0.mk g0
      by_cases g2 : (l.length : Int) < 1
      · go_wp2_with fail
        go_ret
        exact ⟨_, rfl, trivial, BE.out⟩
      · by_cases g3 : d < (l.length : Int)
        · go_wp2_with fail
          go_ret
          exact ⟨_, rfl, trivial, BE.out⟩
        · go_wp2_with fail
          refine HT.out.mono ?_
          rintro e w3 ⟨r, rfl, -, hB⟩
          cases r with
          | true => go_wp2_with fail; go_ret; exact ⟨_, rfl, trivial, below_step BE.out hB⟩
          | false => go_wp2_with fail; go_ret; exact ⟨_, rfl, trivial, below_step BE.out hB⟩
end Go.Proofs.Ythdjodamdakjbaa.MK
