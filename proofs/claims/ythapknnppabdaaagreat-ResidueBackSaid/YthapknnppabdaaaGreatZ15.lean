/- ResidueBack: part 15 of its proof. -/
import Derived.Test.YthapknnppabdaaaGreatZ14
import Derived.Shelf.Abstract
namespace Go.Proofs.YthapknnppabdaaaGreat.MQ
open Go.RowKit Go.Proofs.YthapknnppabdaaaGreatW.PrintWords Go.Proofs.YthapknnppabdaaaGreatW.PrintLast Go.Proofs.YthapknnppabdaaaGreatW.PrintMore
set_option linter.unusedVariables false
set_option linter.unusedSimpArgs false
/-- Is it a number that the program does not use itself? -/
def spareF (n : Int) : Bool := decide (n = 43) || (decide (60 ≤ n) && decide (n ≤ 63)) || decide (n = 102) || decide (n = 103) || decide (n = 120)
set_option maxHeartbeats 4000000 in
theorem spare_e (n : Int) (w : World) : Calls Tryz.prog 47 #[.int .i64 n] w fun e w' => e = .returned (.bool (spareF n)) ∧ Drawn0 w w' := by
  have HB := Aside0.mk (Drawn0.refl w)
  by_cases h43 : n = 43
  · subst h43; go_enter Tryz.func47, Tryz.ntmps47; go_wp2_with fail; go_ret; exact ⟨rfl, HB.out⟩
  by_cases h102 : n = 102
  · subst h102; go_enter Tryz.func47, Tryz.ntmps47; go_wp2_with fail; go_ret; exact ⟨rfl, HB.out⟩
  by_cases h103 : n = 103
  · subst h103; go_enter Tryz.func47, Tryz.ntmps47; go_wp2_with fail; go_ret; exact ⟨rfl, HB.out⟩
  by_cases h120 : n = 120
  · subst h120; go_enter Tryz.func47, Tryz.ntmps47; go_wp2_with fail; go_ret; exact ⟨rfl, HB.out⟩
  have b43 : (n == 43) = false := beq_eq_false_iff_ne.mpr h43
  have b102 : (n == 102) = false := beq_eq_false_iff_ne.mpr h102
  have b103 : (n == 103) = false := beq_eq_false_iff_ne.mpr h103
  have b120 : (n == 120) = false := beq_eq_false_iff_ne.mpr h120
  have hS : Aside0 (spareF n = (decide (60 ≤ n) && decide (n ≤ 63))) := ⟨by unfold spareF; simp [h43, h102, h103, h120]⟩
  clear h43 h102 h103 h120
  by_cases r1 : 60 ≤ n
  · by_cases r2 : n ≤ 63
    · have hF : Aside0 (spareF n = true) := ⟨by rw [hS.out, decide_eq_true r1, decide_eq_true r2]; rfl⟩
      go_enter Tryz.func47, Tryz.ntmps47; go_wp2_with fail; go_ret; exact ⟨by first | (rw [hF.out]; rfl) | rw [hF.out], HB.out⟩
    · have hF : Aside0 (spareF n = false) := ⟨by rw [hS.out, decide_eq_false r2, Bool.and_false]⟩
      go_enter Tryz.func47, Tryz.ntmps47; go_wp2_with fail; go_ret; exact ⟨by first | (rw [hF.out]; rfl) | rw [hF.out], HB.out⟩
  · have hF : Aside0 (spareF n = false) := ⟨by rw [hS.out, decide_eq_false r1, Bool.false_and]⟩
    go_enter Tryz.func47, Tryz.ntmps47; go_wp2_with fail; go_ret; exact ⟨by first | (rw [hF.out]; rfl) | rw [hF.out], HB.out⟩
theorem form_x (a b c d : Int) (w : World) : Calls Tryz.prog 121 #[.int .i64 a, .int .i64 b, .int .i64 c, .int .i64 d] w fun e w' => e = .returned (.agg #[.int .i64 a, .int .i64 b, .int .i64 c, .int .i64 d]) ∧ Below w.heap.size w w' := by
  have hu := Tryz.underlying114
  go_enter Tryz.func121, Tryz.ntmps121
  go_wp2_with fail
  exact bodyPost_ret (results_cell_row (fn := Tryz.f121) (p := 8) (ty := 114) (by rfl) _ _ w.heap.size 114 #[.int .i64 a, .int .i64 b, .int .i64 c, .int .i64 d] (0, 0) _ (by rfl) (blk_new w _) hu rfl (by kernel_rfl)) rfl ⟨rfl, below_alloc (Below.refl _ w) _⟩
def isInt : Value → Bool
  | .int .i64 _ => true
  | _ => false
theorem isInt_is {v : Value} (h : isInt v = true) : v = .int .i64 (intOf v) := by
  unfold isInt at h
  split at h
  · rfl
  · cases h
def formsOf (cs : Array Value) (n : Nat) : List S114 := (List.range n).map (fun j => ⟨intOf (cs.toList.getD (j * 4) (.int .i64 0)), intOf (cs.toList.getD (j * 4 + 1) (.int .i64 0)), intOf (cs.toList.getD (j * 4 + 2) (.int .i64 0)), intOf (cs.toList.getD (j * 4 + 3) (.int .i64 0))⟩)
theorem lit_C (w : World) (g : Nat) (cs : Array Value) (t n : Nat) (hb : w.heap[g]? = some (.cells cs t (0, 0))) (hn : cs.size = n * 4) (hn' : n ≤ 9223372036854775807) (hi : cs.toList.all isInt = true) : k114.C w (some ⟨g, 0, none⟩) n (formsOf cs n) := by
  have get : ∀ j, j < n * 4 → w.cell? ⟨g, j, none⟩ = some (.int .i64 (intOf (cs.toList.getD j (.int .i64 0)))) := fun j hj => by
    have hj' : j < cs.toList.length := by rw [Array.length_toList]; omega
    have h1 : cs.toList[j]? = some cs.toList[j] := List.getElem?_eq_getElem hj'
    rw [List.all_eq_true] at hi
    have h2 := isInt_is (hi _ (List.getElem_mem hj'))
    rw [(blk_cell hb j)]
    have h3 : cs[j]? = cs.toList[j]? := by simp
    rw [h3, h1, List.getD_eq_getElem?_getD, h1, Option.getD_some, ← h2]
  refine ⟨by unfold formsOf; simp, hn', fun _ => ⟨_, rfl, fun j p hp => ?_⟩⟩
  have hj : j < n := by
    have := (List.getElem?_eq_some_iff.1 hp).1
    unfold formsOf at this
    simpa using this
  have hp' : p = ⟨intOf (cs.toList.getD (j * 4) (.int .i64 0)), intOf (cs.toList.getD (j * 4 + 1) (.int .i64 0)), intOf (cs.toList.getD (j * 4 + 2) (.int .i64 0)), intOf (cs.toList.getD (j * 4 + 3) (.int .i64 0))⟩ := by
    unfold formsOf at hp
    rw [List.getElem?_map, List.getElem?_range hj] at hp
    exact (Option.some.inj hp).symm
  subst hp'
  refine ⟨_, rfl, k114_mk w _, fun i u hu => ?_⟩
  have ea : ∀ k, ((⟨g, 0, none⟩ : Addr).add k) = ⟨g, k, none⟩ := fun k => by simp [Addr.add]; omega
  show w.cell? ((⟨g, 0, none⟩ : Addr).add (j * 4 + i)) = some u
  rw [ea]
  match i, hu with
  | 0, hu => rw [← hu]; exact get _ (by omega)
  | 1, hu => rw [← hu]; exact get _ (by omega)
  | 2, hu => rw [← hu]; exact get _ (by omega)
  | 3, hu => rw [← hu]; exact get _ (by omega)
  | i + 4, hu => simp at hu
def formatsL : List S114 := [⟨2, 1, 2, 19⟩, ⟨4, 1, 0, 12⟩, ⟨11, 1, 0, 6⟩, ⟨12, 1, 0, 14⟩, ⟨22, 1, 0, 3⟩, ⟨25, 1, 0, 4⟩, ⟨32, 1, 2, 11⟩, ⟨37, 2, 0, 12⟩, ⟨38, 2, 0, 6⟩, ⟨39, 1, 0, 3⟩, ⟨41, 3, 0, 8⟩, ⟨42, 3, 0, 15⟩, ⟨43, 3, 2, 40⟩, ⟨48, 3, 3, 8⟩, ⟨49, 1, 0, 3⟩, ⟨55, 4, 3, 255⟩, ⟨56, 1, 0, 20⟩, ⟨60, 3, 3, 100⟩, ⟨61, 3, 3, 100⟩, ⟨62, 3, 3, 100⟩, ⟨63, 3, 3, 100⟩, ⟨102, 3, 2, 28⟩, ⟨103, 3, 2, 28⟩, ⟨120, 4, 4, 999⟩]
/-- The list of formats comes back. -/
def Forms (w : World) (e : Ending) (w' : World) : Prop := ∃ (A : Option Addr) (c : Nat), e = .returned (.slice A 24 c) ∧ k114.C w' A 24 formatsL ∧ 24 ≤ c ∧ Below w.heap.size w w'
theorem forms_lit {w W : World} {cs : Array Value} {t : Nat} (hb : Below w.heap.size w W) (hn : cs.size = 96) (hi : cs.toList.all isInt = true) (he : formsOf cs 24 = formatsL) : Forms w (.returned (.slice (some ⟨W.heap.size, 0, none⟩) 24 24)) (W.alloc (.cells cs t)) := by
  have hx := lit_C _ _ cs t 24 (blk_new W (.cells cs t)) hn (by omega) hi
  rw [he] at hx
  exact ⟨_, _, rfl, hx, Nat.le_refl _, below_alloc hb _⟩
set_option maxHeartbeats 8000000 in
set_option maxRecDepth 100000 in
theorem formats_x (w : World) : Calls Tryz.prog 106 #[] w (Forms w) := by
  have BW := Aside0.mk (Below.refl w.heap.size w)
  go_enter Tryz.func106, Tryz.ntmps106
  go_wp2_with (first | ((with_reducible refine gate_callee (f := 121) rfl ?_); refine goesL_ (some 1) rfl rfl Tryz.func121 (by kernel_rfl) rfl #[.int .i64 2, .int .i64 1, .int .i64 2, .int .i64 19] rfl (by (try simp only [List.map_toArray, List.map_cons, List.map_nil]); first | done | rfl) ?_; (with_reducible refine (form_x 2 1 2 19 _).mono ?_); rintro e w1 ⟨rfl, hB⟩; refine ⟨_, rfl, ?_⟩; replace BW := Aside0.mk (below_step BW.out hB); clear hB) | ((with_reducible refine gate_callee (f := 121) rfl ?_); refine goesL_ (some 2) rfl rfl Tryz.func121 (by kernel_rfl) rfl #[.int .i64 4, .int .i64 1, .int .i64 0, .int .i64 12] rfl (by (try simp only [List.map_toArray, List.map_cons, List.map_nil]); first | done | rfl) ?_; (with_reducible refine (form_x 4 1 0 12 _).mono ?_); rintro e w1 ⟨rfl, hB⟩; refine ⟨_, rfl, ?_⟩; replace BW := Aside0.mk (below_step BW.out hB); clear hB) | ((with_reducible refine gate_callee (f := 121) rfl ?_); refine goesL_ (some 3) rfl rfl Tryz.func121 (by kernel_rfl) rfl #[.int .i64 11, .int .i64 1, .int .i64 0, .int .i64 6] rfl (by (try simp only [List.map_toArray, List.map_cons, List.map_nil]); first | done | rfl) ?_; (with_reducible refine (form_x 11 1 0 6 _).mono ?_); rintro e w1 ⟨rfl, hB⟩; refine ⟨_, rfl, ?_⟩; replace BW := Aside0.mk (below_step BW.out hB); clear hB) | ((with_reducible refine gate_callee (f := 121) rfl ?_); refine goesL_ (some 4) rfl rfl Tryz.func121 (by kernel_rfl) rfl #[.int .i64 12, .int .i64 1, .int .i64 0, .int .i64 14] rfl (by (try simp only [List.map_toArray, List.map_cons, List.map_nil]); first | done | rfl) ?_; (with_reducible refine (form_x 12 1 0 14 _).mono ?_); rintro e w1 ⟨rfl, hB⟩; refine ⟨_, rfl, ?_⟩; replace BW := Aside0.mk (below_step BW.out hB); clear hB) | ((with_reducible refine gate_callee (f := 121) rfl ?_); refine goesL_ (some 5) rfl rfl Tryz.func121 (by kernel_rfl) rfl #[.int .i64 22, .int .i64 1, .int .i64 0, .int .i64 3] rfl (by (try simp only [List.map_toArray, List.map_cons, List.map_nil]); first | done | rfl) ?_; (with_reducible refine (form_x 22 1 0 3 _).mono ?_); rintro e w1 ⟨rfl, hB⟩; refine ⟨_, rfl, ?_⟩; replace BW := Aside0.mk (below_step BW.out hB); clear hB) | ((with_reducible refine gate_callee (f := 121) rfl ?_); refine goesL_ (some 6) rfl rfl Tryz.func121 (by kernel_rfl) rfl #[.int .i64 25, .int .i64 1, .int .i64 0, .int .i64 4] rfl (by (try simp only [List.map_toArray, List.map_cons, List.map_nil]); first | done | rfl) ?_; (with_reducible refine (form_x 25 1 0 4 _).mono ?_); rintro e w1 ⟨rfl, hB⟩; refine ⟨_, rfl, ?_⟩; replace BW := Aside0.mk (below_step BW.out hB); clear hB) | ((with_reducible refine gate_callee (f := 121) rfl ?_); refine goesL_ (some 7) rfl rfl Tryz.func121 (by kernel_rfl) rfl #[.int .i64 32, .int .i64 1, .int .i64 2, .int .i64 11] rfl (by (try simp only [List.map_toArray, List.map_cons, List.map_nil]); first | done | rfl) ?_; (with_reducible refine (form_x 32 1 2 11 _).mono ?_); rintro e w1 ⟨rfl, hB⟩; refine ⟨_, rfl, ?_⟩; replace BW := Aside0.mk (below_step BW.out hB); clear hB) | ((with_reducible refine gate_callee (f := 121) rfl ?_); refine goesL_ (some 8) rfl rfl Tryz.func121 (by kernel_rfl) rfl #[.int .i64 37, .int .i64 2, .int .i64 0, .int .i64 12] rfl (by (try simp only [List.map_toArray, List.map_cons, List.map_nil]); first | done | rfl) ?_; (with_reducible refine (form_x 37 2 0 12 _).mono ?_); rintro e w1 ⟨rfl, hB⟩; refine ⟨_, rfl, ?_⟩; replace BW := Aside0.mk (below_step BW.out hB); clear hB) | ((with_reducible refine gate_callee (f := 121) rfl ?_); refine goesL_ (some 9) rfl rfl Tryz.func121 (by kernel_rfl) rfl #[.int .i64 38, .int .i64 2, .int .i64 0, .int .i64 6] rfl (by (try simp only [List.map_toArray, List.map_cons, List.map_nil]); first | done | rfl) ?_; (with_reducible refine (form_x 38 2 0 6 _).mono ?_); rintro e w1 ⟨rfl, hB⟩; refine ⟨_, rfl, ?_⟩; replace BW := Aside0.mk (below_step BW.out hB); clear hB) | ((with_reducible refine gate_callee (f := 121) rfl ?_); refine goesL_ (some 10) rfl rfl Tryz.func121 (by kernel_rfl) rfl #[.int .i64 39, .int .i64 1, .int .i64 0, .int .i64 3] rfl (by (try simp only [List.map_toArray, List.map_cons, List.map_nil]); first | done | rfl) ?_; (with_reducible refine (form_x 39 1 0 3 _).mono ?_); rintro e w1 ⟨rfl, hB⟩; refine ⟨_, rfl, ?_⟩; replace BW := Aside0.mk (below_step BW.out hB); clear hB) | ((with_reducible refine gate_callee (f := 121) rfl ?_); refine goesL_ (some 11) rfl rfl Tryz.func121 (by kernel_rfl) rfl #[.int .i64 41, .int .i64 3, .int .i64 0, .int .i64 8] rfl (by (try simp only [List.map_toArray, List.map_cons, List.map_nil]); first | done | rfl) ?_; (with_reducible refine (form_x 41 3 0 8 _).mono ?_); rintro e w1 ⟨rfl, hB⟩; refine ⟨_, rfl, ?_⟩; replace BW := Aside0.mk (below_step BW.out hB); clear hB) | ((with_reducible refine gate_callee (f := 121) rfl ?_); refine goesL_ (some 12) rfl rfl Tryz.func121 (by kernel_rfl) rfl #[.int .i64 42, .int .i64 3, .int .i64 0, .int .i64 15] rfl (by (try simp only [List.map_toArray, List.map_cons, List.map_nil]); first | done | rfl) ?_; (with_reducible refine (form_x 42 3 0 15 _).mono ?_); rintro e w1 ⟨rfl, hB⟩; refine ⟨_, rfl, ?_⟩; replace BW := Aside0.mk (below_step BW.out hB); clear hB) | ((with_reducible refine gate_callee (f := 121) rfl ?_); refine goesL_ (some 13) rfl rfl Tryz.func121 (by kernel_rfl) rfl #[.int .i64 43, .int .i64 3, .int .i64 2, .int .i64 40] rfl (by (try simp only [List.map_toArray, List.map_cons, List.map_nil]); first | done | rfl) ?_; (with_reducible refine (form_x 43 3 2 40 _).mono ?_); rintro e w1 ⟨rfl, hB⟩; refine ⟨_, rfl, ?_⟩; replace BW := Aside0.mk (below_step BW.out hB); clear hB) | ((with_reducible refine gate_callee (f := 121) rfl ?_); refine goesL_ (some 14) rfl rfl Tryz.func121 (by kernel_rfl) rfl #[.int .i64 48, .int .i64 3, .int .i64 3, .int .i64 8] rfl (by (try simp only [List.map_toArray, List.map_cons, List.map_nil]); first | done | rfl) ?_; (with_reducible refine (form_x 48 3 3 8 _).mono ?_); rintro e w1 ⟨rfl, hB⟩; refine ⟨_, rfl, ?_⟩; replace BW := Aside0.mk (below_step BW.out hB); clear hB) | ((with_reducible refine gate_callee (f := 121) rfl ?_); refine goesL_ (some 15) rfl rfl Tryz.func121 (by kernel_rfl) rfl #[.int .i64 49, .int .i64 1, .int .i64 0, .int .i64 3] rfl (by (try simp only [List.map_toArray, List.map_cons, List.map_nil]); first | done | rfl) ?_; (with_reducible refine (form_x 49 1 0 3 _).mono ?_); rintro e w1 ⟨rfl, hB⟩; refine ⟨_, rfl, ?_⟩; replace BW := Aside0.mk (below_step BW.out hB); clear hB) | ((with_reducible refine gate_callee (f := 121) rfl ?_); refine goesL_ (some 16) rfl rfl Tryz.func121 (by kernel_rfl) rfl #[.int .i64 55, .int .i64 4, .int .i64 3, .int .i64 255] rfl (by (try simp only [List.map_toArray, List.map_cons, List.map_nil]); first | done | rfl) ?_; (with_reducible refine (form_x 55 4 3 255 _).mono ?_); rintro e w1 ⟨rfl, hB⟩; refine ⟨_, rfl, ?_⟩; replace BW := Aside0.mk (below_step BW.out hB); clear hB) | ((with_reducible refine gate_callee (f := 121) rfl ?_); refine goesL_ (some 17) rfl rfl Tryz.func121 (by kernel_rfl) rfl #[.int .i64 56, .int .i64 1, .int .i64 0, .int .i64 20] rfl (by (try simp only [List.map_toArray, List.map_cons, List.map_nil]); first | done | rfl) ?_; (with_reducible refine (form_x 56 1 0 20 _).mono ?_); rintro e w1 ⟨rfl, hB⟩; refine ⟨_, rfl, ?_⟩; replace BW := Aside0.mk (below_step BW.out hB); clear hB) | ((with_reducible refine gate_callee (f := 121) rfl ?_); refine goesL_ (some 18) rfl rfl Tryz.func121 (by kernel_rfl) rfl #[.int .i64 60, .int .i64 3, .int .i64 3, .int .i64 100] rfl (by (try simp only [List.map_toArray, List.map_cons, List.map_nil]); first | done | rfl) ?_; (with_reducible refine (form_x 60 3 3 100 _).mono ?_); rintro e w1 ⟨rfl, hB⟩; refine ⟨_, rfl, ?_⟩; replace BW := Aside0.mk (below_step BW.out hB); clear hB) | ((with_reducible refine gate_callee (f := 121) rfl ?_); refine goesL_ (some 19) rfl rfl Tryz.func121 (by kernel_rfl) rfl #[.int .i64 61, .int .i64 3, .int .i64 3, .int .i64 100] rfl (by (try simp only [List.map_toArray, List.map_cons, List.map_nil]); first | done | rfl) ?_; (with_reducible refine (form_x 61 3 3 100 _).mono ?_); rintro e w1 ⟨rfl, hB⟩; refine ⟨_, rfl, ?_⟩; replace BW := Aside0.mk (below_step BW.out hB); clear hB) | ((with_reducible refine gate_callee (f := 121) rfl ?_); refine goesL_ (some 20) rfl rfl Tryz.func121 (by kernel_rfl) rfl #[.int .i64 62, .int .i64 3, .int .i64 3, .int .i64 100] rfl (by (try simp only [List.map_toArray, List.map_cons, List.map_nil]); first | done | rfl) ?_; (with_reducible refine (form_x 62 3 3 100 _).mono ?_); rintro e w1 ⟨rfl, hB⟩; refine ⟨_, rfl, ?_⟩; replace BW := Aside0.mk (below_step BW.out hB); clear hB) | ((with_reducible refine gate_callee (f := 121) rfl ?_); refine goesL_ (some 21) rfl rfl Tryz.func121 (by kernel_rfl) rfl #[.int .i64 63, .int .i64 3, .int .i64 3, .int .i64 100] rfl (by (try simp only [List.map_toArray, List.map_cons, List.map_nil]); first | done | rfl) ?_; (with_reducible refine (form_x 63 3 3 100 _).mono ?_); rintro e w1 ⟨rfl, hB⟩; refine ⟨_, rfl, ?_⟩; replace BW := Aside0.mk (below_step BW.out hB); clear hB) | ((with_reducible refine gate_callee (f := 121) rfl ?_); refine goesL_ (some 22) rfl rfl Tryz.func121 (by kernel_rfl) rfl #[.int .i64 102, .int .i64 3, .int .i64 2, .int .i64 28] rfl (by (try simp only [List.map_toArray, List.map_cons, List.map_nil]); first | done | rfl) ?_; (with_reducible refine (form_x 102 3 2 28 _).mono ?_); rintro e w1 ⟨rfl, hB⟩; refine ⟨_, rfl, ?_⟩; replace BW := Aside0.mk (below_step BW.out hB); clear hB) | ((with_reducible refine gate_callee (f := 121) rfl ?_); refine goesL_ (some 23) rfl rfl Tryz.func121 (by kernel_rfl) rfl #[.int .i64 103, .int .i64 3, .int .i64 2, .int .i64 28] rfl (by (try simp only [List.map_toArray, List.map_cons, List.map_nil]); first | done | rfl) ?_; (with_reducible refine (form_x 103 3 2 28 _).mono ?_); rintro e w1 ⟨rfl, hB⟩; refine ⟨_, rfl, ?_⟩; replace BW := Aside0.mk (below_step BW.out hB); clear hB) | ((with_reducible refine gate_callee (f := 121) rfl ?_); refine goesL_ (some 24) rfl rfl Tryz.func121 (by kernel_rfl) rfl #[.int .i64 120, .int .i64 4, .int .i64 4, .int .i64 999] rfl (by (try simp only [List.map_toArray, List.map_cons, List.map_nil]); first | done | rfl) ?_; (with_reducible refine (form_x 120 4 4 999 _).mono ?_); rintro e w1 ⟨rfl, hB⟩; refine ⟨_, rfl, ?_⟩; replace BW := Aside0.mk (below_step BW.out hB); clear hB))
  go_ret
  exact forms_lit BW.out rfl rfl (by kernel_rfl)
def fmtF (no : Int) : S114 := (formatsL.find? fun y => y.f0 == no).getD z114
def fmtB (no : Int) : Bool := (formatsL.find? fun y => y.f0 == no).isSome
/-- A format comes back, and whether it is one. -/
def FormEnd (no : Int) (w : World) (e : Ending) (w' : World) : Prop := ∃ (y : S114), y = fmtF no ∧ e = .returned (.tuple #[.agg #[.int .i64 y.f0, .int .i64 y.f1, .int .i64 y.f2, .int .i64 y.f3], .bool (fmtB no)]) ∧ Below w.heap.size w w'
theorem form_end {no : Int} {w W : World} {tmps : Array Value} {p : Nat} {y : S114} {is : Bool} (ht : tmps.getD 2 undef = .pointer (some ⟨p, 0, none⟩)) (h3 : tmps.getD 3 undef = .bool is) (hb : W.heap[p]? = some (.cells #[.int .i64 y.f0, .int .i64 y.f1, .int .i64 y.f2, .int .i64 y.f3] 114 (0, 0))) (hy : y = fmtF no) (hi : is = fmtB no) (hB : Below w.heap.size w W) :
    bodyPost Tryz.prog Tryz.f73 (FormEnd no w) Exit.ret { tmps := tmps, defers := [] } W :=
  bodyPost_ret (results_ct (fn := Tryz.f73) (p := 2) (u := 3) (ty := 114) (by rfl) _ _ p 114 #[.int .i64 y.f0, .int .i64 y.f1, .int .i64 y.f2, .int .i64 y.f3] (0, 0) _ ht hb Tryz.underlying114 rfl (by kernel_rfl)) rfl ⟨y, hy, by rw [h3, hi], hB⟩
theorem find_at {no : Int} (kk : Nat) (h : kk < formatsL.length) (hn : ∀ y ∈ formatsL.take kk, (y.f0 == no) = false) (hy : (formatsL[kk].f0 == no) = true) : formatsL.find? (fun y => y.f0 == no) = some formatsL[kk] := by
  have e : formatsL = formatsL.take kk ++ formatsL[kk] :: formatsL.drop (kk + 1) := by rw [List.getElem_cons_drop, List.take_append_drop]
  rw [List.find?_eq_some_iff_append]
  exact ⟨hy, formatsL.take kk, formatsL.drop (kk + 1), e, fun a ha => by rw [hn a ha]; rfl⟩
set_option maxHeartbeats 8000000 in
set_option maxRecDepth 10000 in
theorem format_e (no : Int) (w : World) : Calls Tryz.prog 73 #[.int .i64 no] w (FormEnd no w) := by
  have hu := Tryz.underlying114
  go_enter Tryz.func73, Tryz.ntmps73
  go_wp2_with fail
  obtain ⟨p, hp⟩ : ∃ p, p = w.heap.size := ⟨_, rfl⟩
  have hb0 := blk_new w (.cells #[.int .i64 0, .int .i64 0, .int .i64 0, .int .i64 0] 114)
  have B0 : Below w.heap.size w (w.alloc (.cells #[.int .i64 0, .int .i64 0, .int .i64 0, .int .i64 0] 114)) := below_alloc (Below.refl _ w) _
  have HLO : Aside0 (w.heap.size ≤ p) := ⟨by omega⟩
  rw [← hp] at hb0 ⊢
  clear hp
  revert hb0 B0
  generalize (w.alloc (.cells #[.int .i64 0, .int .i64 0, .int .i64 0, .int .i64 0] 114)) = W0
  intro hb0 B0
  have HB0 := Aside0.mk hb0
  have BW := Aside0.mk B0
  clear hb0 B0
  refine (formats_x _).mono ?_
  rintro e w1 ⟨A, c, rfl, hC, hnc, hB⟩
  have HC := Aside0.mk hC
  have HP := Aside0.mk (blk_below HB0.out hB)
  replace BW := Aside0.mk (below_step BW.out hB)
  clear hC hB HB0
  go_wp2_with fail
  go_loopg [5] 24 (fun gg s5 wr => ∃ kk : Nat, kk ≤ 24 ∧ 24 - kk ≤ gg ∧ s5 = .int .i64 kk ∧ Aside0 (Below w1.heap.size w1 wr) ∧ Aside0 (∀ y ∈ formatsL.take kk, (y.f0 == no) = false))
  case atStart => exact ⟨0, Nat.zero_le _, by omega, rfl, ⟨Below.refl _ w1⟩, ⟨fun y hy => by simp at hy⟩⟩
  case round =>
    obtain ⟨kk, hkk, hg, rfl, BR, NO⟩ := hrel
    have hp := blk_below HP.out BR.out
    have z0 := blk_frozen hp 0
    have z1 := blk_frozen hp 1
    have z2 := blk_frozen hp 2
    have z3 := blk_frozen hp 3
    have c0 : wr.cell? ⟨p, 0, none⟩ = some (.int .i64 0) := (blk_cell hp 0).trans rfl
    have c1 : wr.cell? ⟨p, 1, none⟩ = some (.int .i64 0) := (blk_cell hp 1).trans rfl
    have c2 : wr.cell? ⟨p, 2, none⟩ = some (.int .i64 0) := (blk_cell hp 2).trans rfl
    have c3 : wr.cell? ⟨p, 3, none⟩ = some (.int .i64 0) := (blk_cell hp 3).trans rfl
    have HPR := Aside0.mk hp
    have BE := Aside0.mk (below_step BW.out BR.out)
    clear hp
    have SET : Aside0 (∀ a b c d : Int, ((((wr.setCell ⟨p, 0, none⟩ (.int .i64 a)).setCell ⟨p, 1, none⟩ (.int .i64 b)).setCell ⟨p, 2, none⟩ (.int .i64 c)).setCell ⟨p, 3, none⟩ (.int .i64 d)).heap[p]? = some (.cells #[.int .i64 a, .int .i64 b, .int .i64 c, .int .i64 d] 114 (0, 0)) ∧ Below w.heap.size w ((((wr.setCell ⟨p, 0, none⟩ (.int .i64 a)).setCell ⟨p, 1, none⟩ (.int .i64 b)).setCell ⟨p, 2, none⟩ (.int .i64 c)).setCell ⟨p, 3, none⟩ (.int .i64 d))) := ⟨fun a b c d =>
      ⟨blk_set (blk_set (blk_set (blk_set HPR.out 0 (.int .i64 a)) 1 (.int .i64 b)) 2 (.int .i64 c)) 3 (.int .i64 d), below_set (below_set (below_set (below_set BE.out HLO.out) HLO.out) HLO.out) HLO.out⟩⟩
    have hfl : formatsL.length = 24 := rfl
    have HFL := Aside0.mk hfl
    clear hfl
    by_cases hlt : kk < 24
    · have hltz : (kk : Int) < 24 := by omega
      obtain ⟨ad, e1, h0, h1, h2, h3⟩ := at_T114 (Kd.C_below HC.out BR.out) (kk : Int) (by omega) (by omega)
      subst e1
      rw [Int.toNat_natCast] at h0 h1 h2 h3
      have HK : Aside0 (kk < formatsL.length) := ⟨by rw [HFL.out]; exact hlt⟩
      have HY := Aside0.mk (show rd_T114 formatsL (kk : Int) = formatsL[kk]'HK.out by simp [rd_T114, List.getD_eq_getElem?_getD, HK.out])
      rw [HY.out] at h0 h1 h2 h3
      clear HY
      obtain ⟨y, hy⟩ : ∃ y, y = formatsL[kk]'HK.out := ⟨_, rfl⟩
      rw [← hy] at h0 h1 h2 h3
      replace hy := Aside0.mk hy
      by_cases q : y.f0 = no
      · have q' : (y.f0 == no) = true := beq_iff_eq.mpr q
        have HF := Aside0.mk (find_at kk HK.out NO.out (by rw [← hy.out]; exact q'))
        replace q := Aside0.mk q
        go_wp2_with fail
        exact form_end (y := y) rfl rfl (SET.out _ _ _ _).1 (by unfold fmtF; rw [HF.out, hy.out]; rfl) (by unfold fmtB; rw [HF.out]; rfl) (SET.out _ _ _ _).2
      · have q' : (y.f0 == no) = false := beq_eq_false_iff_ne.mpr q
        have NN : Aside0 (∀ y ∈ formatsL.take (kk + 1), (y.f0 == no) = false) := ⟨fun z hz => by
          rw [List.take_succ_eq_append_getElem HK.out, List.mem_append] at hz
          rcases hz with hz | hz
          · exact NO.out z hz
          · rw [List.mem_singleton] at hz
            rw [hz, ← hy.out]; exact q'⟩
        replace q := Aside0.mk q
        go_wp2_with fail
        go_roundg (24 - (kk + 1))
        case measure => omega
        case rel => exact ⟨kk + 1, by omega, by omega, by go_num, BR, NN⟩
    · have hltz : ¬ (kk : Int) < 24 := by omega
      have HF : Aside0 (formatsL.find? (fun y => y.f0 == no) = none) := ⟨by
        rw [List.find?_eq_none]
        intro z hz
        have := NO.out z (by rw [List.take_of_length_le (by rw [HFL.out]; omega)]; exact hz)
        rw [this]; decide⟩
      go_wp2_with fail
      exact form_end (y := z114) rfl rfl (SET.out _ _ _ _).1 (by unfold fmtF; rw [HF.out]; rfl) (by unfold fmtB; rw [HF.out]; rfl) (SET.out _ _ _ _).2
theorem nums_size (l : List Int) : (strOfNums l).size = l.length := by
  unfold strOfNums
  show (List.toArray _).size = _
  simp
/-- May a format have such data? -/
def typedF (k : Int) (s : ByteArray) : Bool := if k = 1 then rightF s 0 s.size else if k = 2 then alnF s 0 s.size else if k = 3 then (s.toList.isEmpty || ansF s s.size) else true
set_option maxHeartbeats 8000000 in
set_option maxRecDepth 10000 in
theorem typed_e (a b c d : Int) (A : Option Addr) (cp : Nat) (l : List Int) (w : World) (hr : Kd.C (Kd.int .u8) w A l.length l) (hl : l.length ≤ 140737488355328) : Calls Tryz.prog 74 #[.agg #[.int .i64 a, .int .i64 b, .int .i64 c, .int .i64 d], .slice A l.length cp] w fun e w' => e = .returned (.bool (typedF b (strOfNums l))) ∧ Below w.heap.size w w' := by
  have hu := Tryz.underlying114
  have hS : (strOfNums l).size ≤ 140737488355328 := by rw [nums_size]; exact hl
  have HS := Aside0.mk hS
  have HR := Aside0.mk hr
  clear hS hr
  go_enter Tryz.func74, Tryz.ntmps74
  go_upto_region 1 with fail
  obtain ⟨W0, hW0⟩ : ∃ W, W = w.alloc (.cells #[.int .i64 a, .int .i64 b, .int .i64 c, .int .i64 d] 114) := ⟨_, rfl⟩
  have BW : Aside0 (Below w.heap.size w W0) := ⟨by rw [hW0]; exact below_alloc (Below.refl _ w) _⟩
  have hcv := Kd.C_string (P := Tryz.prog) (A := A) (c := cp) Tryz.underlying38 Tryz.underlying5 Tryz.underlying9 (Kd.C_below HR.out BW.out)
  have c1 : W0.cell? ⟨w.heap.size, 1, none⟩ = some (.int .i64 b) := by rw [hW0]; exact (blk_cell (blk_new w _) 1).trans rfl
  rw [← hW0]
  replace hW0 := Aside0.mk hW0
  by_cases h1 : b = 1
  · have b1 : (b == 1) = true := beq_iff_eq.mpr h1
    have HF : Aside0 (typedF b (strOfNums l) = rightF (strOfNums l) 0 (strOfNums l).size) := ⟨by unfold typedF; rw [if_pos h1]⟩
    replace h1 := Aside0.mk h1
    go_wp2_with fail
    refine (right_e _ 0 _ _ HS.out).mono ?_
    rintro e w1 ⟨rfl, hB⟩
    go_wp2_with fail
    go_ret
    exact ⟨by first | (rw [HF.out]; rfl) | rw [HF.out], below_step BW.out hB.below⟩
  have b1 : (b == 1) = false := beq_eq_false_iff_ne.mpr h1
  replace h1 := Aside0.mk h1
  by_cases h2 : b = 2
  · have b2 : (b == 2) = true := beq_iff_eq.mpr h2
    have HF : Aside0 (typedF b (strOfNums l) = alnF (strOfNums l) 0 (strOfNums l).size) := ⟨by unfold typedF; rw [if_neg h1.out, if_pos h2]⟩
    replace h2 := Aside0.mk h2
    go_wp2_with fail
    refine (aln_e _ 0 _ _ HS.out).mono ?_
    rintro e w1 ⟨rfl, hB⟩
    go_wp2_with fail
    go_ret
    exact ⟨by first | (rw [HF.out]; rfl) | rw [HF.out], below_step BW.out hB.below⟩
  have b2 : (b == 2) = false := beq_eq_false_iff_ne.mpr h2
  replace h2 := Aside0.mk h2
  by_cases h3 : b = 3
  · have b3 : (b == 3) = true := beq_iff_eq.mpr h3
    by_cases h0 : (strOfNums l).toList = []
    · have m0 : ((strOfNums l).toList == ([] : List UInt8)) = true := beq_iff_eq.mpr h0
      have m1 : (strOfNums l).toList.isEmpty = true := List.isEmpty_iff.mpr h0
      have HF : Aside0 (typedF b (strOfNums l) = true) := ⟨by unfold typedF; rw [if_neg h1.out, if_neg h2.out, if_pos h3, m1]; rfl⟩
      replace h0 := Aside0.mk h0
      replace h3 := Aside0.mk h3
      go_wp2_with fail
      go_ret
      exact ⟨by rw [HF.out]; first | rfl | (rw [m1]; rfl), BW.out⟩
    · have m0 : ((strOfNums l).toList == ([] : List UInt8)) = false := beq_eq_false_iff_ne.mpr h0
      have m1 : (strOfNums l).toList.isEmpty = false := List.isEmpty_eq_false_iff.mpr h0
      have HF : Aside0 (typedF b (strOfNums l) = ansF (strOfNums l) (strOfNums l).size) := ⟨by unfold typedF; rw [if_neg h1.out, if_neg h2.out, if_pos h3, m1]; rfl⟩
      replace h0 := Aside0.mk h0
      replace h3 := Aside0.mk h3
      go_wp2_with fail
      refine (ans_e _ _ _ HS.out).mono ?_
      rintro e w1 ⟨rfl, hB⟩
      go_wp2_with fail
      go_ret
      exact ⟨by first | (rw [HF.out]; rfl) | rw [HF.out], below_step BW.out hB.below⟩
  have b3 : (b == 3) = false := beq_eq_false_iff_ne.mpr h3
  have HF : Aside0 (typedF b (strOfNums l) = true) := ⟨by unfold typedF; rw [if_neg h1.out, if_neg h2.out, if_neg h3]⟩
  replace h3 := Aside0.mk h3
  go_wp2_with fail
  go_ret
  exact ⟨by first | (rw [HF.out]; rfl) | rw [HF.out], BW.out⟩
/-- What is wrong with an element. -/
def chkF (no : Int) (l : List Int) : Int := if fmtB no = true then (if (fmtF no).f2 = 0 ∧ (l.length : Int) ≠ (fmtF no).f3 then 17 else if (l.length : Int) < 1 then 17 else if (fmtF no).f3 < (l.length : Int) then 17 else if typedF (fmtF no).f1 (strOfNums l) = true then 0 else 14) else 16
set_option maxHeartbeats 8000000 in
set_option maxRecDepth 10000 in
theorem chkEl_e (no : Int) (A : Option Addr) (cp : Nat) (l : List Int) (w : World) (hr : Kd.C (Kd.int .u8) w A l.length l) (hl : l.length ≤ 140737488355328) : Calls Tryz.prog 48 #[.agg #[.int .i64 no, .slice A l.length cp]] w fun e w' => e = .returned (.int .i64 (chkF no l)) ∧ Below w.heap.size w w' := by
  have hu := Tryz.underlying114
  have hu52 := Tryz.underlying50
  have HR := Aside0.mk hr
  have HL := Aside0.mk hl
  clear hr hl
  go_enter Tryz.func48, Tryz.ntmps48
  go_upto_region 1 with fail
  obtain ⟨p, hp⟩ : ∃ p, p = w.heap.size := ⟨_, rfl⟩
  obtain ⟨W0, hW0⟩ : ∃ W, W = w.alloc (.cells #[.int .i64 no, .slice A l.length cp] 50) := ⟨_, rfl⟩
  have BW : Aside0 (Below w.heap.size w W0) := ⟨by rw [hW0]; exact below_alloc (Below.refl _ w) _⟩
  have HP : Aside0 (W0.heap[p]? = some (.cells #[.int .i64 no, .slice A l.length cp] 50 (0, 0))) := ⟨by rw [hW0, hp]; exact blk_new w _⟩
  rw [← hW0, ← hp]
  clear hW0 hp
  have c0 : W0.cell? ⟨p, 0, none⟩ = some (.int .i64 no) := (blk_cell HP.out 0).trans rfl
  go_wp2_with fail
  refine (format_e no _).mono ?_
  rintro e w1 ⟨⟨a, b, c, d⟩, hy, rfl, hB⟩
  dsimp only
  obtain ⟨is, his⟩ : ∃ is, is = fmtB no := ⟨_, rfl⟩
  rw [← his]
  have HC : Aside0 (chkF no l = if is = true then (if c = 0 ∧ (l.length : Int) ≠ d then 17 else if (l.length : Int) < 1 then 17 else if d < (l.length : Int) then 17 else if typedF b (strOfNums l) = true then 0 else 14) else 16) := ⟨by rw [his]; unfold chkF; rw [← hy]⟩
  replace hy := Aside0.mk hy
  replace his := Aside0.mk his
  have HP1 := Aside0.mk (blk_below HP.out hB)
  replace BW := Aside0.mk (below_step BW.out hB)
  clear hB c0 HP
  go_upto_block 0 with fail
  obtain ⟨q, hq⟩ : ∃ q, q = w1.heap.size := ⟨_, rfl⟩
  obtain ⟨W2, hW2⟩ : ∃ W, W = w1.alloc (.cells #[.int .i64 a, .int .i64 b, .int .i64 c, .int .i64 d] 114) := ⟨_, rfl⟩
  have BX : Aside0 (Below w1.heap.size w1 W2) := ⟨by rw [hW2]; exact below_alloc (Below.refl _ w1) _⟩
  have HQ : Aside0 (W2.heap[q]? = some (.cells #[.int .i64 a, .int .i64 b, .int .i64 c, .int .i64 d] 114 (0, 0))) := ⟨by rw [hW2, hq]; exact blk_new w1 _⟩
  rw [← hW2, ← hq]
  clear hW2 hq
  have e1 : W2.cell? ⟨p, 1, none⟩ = some (.slice A l.length cp) := (blk_cell (blk_below HP1.out BX.out) 1).trans rfl
  have f0 : W2.cell? ⟨q, 0, none⟩ = some (.int .i64 a) := (blk_cell HQ.out 0).trans rfl
  have f1 : W2.cell? ⟨q, 1, none⟩ = some (.int .i64 b) := (blk_cell HQ.out 1).trans rfl
  have f2 : W2.cell? ⟨q, 2, none⟩ = some (.int .i64 c) := (blk_cell HQ.out 2).trans rfl
  have f3 : W2.cell? ⟨q, 3, none⟩ = some (.int .i64 d) := (blk_cell HQ.out 3).trans rfl
  have BE := Aside0.mk (below_step BW.out BX.out)
  have HT := Aside0.mk (typed_e a b c d A cp l W2 (Kd.C_below (Kd.C_below HR.out BW.out) BX.out) HL.out)
  clear BX HQ HP1 BW
  cases is with
  | false =>
    have HF : Aside0 (chkF no l = 16) := ⟨by rw [HC.out]; rfl⟩
    go_wp2_with fail
    go_ret
    exact ⟨by first | (rw [HF.out]; rfl) | rw [HF.out], BE.out⟩
  | true =>
    by_cases g0 : c = 0
    · have c0b : (c == 0) = true := beq_iff_eq.mpr g0
      by_cases g1 : (l.length : Int) = d
      · have c1b : ((l.length : Int) != d) = false := bne_eq_false_iff_eq.mpr g1
        have g3 : ¬ d < (l.length : Int) := by omega
        by_cases g2 : (l.length : Int) < 1
        · have HF : Aside0 (chkF no l = 17) := ⟨by rw [HC.out, if_pos rfl, if_neg (by omega), if_pos g2]⟩
          replace g1 := Aside0.mk g1
          replace g0 := Aside0.mk g0
          go_wp2_with fail
          go_ret
          exact ⟨by first | (rw [HF.out]; rfl) | rw [HF.out], BE.out⟩
        · have HF : Aside0 (chkF no l = if typedF b (strOfNums l) = true then 0 else 14) := ⟨by rw [HC.out, if_pos rfl, if_neg (by omega), if_neg g2, if_neg g3]⟩
          replace g1 := Aside0.mk g1
          replace g0 := Aside0.mk g0
          go_wp2_with fail
          refine HT.out.mono ?_
          rintro e w3 ⟨rfl, hB⟩
          obtain ⟨r, hr⟩ : ∃ r, r = typedF b (strOfNums l) := ⟨_, rfl⟩
          rw [← hr] at HF ⊢
          clear hr HT
          cases r with
          | true => go_wp2_with fail; go_ret; exact ⟨by rw [HF.out]; rfl, below_step BE.out hB⟩
          | false => go_wp2_with fail; go_ret; exact ⟨by rw [HF.out]; rfl, below_step BE.out hB⟩
      · have c1b : ((l.length : Int) != d) = true := bne_iff_ne.mpr g1
        have HF : Aside0 (chkF no l = 17) := ⟨by rw [HC.out, if_pos rfl, if_pos ⟨g0, g1⟩]⟩
        replace g1 := Aside0.mk g1
        replace g0 := Aside0.mk g0
        go_wp2_with fail
        go_ret
        exact ⟨by first | (rw [HF.out]; rfl) | rw [HF.out], BE.out⟩
    · have c0b : (c == 0) = false := beq_eq_false_iff_ne.mpr g0
      by_cases g2 : (l.length : Int) < 1
      · have HF : Aside0 (chkF no l = 17) := ⟨by rw [HC.out, if_pos rfl, if_neg (fun h => g0 h.1), if_pos g2]⟩
        replace g0 := Aside0.mk g0
        go_wp2_with fail
        go_ret
        exact ⟨by first | (rw [HF.out]; rfl) | rw [HF.out], BE.out⟩
      · by_cases g3 : d < (l.length : Int)
        · have HF : Aside0 (chkF no l = 17) := ⟨by rw [HC.out, if_pos rfl, if_neg (fun h => g0 h.1), if_neg g2, if_pos g3]⟩
          replace g0 := Aside0.mk g0
          go_wp2_with fail
          go_ret
          exact ⟨by first | (rw [HF.out]; rfl) | rw [HF.out], BE.out⟩
        · have HF : Aside0 (chkF no l = if typedF b (strOfNums l) = true then 0 else 14) := ⟨by rw [HC.out, if_pos rfl, if_neg (fun h => g0 h.1), if_neg g2, if_neg g3]⟩
          replace g0 := Aside0.mk g0
          go_wp2_with fail
          refine HT.out.mono ?_
          rintro e w3 ⟨rfl, hB⟩
          obtain ⟨r, hr⟩ : ∃ r, r = typedF b (strOfNums l) := ⟨_, rfl⟩
          rw [← hr] at HF ⊢
          clear hr HT
          cases r with
          | true => go_wp2_with fail; go_ret; exact ⟨by rw [HF.out]; rfl, below_step BE.out hB⟩
          | false => go_wp2_with fail; go_ret; exact ⟨by rw [HF.out]; rfl, below_step BE.out hB⟩
theorem empty_iff (t : ByteArray) : t.toList = [] ↔ t.size = 0 := by
  have e : t.toList = t.data.toList := ByteArray.toList_eq t
  have e2 : t.size = t.data.toList.length := rfl
  rw [e, e2, List.length_eq_zero_iff]
/-- A text with blanks behind, up to a length. -/
structure WideOf (s : ByteArray) (n : Int) (t : ByteArray) : Prop where
  none : s.toList = [] → t = s
  full : s.toList ≠ [] → (s.size : Int) ≤ n → (t.size : Int) = n
  ink : (bs s).all ink = true → (bs t).all ink = true
theorem wide_e (s : ByteArray) (n : Int) (w : World) (hs : s.size ≤ 140737488355328) (hn : n ≤ 1000) : Calls Tryz.prog 102 #[.string s, .int .i64 n] w fun e w' => ∃ t, e = .returned (.string t) ∧ WideOf s n t ∧ Drawn0 w w' := by
  have HS := Aside0.mk (And.intro hs hn)
  by_cases h0 : s.toList = []
  · have m0 : (s.toList == ([] : List UInt8)) = true := beq_iff_eq.mpr h0
    have m1 : s.toList.isEmpty = true := by rw [h0]; rfl
    have HF : Aside0 (WideOf s n s) := ⟨⟨fun _ => rfl, fun h => absurd h0 h, fun h => h⟩⟩
    have HD := Aside0.mk (Drawn0.refl w)
    replace h0 := Aside0.mk h0
    go_enter Tryz.func102, Tryz.ntmps102
    go_wp2_with fail
    go_loopg [0] 0 (fun gg s0 wr => s0 = .string s ∧ Aside0 (Drawn0 w wr))
    case atStart => exact ⟨rfl, HD⟩
    case round =>
      obtain ⟨rfl, BD⟩ := hrel
      go_wp2_with fail
      go_ret
      exact ⟨s, rfl, HF.out, BD.out⟩
  · have HE := Aside0.mk h0
    have HN : Aside0 (∀ t : ByteArray, s.size ≤ t.size → (t.toList == ([] : List UInt8)) = false ∧ t.toList.isEmpty = false) := ⟨fun t ht => by
      have h1 : ¬ s.size = 0 := fun h => h0 ((empty_iff s).2 h)
      have h2 : t.toList ≠ [] := fun h => by have := (empty_iff t).1 h; omega
      refine ⟨beq_eq_false_iff_ne.mpr h2, ?_⟩
      cases h : t.toList with
      | nil => exact absurd h h2
      | cons a b => rfl⟩
    clear h0
    go_enter Tryz.func102, Tryz.ntmps102
    go_wp2_with fail
    go_loopg [0] (n.toNat - s.size) (fun gg s0 wr => ∃ t : ByteArray, s0 = .string t ∧ n.toNat - t.size ≤ gg ∧ Aside0 (Drawn0 w wr) ∧ Aside0 (s.size ≤ t.size ∧ ((t.size : Int) ≤ n ∨ t = s)) ∧ Aside0 ((bs s).all ink = true → (bs t).all ink = true))
    case atStart => exact ⟨s, rfl, by omega, ⟨Drawn0.refl w⟩, ⟨Nat.le_refl _, .inr rfl⟩, ⟨fun h => h⟩⟩
    case round =>
      obtain ⟨t, rfl, hg, BD, HT, HI⟩ := hrel
      obtain ⟨m0, m1⟩ := HN.out t HT.out.1
      by_cases hlt : (t.size : Int) < n
      · have hsz : ¬ 9223372036854775807 < t.size + 1 := by have := HS.out; omega
        go_wp2_with fail
        go_roundg (n.toNat - (t.size + 1))
        case measure => omega
        case rel =>
          refine ⟨t ++ ⟨#[32]⟩, rfl, ?_, BD, ⟨?_, ?_⟩, ⟨fun h => ?_⟩⟩
          · rw [ByteArray.size_append]; show n.toNat - (t.size + 1) ≤ _; omega
          · rw [ByteArray.size_append]; show s.size ≤ t.size + 1; have := HT.out.1; omega
          · rw [ByteArray.size_append]; exact .inl (show ((t.size + 1 : Nat) : Int) ≤ n by omega)
          · rw [bs_append, List.all_append, HI.out h]; rfl
      · go_wp2_with fail
        go_ret
        refine ⟨t, rfl, ⟨fun h => absurd h HE.out, fun _ h => ?_, HI.out⟩, BD.out⟩
        rcases HT.out.2 with q | q
        · omega
        · rw [q] at hlt ⊢; omega
set_option maxHeartbeats 4000000 in
theorem small_e (s : ByteArray) (n : Int) (w : World) (hs : s.size ≤ 140737488355328) (h : s.toList = [] ∨ (PlainA s 1 n ∧ ansF s n = true)) : Calls Tryz.prog 97 #[.string s, .int .i64 n] w fun e w' => e = .returned (.bool true) ∧ Below w.heap.size w w' := by
  have HS := Aside0.mk hs
  have HB := Aside0.mk (Below.refl w.heap.size w)
  by_cases h0 : s.toList = []
  · have m0 : (s.toList == ([] : List UInt8)) = true := beq_iff_eq.mpr h0
    have m1 : s.toList.isEmpty = true := by rw [h0]; rfl
    replace h0 := Aside0.mk h0
    clear h
    go_enter Tryz.func97, Tryz.ntmps97
    go_wp2_with fail
    go_ret
    exact ⟨by first | rfl | (rw [m1]; rfl), HB.out⟩
  · have m0 : (s.toList == ([] : List UInt8)) = false := beq_eq_false_iff_ne.mpr h0
    have m1 : s.toList.isEmpty = false := by cases h : s.toList with | nil => exact absurd h h0 | cons a b => rfl
    have HP := Aside0.mk (h.resolve_left h0)
    replace h0 := Aside0.mk h0
    clear h
    go_enter Tryz.func97, Tryz.ntmps97
    go_wp2_with fail
    refine (plain_x s 1 n _ HS.out).mono ?_
    rintro e w1 ⟨b, rfl, hb, hB⟩
    obtain rfl := hb.2 HP.out.1
    have B1 := Aside0.mk hB
    clear hb hB
    go_wp2_with fail
    refine (ans_e s n _ HS.out).mono ?_
    rintro e w2 ⟨rfl, hB⟩
    rw [HP.out.2]
    have B2 := Aside0.mk (below_step B1.out hB.below)
    clear hB
    go_wp2_with fail
    go_ret
    exact ⟨by first | rfl | simp, B2.out⟩
theorem key_e (s : ByteArray) (w : World) (hs : s.size = 8) (h : hexE s = 0) : Calls Tryz.prog 96 #[.string s] w fun e w' => e = .returned (.bool true) ∧ Below w.heap.size w w' := by
  have HS := Aside0.mk (show s.size ≤ 140737488355328 by omega)
  have HH := Aside0.mk h
  have h8 : ((s.size : Int) == 8) = true := beq_iff_eq.mpr (by omega)
  clear h
  go_enter Tryz.func96, Tryz.ntmps96
  go_wp2_with fail
  refine (unhex_e s _ HS.out).mono ?_
  rintro e w1 ⟨A, n, c, rfl, _, hB⟩
  rw [HH.out]
  have B1 := Aside0.mk hB
  clear hB
  go_wp2_with fail
  go_ret
  exact ⟨by first | rfl | simp [hs], B1.out⟩
end Go.Proofs.YthapknnppabdaaaGreat.MQ
namespace Go.Proofs.YthapknnppabdaaaGreat.MQ
open Go.RowKit Go.Proofs.YthapknnppabdaaaGreatW.PrintWords Go.Proofs.YthapknnppabdaaaGreatW.PrintLast Go.Proofs.YthapknnppabdaaaGreatW.PrintMore
attribute [local go_sem] max2_int min2_int max_two min_two max_three min_three max_four min_four
set_option linter.unusedVariables false
set_option linter.unusedSimpArgs false

/-- Cells as they are. -/
def kraw (n : Nat) : Kd (List Value) where
  sz := n
  E := []
  K := fun _ x cs => cs = x ∧ x.length = n ∧ ∀ u ∈ x, u.oneCell' = true
  M := fun _ _ _ x cs => cs = x ∧ x.length = n ∧ ∀ u ∈ x, u.oneCell' = true
  K_len := fun h => by rw [h.1]; exact h.2.1
  K_one := fun h u hu => h.2.2 u (h.1 ▸ hu)
  K_below := fun _ h => h
  K_of_M := fun h => h
  M_mono := fun _ h => h
  M_bound := fun h => h
  M_move := fun _ h => h
  M_lower := fun _ h => h
theorem raw_of {α : Type} {d : Kd α} {w : World} {A : Option Addr} {n : Nat} {xs : List α} (h : d.C w A n xs) :
    ∃ zs : List (List Value), (kraw d.sz).C w A n zs ∧ ∀ (j : Nat) (x : α) (z : List Value), xs[j]? = some x → zs[j]? = some z → d.K w x z := by
  obtain ⟨h1, h2, h3⟩ := h
  rcases Nat.eq_zero_or_pos n with h0 | h0
  · refine ⟨[], ⟨h0.symm, h2, fun hn => absurd hn (by omega)⟩, fun j x z hx hz => by simp at hz⟩
  · obtain ⟨ad, e, hc⟩ := h3 h0
    have key : ∀ m, m ≤ xs.length → ∃ zs : List (List Value), zs.length = m ∧ ∀ j z, zs[j]? = some z → ∃ x, xs[j]? = some x ∧ z.length = d.sz ∧ d.K w x z ∧ ∀ i u, z[i]? = some u → w.cell? (ad.add (j * d.sz + i)) = some u := by
      intro m
      induction m with
      | zero => exact fun _ => ⟨[], rfl, fun j z hz => by simp at hz⟩
      | succ m ih =>
        intro hm
        obtain ⟨zs, hl, hz⟩ := ih (by omega)
        have hx : xs[m]? = some xs[m] := List.getElem?_eq_getElem (by omega)
        obtain ⟨c, hs, hk, hcell⟩ := hc m _ hx
        refine ⟨zs ++ [c], by simp [hl], fun j z hj => ?_⟩
        rcases Nat.lt_or_ge j m with hjm | hjm
        · rw [List.getElem?_append_left (by omega)] at hj
          exact hz j z hj
        · rw [List.getElem?_append_right (by omega)] at hj
          have hj0 : j = m := by
            rcases Nat.eq_zero_or_pos (j - zs.length) with q | q
            · omega
            · rw [List.getElem?_eq_none (by simp; omega)] at hj; cases hj
          subst hj0
          rw [show j - zs.length = 0 by omega] at hj
          simp only [List.getElem?_cons_zero, Option.some.injEq] at hj
          subst hj
          exact ⟨_, hx, hs, hk, hcell⟩
    obtain ⟨zs, hl, hz⟩ := key xs.length (Nat.le_refl _)
    refine ⟨zs, ⟨by omega, h2, fun _ => ⟨ad, e, fun j z hj => ?_⟩⟩, fun j x z hx hj => ?_⟩
    · obtain ⟨x, hx, hs, hk, hcell⟩ := hz j z hj
      exact ⟨z, hs, ⟨rfl, hs, d.K_one hk⟩, hcell⟩
    · obtain ⟨x', hx', hs, hk, hcell⟩ := hz j z hj
      rw [hx] at hx'
      obtain rfl := Option.some.inj hx'
      exact hk
theorem raw_back {α : Type} {d : Kd α} {w : World} {A : Option Addr} {n : Nat} {xs : List α} {zs : List (List Value)} (h : (kraw d.sz).C w A n zs) (hl : xs.length = n) (hk : ∀ (j : Nat) (x : α) (z : List Value), xs[j]? = some x → zs[j]? = some z → d.K w x z) : d.C w A n xs := by
  obtain ⟨h1, h2, h3⟩ := h
  refine ⟨hl, h2, fun hn => ?_⟩
  obtain ⟨ad, e, hc⟩ := h3 hn
  refine ⟨ad, e, fun j x hx => ?_⟩
  have hj : j < zs.length := by
    have := (List.getElem?_eq_some_iff.1 hx).1
    omega
  obtain ⟨c, hs, ⟨hcz, _, _⟩, hcell⟩ := hc j _ (List.getElem?_eq_getElem hj)
  subst hcz
  exact ⟨_, hs, hk j x _ hx (List.getElem?_eq_getElem hj), hcell⟩
/-- What lies below w0 and every block of bytes is as it was. -/
structure Same5 (w0 W W' : World) : Prop where
  bel : Below w0.heap.size w0 W'
  byt : ∀ (k : Nat) (cells : Array Value) (fr : Nat × Nat), W.heap[k]? = some (.cells cells 5 fr) → W'.heap[k]? = some (.cells cells 5 fr)
theorem Same5.trans {w0 W W1 W2 : World} (h : Same5 w0 W W1) (g : Same5 w0 W1 W2) : Same5 w0 W W2 := ⟨g.bel, fun k c fr hk => g.byt k c fr (h.byt k c fr hk)⟩
theorem Same5.below {w0 W W' : World} (h : Below w0.heap.size w0 W) (hb : Below W.heap.size W W') : Same5 w0 W W' := ⟨below_step h hb, fun k c fr hk => (hb.block k (blk_lt hk)).trans hk⟩
/-- The cells z say the element x, whatever else is made or set. -/
def Cont (w0 W : World) (x : S50) (z : List Value) : Prop := ∀ W', Same5 w0 W W' → k50.K W' x z
theorem Cont.step {w0 W W1 : World} {x : S50} {z : List Value} (h : Cont w0 W x z) (g : Same5 w0 W W1) : Cont w0 W1 x z := fun W' hW => h W' (g.trans hW)
/-- The maker in the block t holds the elements L. -/
structure TM (w0 : World) (t : Nat) (L : List S50) (zs : List (List Value)) (v : Value) (W : World) : Prop where
  cell : W.heap[t]? = some (.cells #[v] 155 (0, 0))
  row : Kd.R (kraw 2) 50 W w0.heap.size (fun _ => True) v zs
  len : zs.length = L.length
  con : ∀ (j : Nat) (x : S50) (z : List Value), L[j]? = some x → zs[j]? = some z → Cont w0 W x z
  bel : Below w0.heap.size w0 W
  lo : w0.heap.size ≤ t
theorem TM.below {w0 : World} {t : Nat} {L : List S50} {zs : List (List Value)} {v : Value} {W W' : World} (h : TM w0 t L zs v W) (hb : Below W.heap.size W W') : TM w0 t L zs v W' :=
  ⟨blk_below h.cell hb, Kd.R_below h.row hb, h.len, fun j x z hx hz => (h.con j x z hx hz).step (Same5.below h.bel hb), below_step h.bel hb, h.lo⟩
def optE (no : Int) (s : ByteArray) : List S50 := if s.toList = [] then [] else [⟨no, bytesOf s⟩]
def SomeM (w0 : World) (t : Nat) (L : List S50) (e : Ending) (w' : World) : Prop := ∃ zs v, e = .returned (.tuple #[]) ∧ TM w0 t L zs v w'
theorem bytes_cont (w0 W : World) (no : Int) (s : ByteArray) (hs : s.size ≤ 140737488355328) : Cont w0 (Lib.bytesWorld W 5 s) ⟨no, bytesOf s⟩ [.int .i64 no, .slice (some ⟨W.heap.size, 0, none⟩) s.size (grownCap W s.size 0 5)] := by
  intro W' hW
  have hl := bytesOf_length s
  have hn := hW.byt _ _ _ (Lib.bytesWorld_at_new W 5 s)
  have hcap : (bytesOf s).length ≤ grownCap W s.size 0 5 := by rw [hl]; exact grownCap_ge W s.size 0 5
  have hR : ReadsInt W' .u8 (some ⟨W.heap.size, 0, none⟩) s.size (bytesOf s) := by
    obtain ⟨h1, h2, h3⟩ := bytes_reads W 5 s (by omega)
    refine ⟨h1, h2, fun hp => ?_⟩
    obtain ⟨ad, e, hc⟩ := h3 hp
    refine ⟨ad, e, fun j hj => ?_⟩
    obtain rfl := Option.some.inj e
    rw [← hc j hj]
    unfold World.cell?
    rw [show ((⟨W.heap.size, 0, none⟩ : Addr).add j).block = W.heap.size from by simp [Addr.add]; split <;> rfl, hn, Lib.bytesWorld_at_new W 5 s]
  have hC : (Kd.int .u8).C W' (some ⟨W.heap.size, 0, none⟩) (bytesOf s).length (bytesOf s) := by rw [hl]; exact Kd.C_of_reads hR
  have := k50_mk W' ⟨no, bytesOf s⟩ hcap hC
  rw [hl] at this
  exact this
theorem tm_grown {w0 W w2 : World} {t : Nat} {L : List S50} {zs : List (List Value)} {v v1 : Value} {x : S50} {z : List Value} (h : TM w0 t L zs v W) (hc : Cont w0 W x z) (ho : Kd.R (kraw 2) 50 w2 w0.heap.size (fun _ => True) v1 (zs ++ [z])) (hb : Below w0.heap.size w0 w2) (hg : W.grownBy w2 v.ownBlock) :
    w2.heap[t]? = some (.cells #[v] 155 (0, 0)) ∧ Below w0.heap.size w0 w2 ∧ TM w0 t (L ++ [x]) (zs ++ [z]) v1 (w2.setCell ⟨t, 0, none⟩ v1) := by
  have hcell : w2.heap[t]? = some (.cells #[v] 155 (0, 0)) := (hg.block t (blk_lt h.cell) (Kd.R_ne h.row h.cell (by decide))).trans h.cell
  have hs : Same5 w0 W w2 := ⟨hb, fun k c fr hk => (hg.block k (blk_lt hk) (fun e => by
    obtain ⟨cells, hcs⟩ := Kd.R_typed h.row k e.symm
    rw [hk] at hcs
    have := Option.some.inj hcs
    injection this with _ h2 _
    cases h2)).trans hk⟩
  have hset : Same5 w0 w2 (w2.setCell ⟨t, 0, none⟩ v1) := ⟨below_set hb h.lo, fun k c fr hk => (Below.heap_setCell w2 ⟨t, 0, none⟩ v1 k (fun e => by
    have e : k = t := e
    rw [e, hcell] at hk
    have := Option.some.inj hk
    injection this with _ h2 _
    cases h2)).trans hk⟩
  refine ⟨hcell, hb, ⟨blk_set hcell 0 _, ?_, by rw [List.length_append, List.length_append, h.len]; rfl, fun j y u hy hu => ?_, below_set hb h.lo, h.lo⟩⟩
  · exact Kd.R_mono (Kd.R_far (Kd.R_types ho hcell (by decide)) (fun _ hk => hk.2) v1) (fun _ _ => trivial)
  · rcases Nat.lt_or_ge j L.length with hj | hj
    · rw [List.getElem?_append_left hj] at hy
      rw [List.getElem?_append_left (by rw [h.len]; exact hj)] at hu
      exact (h.con j y u hy hu).step (hs.trans hset)
    · rw [List.getElem?_append_right hj] at hy
      rw [List.getElem?_append_right (by rw [h.len]; exact hj), h.len] at hu
      rcases Nat.eq_zero_or_pos (j - L.length) with q | q
      · rw [q] at hy hu
        obtain rfl := Option.some.inj hy
        obtain rfl := Option.some.inj hu
        exact hc.step (hs.trans hset)
      · rw [List.getElem?_eq_none (by simp; omega)] at hy; cases hy
set_option maxHeartbeats 8000000 in
set_option maxRecDepth 10000 in
theorem someM_e (w0 W : World) (t : Nat) (L : List S50) (zs : List (List Value)) (v : Value) (no : Int) (s : ByteArray) (h : TM w0 t L zs v W) (hl : L.length ≤ 1000) (hs : s.size ≤ 140737488355328) : Calls Tryz.prog 100 #[.pointer (some ⟨t, 0, none⟩), .int .i64 no, .string s] W (SomeM w0 t (L ++ optE no s)) := by
  have HT := Aside0.mk h
  have HL := Aside0.mk (And.intro hl hs)
  clear h hl hs
  by_cases q : s.toList = []
  · have q1 : (s.toList == ([] : List UInt8)) = true := beq_iff_eq.mpr q
    have q2 : s.toList.isEmpty = true := by rw [q]; rfl
    have HO : Aside0 (L ++ optE no s = L) := ⟨by unfold optE; rw [if_pos q, List.append_nil]⟩
    replace q := Aside0.mk q
    go_enter Tryz.func100, Tryz.ntmps100
    go_wp2_with fail
    (try simp only [Exit.inBlock, Exit.then]); refine bodyPost_end (results_none rfl _ _ _) rfl ?_
    rw [HO.out]
    exact ⟨zs, v, rfl, HT.out⟩
  · have q1 : (s.toList == ([] : List UInt8)) = false := beq_eq_false_iff_ne.mpr q
    have q2 : s.toList.isEmpty = false := by cases h : s.toList with | nil => exact absurd h q | cons a b => rfl
    have HO : Aside0 (L ++ optE no s = L ++ [⟨no, bytesOf s⟩]) := ⟨by unfold optE; rw [if_neg q]⟩
    replace q := Aside0.mk q
    have kb := fun W => print_bytes (P := Tryz.prog) 9 38 5 Tryz.underlying9 Tryz.underlying38 Tryz.underlying5 s W
    have d0 := (blk_cell HT.out.cell 0).trans (show _ = some v from rfl)
    go_enter Tryz.func100, Tryz.ntmps100
    obtain ⟨cap, hcap⟩ : ∃ c, c = grownCap W s.size 0 5 := ⟨_, rfl⟩
    have HT1 := Aside0.mk (HT.out.below (bytes_below (Below.refl _ W) (Nat.le_refl _) 5 s))
    have HC1 := Aside0.mk (bytes_cont w0 W no s HL.out.2)
    go_wp2_with (first | ((with_reducible refine gate_builtin (b := .append) (xs := #[.tmp 12, .tmp 17]) rfl ?_); at_builtin; refine Kd.R_append (kraw 2) (w0 := w0) w0.heap.size rfl (.tmp 12) (.tmp 17) 27 50 (.agg #[(.int .i64 0), (.slice none 0 0)]) 32 rfl Tryz.underlying27 info50 rfl (by decide) (by omega) v zs [.int .i64 no, .slice (some ⟨W.heap.size, 0, none⟩) s.size (grownCap W s.size 0 5)] [.int .i64 no, .slice (some ⟨W.heap.size, 0, none⟩) s.size (grownCap W s.size 0 5)] (fun _ => True) (fun _ => False) rfl rfl ?aP (fun _ hk => hk.elim) ?aF ?aO ?aB ?aS ?aL ?_; (case aP => exact ⟨rfl, rfl, by simp [Value.oneCell']⟩); (case aF => exact (fun _ _ => trivial)); (case aO => exact HT1.out.row); (case aB => exact HT1.out.bel); (case aS => exact below_size HT1.out.bel); (case aL => exact (by have := HT1.out.len; have := HL.out.1; omega)); intro v1 w2 ho hb hg hat; have HN := Aside0.mk (tm_grown HT1.out HC1.out ho hb hg); obtain ⟨A1, c1, e1⟩ := Kd.R_slice ho; subst e1; clear ho hb hg hat; have d1 := (blk_cell HN.out.1 0).trans (show _ = some v from rfl); have z1 := blk_frozen HN.out.1 0))
    (try simp only [Exit.inBlock, Exit.then]); refine bodyPost_end (results_none rfl _ _ _) rfl ?_
    rw [HO.out]
    have HE := HN.out.2.2
    simp only [List.length_append, List.length_cons, List.length_nil, Nat.zero_add] at HE
    exact ⟨_, _, rfl, HE⟩
end Go.Proofs.YthapknnppabdaaaGreat.MQ
