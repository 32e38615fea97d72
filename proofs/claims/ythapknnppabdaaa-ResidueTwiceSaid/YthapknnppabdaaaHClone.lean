/- What slices.Clone comes to: a row of the call's own with what was in the other. -/
import Derived.Test.YthapknnppabdaaaMRx0
import Derived.Shelf.Abstract
import Derived.Lib.LazyBuf
namespace Go.Proofs.Ythapknnppabdaaa.MR
open Go.RowKit Go.Proofs.YthapknnppabdaaaW.PrintWords Go.Proofs.YthapknnppabdaaaW.PrintLast Go.Proofs.YthapknnppabdaaaW.PrintMore
set_option linter.unusedVariables false
set_option linter.unusedSimpArgs false

def slices_Clone_byte_byte.f (a0 : List Int) : Option (List Int) := if a0.length ≤ 140737488355328 then some a0 else none
theorem slices_Clone_byte_byte.empty (w : World) : Kd.R (Kd.int .u8) 5 (w.alloc (.cells #[] 5)) w.heap.size (fun _ => True) (.slice (some ⟨w.heap.size, 0, none⟩) 0 0) ([] : List Int) :=
  ⟨fun _ _ => trivial, [], ⟨rfl, .inr ⟨w.heap.size, 0, #[], rfl, Nat.le_refl _, blk_new w _, Nat.le_refl _, Nat.zero_le _, rfl, rfl⟩⟩, Reps.none _ _⟩
theorem slices_Clone_byte_byte.is_nil (W : World) (a : Option Addr) (n c : Nat) : (binOp .eql 50 (.slice a n c) (.slice none 0 0)).run Try.prog W = .ok (.bool a.isNone) W := Go.run_eql_slice_nil W 50 5 a n c Try.underlying50
set_option maxHeartbeats 4000000 in
set_option maxRecDepth 100000 in
theorem slices_Clone_byte_byte.calls (A0 : Option Addr) (c0 : Nat) (l0 : List Int) (r : List Int) (w : World) (hr0 : Kd.C (Kd.int .u8) w A0 l0.length l0) (hc0 : l0.length ≤ c0) (h : slices_Clone_byte_byte.f l0 = some r) :
    Calls Try.prog 52 #[.slice A0 l0.length c0] w fun e w' => ∃ v0_ : Value, e = .returned (v0_) ∧ Kd.R (Kd.int .u8) 5 w' w.heap.size (fun _ => True) v0_ r ∧ Below w.heap.size w w' := by
  unfold slices_Clone_byte_byte.f at h
  by_cases hs : l0.length ≤ 140737488355328
  · rw [if_pos hs] at h
    obtain rfl := Option.some.inj h
    have HR := Aside0.mk hr0
    have HS := Aside0.mk hs
    clear hr0 h hs hc0
    rcases A0 with _ | ad
    · have hl : l0 = [] := by
        rcases Nat.eq_zero_or_pos l0.length with h0 | h0
        · exact List.length_eq_zero_iff.1 h0
        · obtain ⟨ad, h, _⟩ := HR.out.2.2 h0; cases h
      subst hl
      clear HR HS
      have hnil_ := fun W : World => slices_Clone_byte_byte.is_nil W none 0 c0
      go_enter Try.func52, Try.ntmps52
      go_wp2
      go_ret
      exact ⟨_, rfl, Kd.R_nil _ _ _ _ _, Below.refl _ _⟩
    · have hnil_ := fun W : World => slices_Clone_byte_byte.is_nil W (some ad) l0.length c0
      go_enter Try.func52, Try.ntmps52
      go_wp2_with (at_builtin; refine Kd.R_append_rows (Kd.int .u8) (w0 := w) w.heap.size rfl (.tmp 5) (.tmp 6) 50 5 (.int .u8 0) 1 rfl Try.underlying50 info5 rfl (by decide) (by decide) _ ([] : List Int) l0 _ _ _ (fun _ => True) (fun _ => False) rfl rfl (slices_Clone_byte_byte.empty w) (Kd.C_alloc HR.out _) (fun _ _ h => h) (fun _ h => h.elim) (fun _ _ => trivial) (below_alloc (Below.refl _ w) _) (below_size (below_alloc (Below.refl _ w) _)) (by have := HS.out; simp only [List.length_nil]; omega) ?_; intro v1 w1 ho hb hg hat)
      go_ret
      exact ⟨_, rfl, ho, hb⟩
  · rw [if_neg hs] at h
    cases h

def api_Pair_30.f (a0 : List S48) : Option (List S48) := if a0.length ≤ 4398046511104 then some a0 else none
theorem api_Pair_30.empty (w : World) : Kd.R k48 48 (w.alloc (.cells #[] 48)) w.heap.size (fun _ => True) (.slice (some ⟨w.heap.size, 0, none⟩) 0 0) ([] : List S48) :=
  ⟨fun _ _ => trivial, [], ⟨rfl, .inr ⟨w.heap.size, 0, #[], rfl, Nat.le_refl _, blk_new w _, Nat.le_refl _, Nat.zero_le _, rfl, rfl⟩⟩, Reps.none _ _⟩
theorem api_Pair_30.is_nil (W : World) (a : Option Addr) (n c : Nat) : (binOp .eql 26 (.slice a n c) (.slice none 0 0)).run Try.prog W = .ok (.bool a.isNone) W := Go.run_eql_slice_nil W 26 48 a n c Try.underlying26
set_option maxHeartbeats 4000000 in
set_option maxRecDepth 100000 in
theorem api_Pair_30.calls (A0 : Option Addr) (c0 : Nat) (l0 : List S48) (r : List S48) (w : World) (hr0 : Kd.C k48 w A0 l0.length l0) (hc0 : l0.length ≤ c0) (h : api_Pair_30.f l0 = some r) :
    Calls Try.prog 30 #[.slice A0 l0.length c0] w fun e w' => ∃ v0_ : Value, e = .returned (v0_) ∧ Kd.R k48 48 w' w.heap.size (fun _ => True) v0_ r ∧ Below w.heap.size w w' := by
  unfold api_Pair_30.f at h
  by_cases hs : l0.length ≤ 4398046511104
  · rw [if_pos hs] at h
    obtain rfl := Option.some.inj h
    have HR := Aside0.mk hr0
    have HS := Aside0.mk hs
    clear hr0 h hs hc0
    rcases A0 with _ | ad
    · have hl : l0 = [] := by
        rcases Nat.eq_zero_or_pos l0.length with h0 | h0
        · exact List.length_eq_zero_iff.1 h0
        · obtain ⟨ad, h, _⟩ := HR.out.2.2 h0; cases h
      subst hl
      clear HR HS
      have hnil_ := fun W : World => api_Pair_30.is_nil W none 0 c0
      go_enter Try.func30, Try.ntmps30
      go_wp2
      go_ret
      exact ⟨_, rfl, Kd.R_nil _ _ _ _ _, Below.refl _ _⟩
    · have hnil_ := fun W : World => api_Pair_30.is_nil W (some ad) l0.length c0
      go_enter Try.func30, Try.ntmps30
      go_wp2_with (at_builtin; refine Kd.R_append_rows k48 (w0 := w) w.heap.size rfl (.tmp 5) (.tmp 6) 26 48 (.agg #[(.string ⟨#[]⟩), (.string ⟨#[]⟩)]) 32 rfl Try.underlying26 info48 rfl (by decide) (by decide) _ ([] : List S48) l0 _ _ _ (fun _ => True) (fun _ => False) rfl rfl (api_Pair_30.empty w) (Kd.C_alloc HR.out _) (fun _ _ h => h) (fun _ h => h.elim) (fun _ _ => trivial) (below_alloc (Below.refl _ w) _) (below_size (below_alloc (Below.refl _ w) _)) (by have := HS.out; simp only [List.length_nil]; omega) ?_; intro v1 w1 ho hb hg hat)
      go_ret
      exact ⟨_, rfl, ho, hb⟩
  · rw [if_neg hs] at h
    cases h

end Go.Proofs.Ythapknnppabdaaa.MR
