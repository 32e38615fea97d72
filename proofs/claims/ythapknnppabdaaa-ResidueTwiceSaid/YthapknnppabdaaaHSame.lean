/- What comptoirhelp.Same comes to where the two lists are alike, and with it Plain, Message, Residue. -/
import Derived.Test.YthapknnppabdaaaMRx3
import Derived.Shelf.Abstract
import Derived.StillTailTactics
namespace Go.Proofs.Ythapknnppabdaaa.MR
open Go.RowKit Go.Proofs.YthapknnppabdaaaW.PrintWords Go.Proofs.YthapknnppabdaaaW.PrintLast Go.Proofs.YthapknnppabdaaaW.PrintMore
set_option linter.unusedVariables false
set_option linter.unusedSimpArgs false

instance : DecidableEq S48 := fun a b => if h : a.f0 = b.f0 ∧ a.f1 = b.f1 then isTrue (by cases a; cases b; obtain ⟨h1, h2⟩ := h; simp only at h1 h2; rw [h1, h2]) else isFalse (by rintro rfl; exact h ⟨rfl, rfl⟩)

theorem eqA48 (d : Nat) (w : World) (x0 y0 : ByteArray) (x1 y1 : ByteArray) :
    (Op.equalIn (d + 2) 48 (.agg #[.string x0, .string x1]) (.agg #[.string y0, .string y1])).run Try.prog w = .ok (x0.toList == y0.toList && (x1.toList == y1.toList)) w := by
  refine eqA_of Try.underlying48 (by kernel_rfl) ?_
  refine eqf_cons (by rfl) (by go_simp; rfl) (by go_simp; rfl) (by go_simp) ?_
  exact eqf_last (by rfl) (by go_simp; rfl) (by go_simp; rfl) (by go_simp)
theorem heq_S48 (x y : ByteArray) (W : World) : (binOp .eql 48 (.agg #[.string x, .string y]) (.agg #[.string x, .string y])).run Try.prog W = .ok (.bool true) W := by
  have h := eqA48 9998 W x x y y
  simp [binOp, Op.equal, Op.maxDepth, h]

theorem eq_S48_calls (x : S48) (W : World) : Calls Try.prog 48 #[.agg #[.string x.f0, .string x.f1], .agg #[.string x.f0, .string x.f1]] W fun e' w' => e' = .returned (.bool true) ∧ Below W.heap.size W w' := by
  have hq : ∀ W : World, (binOp .eql 48 (.agg #[.string x.f0, .string x.f1]) (.agg #[.string x.f0, .string x.f1])).run Try.prog W = .ok (.bool true) W := fun W => heq_S48 x.f0 x.f1 W
  go_enter Try.func48, Try.ntmps48
  go_wp2
  go_ret
  exact ⟨rfl, below_alloc (below_alloc (Below.refl _ _) _) _⟩
set_option maxHeartbeats 4000000 in
set_option maxRecDepth 100000 in
theorem same_S48_calls (A0 : Option Addr) (c0 : Nat) (l0 : List S48) (A1 : Option Addr) (c1 : Nat) (w : World)
    (hr0 : Kd.C k48 w A0 l0.length l0) (hr1 : Kd.C k48 w A1 l0.length l0) :
    Calls Try.prog 47 #[.slice A0 l0.length c0, .slice A1 l0.length c1, .func (.func 48) #[] #[]] w fun e' w' => e' = .returned (.bool true) ∧ Below w.heap.size w w' := by
  have eg : ∀ args w, (callFunc 48 args).run Try.prog w = .ok (.enter 48 args) w := enters_of Try.func48 (by kernel_rfl) rfl
  have hm0 := hr0.2.1
  have HR0 := Aside0.mk hr0
  have HR1 := Aside0.mk hr1
  clear hr0 hr1
  go_enter Try.func47, Try.ntmps47
  go_wp2
  go_loopg [7] l0.length (fun gg s7 wr => ∃ kk : Nat, kk ≤ l0.length ∧ l0.length - kk ≤ gg ∧ s7 = .int .i64 kk ∧ Aside0 (Below w.heap.size w wr))
  case atStart => exact ⟨0, Nat.zero_le _, by omega, rfl, ⟨Below.refl _ w⟩⟩
  case round =>
    obtain ⟨kk, hkk, hg, rfl, BW⟩ := hrel
    by_cases hlt : kk < l0.length
    · have hltz : (kk : Int) < (l0.length : Int) := by omega
      obtain ⟨ad0, e0, h00, h01⟩ := at_T48 (Kd.C_below HR0.out BW.out) (kk : Int) (by omega) (by omega)
      obtain ⟨ad1, e1, h10, h11⟩ := at_T48 (Kd.C_below HR1.out BW.out) (kk : Int) (by omega) (by omega)
      subst e0
      subst e1
      rw [Int.toNat_natCast] at h00 h01 h10 h11
      have HCALL := Aside0.mk (eq_S48_calls (rd_T48 l0 (kk : Int)))
      generalize rd_T48 l0 (kk : Int) = y0 at h00 h01 h10 h11 HCALL
      go_wp2_with fail
      go_still_tail 9, (by kernel_rfl)
      change wpList _ _ _ _ _ wr.drew
      go_wp2_with (go_at_fn 48; refine (HCALL.out _).mono ?_; rintro e w1 ⟨rfl, hb1⟩)
      go_roundg (l0.length - (kk + 1))
      case measure => omega
      case rel => exact ⟨kk + 1, by omega, by omega, by go_num, ⟨(below_then BW.out BW.out.size (below_step (below_drew (Below.refl _ _)) hb1))⟩⟩
    · have hltz : ¬ (kk : Int) < (l0.length : Int) := by omega
      go_wp2
      go_ret
      exact ⟨rfl, BW.out⟩

def api_Pair_20.f (l0 l1 : List S48) : Option Bool := if l0 = l1 then some true else none
theorem api_Pair_20.calls (A0 : Option Addr) (c0 : Nat) (l0 : List S48) (A1 : Option Addr) (c1 : Nat) (l1 : List S48) (r : Bool) (w : World) (hr0 : Kd.C k48 w A0 l0.length l0) (hc0 : l0.length ≤ c0) (hr1 : Kd.C k48 w A1 l1.length l1) (hc1 : l1.length ≤ c1) (h : api_Pair_20.f l0 l1 = some r) :
    Calls Try.prog 20 #[.slice A0 l0.length c0, .slice A1 l1.length c1] w fun e w' => e = .returned (.bool r) ∧ Below w.heap.size w w' := by
  unfold api_Pair_20.f at h
  by_cases hl : l0 = l1
  · rw [if_pos hl] at h
    obtain rfl := Option.some.inj h
    subst hl
    have HS := Aside0.mk (same_S48_calls A0 c0 l0 A1 c1 w hr0 hr1)
    clear h hr0 hr1 hc0 hc1
    go_enter Try.func20, Try.ntmps20
    go_wp2_with fail
    refine HS.out.mono ?_
    rintro e w1 ⟨rfl, hd⟩
    go_wp2
    go_ret
    exact ⟨rfl, hd⟩
  · rw [if_neg hl] at h; cases h

instance : DecidableEq S56 := fun a b => if h : a.f0 = b.f0 ∧ a.f1 = b.f1 then isTrue (by cases a; cases b; obtain ⟨h1, h2⟩ := h; simp only at h1 h2; rw [h1, h2]) else isFalse (by rintro rfl; exact h ⟨rfl, rfl⟩)

theorem comptoirhelp_Tag.alike (x : Int) (l : List Int) : comptoirhelp_Tag.f x l x l = some true := by
  unfold comptoirhelp_Tag.f comptoirhelp_Bytes.f
  simp
set_option maxHeartbeats 4000000 in
set_option maxRecDepth 100000 in
theorem same_S56_calls (A0 : Option Addr) (c0 : Nat) (l0 : List S56) (A1 : Option Addr) (c1 : Nat) (w : World)
    (hr0 : Kd.C k56 w A0 l0.length l0) (hr1 : Kd.C k56 w A1 l0.length l0) :
    Calls Try.prog 25 #[.slice A0 l0.length c0, .slice A1 l0.length c1, .func (.func 26) #[] #[]] w fun e' w' => e' = .returned (.bool true) ∧ Below w.heap.size w w' := by
  have eg : ∀ args w, (callFunc 26 args).run Try.prog w = .ok (.enter 26 args) w := enters_of Try.func26 (by kernel_rfl) rfl
  have hm0 := hr0.2.1
  have HR0 := Aside0.mk hr0
  have HR1 := Aside0.mk hr1
  clear hr0 hr1
  go_enter Try.func25, Try.ntmps25
  go_wp2
  go_loopg [7] l0.length (fun gg s7 wr => ∃ kk : Nat, kk ≤ l0.length ∧ l0.length - kk ≤ gg ∧ s7 = .int .i64 kk ∧ Aside0 (Below w.heap.size w wr))
  case atStart => exact ⟨0, Nat.zero_le _, by omega, rfl, ⟨Below.refl _ w⟩⟩
  case round =>
    obtain ⟨kk, hkk, hg, rfl, BW⟩ := hrel
    by_cases hlt : kk < l0.length
    · have hltz : (kk : Int) < (l0.length : Int) := by omega
      obtain ⟨ad0, B0, b0, e0, h00, h01, hl0, hi0⟩ := at_T56 (Kd.C_below HR0.out BW.out) (kk : Int) (by omega) (by omega)
      obtain ⟨ad1, B1, b1, e1, h10, h11, hl1, hi1⟩ := at_T56 (Kd.C_below HR1.out BW.out) (kk : Int) (by omega) (by omega)
      subst e0
      subst e1
      rw [Int.toNat_natCast] at h00 h01 h10 h11
      have hcall : ∀ W : World, Below wr.heap.size wr W → _ := fun W hW => comptoirhelp_Tag.calls (rd_T56 l0 (kk : Int)).f0 B0 b0 (rd_T56 l0 (kk : Int)).f1 (rd_T56 l0 (kk : Int)).f0 B1 b1 (rd_T56 l0 (kk : Int)).f1 true W (Kd.C_below hi0 hW) hl0 (Kd.C_below hi1 hW) hl1 (comptoirhelp_Tag.alike _ _)
      have HCALL := Aside0.mk hcall
      clear hcall hi0 hi1
      generalize rd_T56 l0 (kk : Int) = y0 at h00 h01 h10 h11 HCALL
      go_wp2_with fail
      go_still_tail 9, (by kernel_rfl)
      change wpList _ _ _ _ _ wr.drew
      go_wp2_with (go_at_fn 26; refine (HCALL.out _ (below_drew (Below.refl _ _))).mono ?_; rintro e w1 ⟨rfl, hb1⟩)
      go_roundg (l0.length - (kk + 1))
      case measure => omega
      case rel => exact ⟨kk + 1, by omega, by omega, by go_num, ⟨(below_then BW.out BW.out.size (below_step (below_drew (Below.refl _ _)) hb1))⟩⟩
    · have hltz : ¬ (kk : Int) < (l0.length : Int) := by omega
      go_wp2
      go_ret
      exact ⟨rfl, BW.out⟩

instance : DecidableEq S52 := fun a b => if h : a.f0 = b.f0 ∧ a.f1 = b.f1 then isTrue (by cases a; cases b; obtain ⟨h1, h2⟩ := h; simp only at h1 h2; rw [h1, h2]) else isFalse (by rintro rfl; exact h ⟨rfl, rfl⟩)

theorem comptoirhelp_Element.alike (x : Int) (l : List Int) : comptoirhelp_Element.f x l x l = some true := by
  unfold comptoirhelp_Element.f comptoirhelp_Bytes.f
  simp
set_option maxHeartbeats 4000000 in
set_option maxRecDepth 100000 in
theorem same_S52_calls (A0 : Option Addr) (c0 : Nat) (l0 : List S52) (A1 : Option Addr) (c1 : Nat) (w : World)
    (hr0 : Kd.C k52 w A0 l0.length l0) (hr1 : Kd.C k52 w A1 l0.length l0) :
    Calls Try.prog 21 #[.slice A0 l0.length c0, .slice A1 l0.length c1, .func (.func 22) #[] #[]] w fun e' w' => e' = .returned (.bool true) ∧ Below w.heap.size w w' := by
  have eg : ∀ args w, (callFunc 22 args).run Try.prog w = .ok (.enter 22 args) w := enters_of Try.func22 (by kernel_rfl) rfl
  have hm0 := hr0.2.1
  have HR0 := Aside0.mk hr0
  have HR1 := Aside0.mk hr1
  clear hr0 hr1
  go_enter Try.func21, Try.ntmps21
  go_wp2
  go_loopg [7] l0.length (fun gg s7 wr => ∃ kk : Nat, kk ≤ l0.length ∧ l0.length - kk ≤ gg ∧ s7 = .int .i64 kk ∧ Aside0 (Below w.heap.size w wr))
  case atStart => exact ⟨0, Nat.zero_le _, by omega, rfl, ⟨Below.refl _ w⟩⟩
  case round =>
    obtain ⟨kk, hkk, hg, rfl, BW⟩ := hrel
    by_cases hlt : kk < l0.length
    · have hltz : (kk : Int) < (l0.length : Int) := by omega
      obtain ⟨ad0, B0, b0, e0, h00, h01, hl0, hi0⟩ := at_T52 (Kd.C_below HR0.out BW.out) (kk : Int) (by omega) (by omega)
      obtain ⟨ad1, B1, b1, e1, h10, h11, hl1, hi1⟩ := at_T52 (Kd.C_below HR1.out BW.out) (kk : Int) (by omega) (by omega)
      subst e0
      subst e1
      rw [Int.toNat_natCast] at h00 h01 h10 h11
      have hcall : ∀ W : World, Below wr.heap.size wr W → _ := fun W hW => comptoirhelp_Element.calls (rd_T52 l0 (kk : Int)).f0 B0 b0 (rd_T52 l0 (kk : Int)).f1 (rd_T52 l0 (kk : Int)).f0 B1 b1 (rd_T52 l0 (kk : Int)).f1 true W (Kd.C_below hi0 hW) hl0 (Kd.C_below hi1 hW) hl1 (comptoirhelp_Element.alike _ _)
      have HCALL := Aside0.mk hcall
      clear hcall hi0 hi1
      generalize rd_T52 l0 (kk : Int) = y0 at h00 h01 h10 h11 HCALL
      go_wp2_with fail
      go_still_tail 9, (by kernel_rfl)
      change wpList _ _ _ _ _ wr.drew
      go_wp2_with (go_at_fn 22; refine (HCALL.out _ (below_drew (Below.refl _ _))).mono ?_; rintro e w1 ⟨rfl, hb1⟩)
      go_roundg (l0.length - (kk + 1))
      case measure => omega
      case rel => exact ⟨kk + 1, by omega, by omega, by go_num, ⟨(below_then BW.out BW.out.size (below_step (below_drew (Below.refl _ _)) hb1))⟩⟩
    · have hltz : ¬ (kk : Int) < (l0.length : Int) := by omega
      go_wp2
      go_ret
      exact ⟨rfl, BW.out⟩

end Go.Proofs.Ythapknnppabdaaa.MR
