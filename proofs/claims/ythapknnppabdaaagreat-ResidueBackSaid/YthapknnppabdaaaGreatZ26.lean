/- ResidueBack: part 26 of its proof. -/
import Derived.Test.YthapknnppabdaaaGreatZ25
import Derived.Shelf.Abstract
import Derived.StillTailTactics
import Derived.Test.YthapknnppabdaaaGreatZ02
import Derived.LoopN
namespace Go.Proofs.YthapknnppabdaaaGreat.MQ
open Go.RowKit Go.Proofs.YthapknnppabdaaaGreatW.PrintWords Go.Proofs.YthapknnppabdaaaGreatW.PrintLast Go.Proofs.YthapknnppabdaaaGreatW.PrintMore
set_option linter.unusedVariables false
set_option linter.unusedSimpArgs false
instance : DecidableEq S48 := fun a b => if h : a.f0 = b.f0 ∧ a.f1 = b.f1 then isTrue (by cases a; cases b; obtain ⟨h1, h2⟩ := h; simp only at h1 h2; rw [h1, h2]) else isFalse (by rintro rfl; exact h ⟨rfl, rfl⟩)

theorem eqA48 (d : Nat) (w : World) (x0 y0 : ByteArray) (x1 y1 : ByteArray) :
    (Op.equalIn (d + 2) 48 (.agg #[.string x0, .string x1]) (.agg #[.string y0, .string y1])).run Tryz.prog w = .ok (x0.toList == y0.toList && (x1.toList == y1.toList)) w := by
  refine eqA_of Tryz.underlying48 (by kernel_rfl) ?_
  refine eqf_cons (by rfl) (by go_simp; rfl) (by go_simp; rfl) (by go_simp) ?_
  exact eqf_last (by rfl) (by go_simp; rfl) (by go_simp; rfl) (by go_simp)
theorem heq_S48 (x y : ByteArray) (W : World) : (binOp .eql 48 (.agg #[.string x, .string y]) (.agg #[.string x, .string y])).run Tryz.prog W = .ok (.bool true) W := by
  have h := eqA48 9998 W x x y y
  simp [binOp, Op.equal, Op.maxDepth, h]

theorem eq_S48_calls (x : S48) (W : World) : Calls Tryz.prog 64 #[.agg #[.string x.f0, .string x.f1], .agg #[.string x.f0, .string x.f1]] W fun e' w' => e' = .returned (.bool true) ∧ Below W.heap.size W w' := by
  have hq : ∀ W : World, (binOp .eql 48 (.agg #[.string x.f0, .string x.f1]) (.agg #[.string x.f0, .string x.f1])).run Tryz.prog W = .ok (.bool true) W := fun W => heq_S48 x.f0 x.f1 W
  go_enter Tryz.func64, Tryz.ntmps64
  go_wp2
  go_ret
  exact ⟨rfl, below_alloc (below_alloc (Below.refl _ _) _) _⟩
set_option maxHeartbeats 4000000 in
set_option maxRecDepth 100000 in
theorem same_S48_calls (A0 : Option Addr) (c0 : Nat) (l0 : List S48) (A1 : Option Addr) (c1 : Nat) (w : World)
    (hr0 : Kd.C k48 w A0 l0.length l0) (hr1 : Kd.C k48 w A1 l0.length l0) :
    Calls Tryz.prog 63 #[.slice A0 l0.length c0, .slice A1 l0.length c1, .func (.func 64) #[] #[]] w fun e' w' => e' = .returned (.bool true) ∧ Below w.heap.size w w' := by
  have eg : ∀ args w, (callFunc 64 args).run Tryz.prog w = .ok (.enter 64 args) w := enters_of Tryz.func64 (by kernel_rfl) rfl
  have hm0 := hr0.2.1
  have HR0 := Aside0.mk hr0
  have HR1 := Aside0.mk hr1
  clear hr0 hr1
  go_enter Tryz.func63, Tryz.ntmps63
  go_wp2
  go_loopg [7] l0.length (fun gg s7 wr => ∃ kk : Nat, kk ≤ l0.length ∧ l0.length - kk ≤ gg ∧ s7 = .int .i64 kk ∧ Aside0 (Below w.heap.size w wr))
  case atStart => exact ⟨0, Nat.zero_le _, by omega, rfl, ⟨Below.refl _ w⟩⟩
  case round =>
    obtain ⟨kk, hkk, hg, rfl, BW⟩ := hrel
    by_cases hlt : kk < l0.length
    · have hltz : (kk : Int) < (l0.length : Int) := by omega
      obtain ⟨ad0, e0, h00, h01⟩ := at_T48 (Kd.C_below HR0.out BW.out) (kk : Int) (by omega) (by omega)
      obtain ⟨ad1, e1, h10, h11⟩ := at_T48 (Kd.C_below HR1.out BW.out) (kk : Int) (by omega) (by omega)
      subst e0
      subst e1
      rw [Int.toNat_natCast] at h00 h01 h10 h11
      have HCALL := Aside0.mk (eq_S48_calls (rd_T48 l0 (kk : Int)))
      generalize rd_T48 l0 (kk : Int) = y0 at h00 h01 h10 h11 HCALL
      go_wp2_with fail
      go_still_tail 9, (by kernel_rfl)
      change wpList _ _ _ _ _ wr.drew
      go_wp2_with (go_at_fn 64; refine (HCALL.out _).mono ?_; rintro e w1 ⟨rfl, hb1⟩)
      go_roundg (l0.length - (kk + 1))
      case measure => omega
      case rel => exact ⟨kk + 1, by omega, by omega, by go_num, ⟨(below_then BW.out BW.out.size (below_step (below_drew (Below.refl _ _)) hb1))⟩⟩
    · have hltz : ¬ (kk : Int) < (l0.length : Int) := by omega
      go_wp2
      go_ret
      exact ⟨rfl, BW.out⟩

def api_Pair_31.f (l0 l1 : List S48) : Option Bool := if l0 = l1 then some true else none
theorem api_Pair_31.calls (A0 : Option Addr) (c0 : Nat) (l0 : List S48) (A1 : Option Addr) (c1 : Nat) (l1 : List S48) (r : Bool) (w : World) (hr0 : Kd.C k48 w A0 l0.length l0) (hc0 : l0.length ≤ c0) (hr1 : Kd.C k48 w A1 l1.length l1) (hc1 : l1.length ≤ c1) (h : api_Pair_31.f l0 l1 = some r) :
    Calls Tryz.prog 31 #[.slice A0 l0.length c0, .slice A1 l1.length c1] w fun e w' => e = .returned (.bool r) ∧ Below w.heap.size w w' := by
  unfold api_Pair_31.f at h
  by_cases hl : l0 = l1
  · rw [if_pos hl] at h
    obtain rfl := Option.some.inj h
    subst hl
    have HS := Aside0.mk (same_S48_calls A0 c0 l0 A1 c1 w hr0 hr1)
    clear h hr0 hr1 hc0 hc1
    go_enter Tryz.func31, Tryz.ntmps31
    go_wp2_with fail
    refine HS.out.mono ?_
    rintro e w1 ⟨rfl, hd⟩
    go_wp2
    go_ret
    exact ⟨rfl, hd⟩
  · rw [if_neg hl] at h; cases h

instance : DecidableEq S46 := fun a b => if h : a.f0 = b.f0 ∧ a.f1 = b.f1 then isTrue (by cases a; cases b; obtain ⟨h1, h2⟩ := h; simp only at h1 h2; rw [h1, h2]) else isFalse (by rintro rfl; exact h ⟨rfl, rfl⟩)

theorem comptoirhelp_Tag.alike (x : Int) (l : List Int) : comptoirhelp_Tag.f x l x l = some true := by
  unfold comptoirhelp_Tag.f comptoirhelp_Bytes.f
  simp
set_option maxHeartbeats 4000000 in
set_option maxRecDepth 100000 in
theorem same_S46_calls (A0 : Option Addr) (c0 : Nat) (l0 : List S46) (A1 : Option Addr) (c1 : Nat) (w : World)
    (hr0 : Kd.C k46 w A0 l0.length l0) (hr1 : Kd.C k46 w A1 l0.length l0) :
    Calls Tryz.prog 29 #[.slice A0 l0.length c0, .slice A1 l0.length c1, .func (.func 30) #[] #[]] w fun e' w' => e' = .returned (.bool true) ∧ Below w.heap.size w w' := by
  have eg : ∀ args w, (callFunc 30 args).run Tryz.prog w = .ok (.enter 30 args) w := enters_of Tryz.func30 (by kernel_rfl) rfl
  have hm0 := hr0.2.1
  have HR0 := Aside0.mk hr0
  have HR1 := Aside0.mk hr1
  clear hr0 hr1
  go_enter Tryz.func29, Tryz.ntmps29
  go_wp2
  go_loopg [7] l0.length (fun gg s7 wr => ∃ kk : Nat, kk ≤ l0.length ∧ l0.length - kk ≤ gg ∧ s7 = .int .i64 kk ∧ Aside0 (Below w.heap.size w wr))
  case atStart => exact ⟨0, Nat.zero_le _, by omega, rfl, ⟨Below.refl _ w⟩⟩
  case round =>
    obtain ⟨kk, hkk, hg, rfl, BW⟩ := hrel
    by_cases hlt : kk < l0.length
    · have hltz : (kk : Int) < (l0.length : Int) := by omega
      obtain ⟨ad0, B0, b0, e0, h00, h01, hl0, hi0⟩ := at_T46 (Kd.C_below HR0.out BW.out) (kk : Int) (by omega) (by omega)
      obtain ⟨ad1, B1, b1, e1, h10, h11, hl1, hi1⟩ := at_T46 (Kd.C_below HR1.out BW.out) (kk : Int) (by omega) (by omega)
      subst e0
      subst e1
      rw [Int.toNat_natCast] at h00 h01 h10 h11
      have hcall : ∀ W : World, Below wr.heap.size wr W → _ := fun W hW => comptoirhelp_Tag.calls (rd_T46 l0 (kk : Int)).f0 B0 b0 (rd_T46 l0 (kk : Int)).f1 (rd_T46 l0 (kk : Int)).f0 B1 b1 (rd_T46 l0 (kk : Int)).f1 true W (Kd.C_below hi0 hW) hl0 (Kd.C_below hi1 hW) hl1 (comptoirhelp_Tag.alike _ _)
      have HCALL := Aside0.mk hcall
      clear hcall hi0 hi1
      generalize rd_T46 l0 (kk : Int) = y0 at h00 h01 h10 h11 HCALL
      go_wp2_with fail
      go_still_tail 9, (by kernel_rfl)
      change wpList _ _ _ _ _ wr.drew
      go_wp2_with (go_at_fn 30; refine (HCALL.out _ (below_drew (Below.refl _ _))).mono ?_; rintro e w1 ⟨rfl, hb1⟩)
      go_roundg (l0.length - (kk + 1))
      case measure => omega
      case rel => exact ⟨kk + 1, by omega, by omega, by go_num, ⟨(below_then BW.out BW.out.size (below_step (below_drew (Below.refl _ _)) hb1))⟩⟩
    · have hltz : ¬ (kk : Int) < (l0.length : Int) := by omega
      go_wp2
      go_ret
      exact ⟨rfl, BW.out⟩

instance : DecidableEq S50 := fun a b => if h : a.f0 = b.f0 ∧ a.f1 = b.f1 then isTrue (by cases a; cases b; obtain ⟨h1, h2⟩ := h; simp only at h1 h2; rw [h1, h2]) else isFalse (by rintro rfl; exact h ⟨rfl, rfl⟩)

theorem comptoirhelp_Element.alike (x : Int) (l : List Int) : comptoirhelp_Element.f x l x l = some true := by
  unfold comptoirhelp_Element.f comptoirhelp_Bytes.f
  simp
set_option maxHeartbeats 4000000 in
set_option maxRecDepth 100000 in
theorem same_S50_calls (A0 : Option Addr) (c0 : Nat) (l0 : List S50) (A1 : Option Addr) (c1 : Nat) (w : World)
    (hr0 : Kd.C k50 w A0 l0.length l0) (hr1 : Kd.C k50 w A1 l0.length l0) :
    Calls Tryz.prog 32 #[.slice A0 l0.length c0, .slice A1 l0.length c1, .func (.func 33) #[] #[]] w fun e' w' => e' = .returned (.bool true) ∧ Below w.heap.size w w' := by
  have eg : ∀ args w, (callFunc 33 args).run Tryz.prog w = .ok (.enter 33 args) w := enters_of Tryz.func33 (by kernel_rfl) rfl
  have hm0 := hr0.2.1
  have HR0 := Aside0.mk hr0
  have HR1 := Aside0.mk hr1
  clear hr0 hr1
  go_enter Tryz.func32, Tryz.ntmps32
  go_wp2
  go_loopg [7] l0.length (fun gg s7 wr => ∃ kk : Nat, kk ≤ l0.length ∧ l0.length - kk ≤ gg ∧ s7 = .int .i64 kk ∧ Aside0 (Below w.heap.size w wr))
  case atStart => exact ⟨0, Nat.zero_le _, by omega, rfl, ⟨Below.refl _ w⟩⟩
  case round =>
    obtain ⟨kk, hkk, hg, rfl, BW⟩ := hrel
    by_cases hlt : kk < l0.length
    · have hltz : (kk : Int) < (l0.length : Int) := by omega
      obtain ⟨ad0, B0, b0, e0, h00, h01, hl0, hi0⟩ := at_T50 (Kd.C_below HR0.out BW.out) (kk : Int) (by omega) (by omega)
      obtain ⟨ad1, B1, b1, e1, h10, h11, hl1, hi1⟩ := at_T50 (Kd.C_below HR1.out BW.out) (kk : Int) (by omega) (by omega)
      subst e0
      subst e1
      rw [Int.toNat_natCast] at h00 h01 h10 h11
      have hcall : ∀ W : World, Below wr.heap.size wr W → _ := fun W hW => comptoirhelp_Element.calls (rd_T50 l0 (kk : Int)).f0 B0 b0 (rd_T50 l0 (kk : Int)).f1 (rd_T50 l0 (kk : Int)).f0 B1 b1 (rd_T50 l0 (kk : Int)).f1 true W (Kd.C_below hi0 hW) hl0 (Kd.C_below hi1 hW) hl1 (comptoirhelp_Element.alike _ _)
      have HCALL := Aside0.mk hcall
      clear hcall hi0 hi1
      generalize rd_T50 l0 (kk : Int) = y0 at h00 h01 h10 h11 HCALL
      go_wp2_with fail
      go_still_tail 9, (by kernel_rfl)
      change wpList _ _ _ _ _ wr.drew
      go_wp2_with (go_at_fn 33; refine (HCALL.out _ (below_drew (Below.refl _ _))).mono ?_; rintro e w1 ⟨rfl, hb1⟩)
      go_roundg (l0.length - (kk + 1))
      case measure => omega
      case rel => exact ⟨kk + 1, by omega, by omega, by go_num, ⟨(below_then BW.out BW.out.size (below_step (below_drew (Below.refl _ _)) hb1))⟩⟩
    · have hltz : ¬ (kk : Int) < (l0.length : Int) := by omega
      go_wp2
      go_ret
      exact ⟨rfl, BW.out⟩

theorem eqA24 (d : Nat) (w : World) (x0 y0 : Int) (x1 y1 : ByteArray) :
    (Op.equalIn (d + 2) 24 (.agg #[.int .i64 x0, .string x1]) (.agg #[.int .i64 y0, .string y1])).run Tryz.prog w = .ok (x0 == y0 && (x1.toList == y1.toList)) w := by
  refine eqA_of Tryz.underlying24 (by kernel_rfl) ?_
  refine eqf_cons (by rfl) (by go_simp; rfl) (by go_simp; rfl) (by go_simp) ?_
  exact eqf_last (by rfl) (by go_simp; rfl) (by go_simp; rfl) (by go_simp)
theorem heqO (x : Int) (y : ByteArray) (W : World) : (binOp .eql 24 (.agg #[.int .i64 x, .string y]) (.agg #[.int .i64 x, .string y])).run Tryz.prog W = .ok (.bool true) W := by
  have h := eqA24 9998 W x x y y
  simp [binOp, Op.equal, Op.maxDepth, h]
def comptoirhelp_Message.f (a0_0 : Int) (a0_1 : Int) (a0_2 : ByteArray) (a0_3 : ByteArray) (a0_4 : ByteArray) (a0_5 : ByteArray) (a0_6 : Int) (a0_7 : ByteArray) (a0_8 : ByteArray) (a0_9 : ByteArray) (a0_10 : ByteArray) (a0_11 : Int) (a0_12 : ByteArray) (a0_13 : ByteArray) (a0_14 : Int) (a0_15 : ByteArray) (l0_16 : List (S46)) (a0_17 : ByteArray) (a0_18 : ByteArray) (l0_19 : List (S48)) (l0_20 : List (S50)) (a1_0 : Int) (a1_1 : Int) (a1_2 : ByteArray) (a1_3 : ByteArray) (a1_4 : ByteArray) (a1_5 : ByteArray) (a1_6 : Int) (a1_7 : ByteArray) (a1_8 : ByteArray) (a1_9 : ByteArray) (a1_10 : ByteArray) (a1_11 : Int) (a1_12 : ByteArray) (a1_13 : ByteArray) (a1_14 : Int) (a1_15 : ByteArray) (l1_16 : List (S46)) (a1_17 : ByteArray) (a1_18 : ByteArray) (l1_19 : List (S48)) (l1_20 : List (S50)) : Option Bool := if a0_0 = a1_0 ∧ a0_1 = a1_1 ∧ a0_2 = a1_2 ∧ a0_3 = a1_3 ∧ a0_4 = a1_4 ∧ a0_5 = a1_5 ∧ a0_6 = a1_6 ∧ a0_7 = a1_7 ∧ a0_8 = a1_8 ∧ a0_9 = a1_9 ∧ a0_10 = a1_10 ∧ a0_11 = a1_11 ∧ a0_12 = a1_12 ∧ a0_13 = a1_13 ∧ a0_14 = a1_14 ∧ a0_15 = a1_15 ∧ l0_16 = l1_16 ∧ a0_17 = a1_17 ∧ a0_18 = a1_18 ∧ l0_19 = l1_19 ∧ l0_20 = l1_20 then some true else none
set_option maxHeartbeats 8000000 in
set_option maxRecDepth 100000 in
theorem comptoirhelp_Message.calls (a0_0 : Int) (a0_1 : Int) (a0_2 : ByteArray) (a0_3 : ByteArray) (a0_4 : ByteArray) (a0_5 : ByteArray) (a0_6 : Int) (a0_7 : ByteArray) (a0_8 : ByteArray) (a0_9 : ByteArray) (a0_10 : ByteArray) (a0_11 : Int) (a0_12 : ByteArray) (a0_13 : ByteArray) (a0_14 : Int) (a0_15 : ByteArray) (A0_16 : Option Addr) (c0_16 : Nat) (l0_16 : List (S46)) (a0_17 : ByteArray) (a0_18 : ByteArray) (A0_19 : Option Addr) (c0_19 : Nat) (l0_19 : List (S48)) (A0_20 : Option Addr) (c0_20 : Nat) (l0_20 : List (S50)) (a1_0 : Int) (a1_1 : Int) (a1_2 : ByteArray) (a1_3 : ByteArray) (a1_4 : ByteArray) (a1_5 : ByteArray) (a1_6 : Int) (a1_7 : ByteArray) (a1_8 : ByteArray) (a1_9 : ByteArray) (a1_10 : ByteArray) (a1_11 : Int) (a1_12 : ByteArray) (a1_13 : ByteArray) (a1_14 : Int) (a1_15 : ByteArray) (A1_16 : Option Addr) (c1_16 : Nat) (l1_16 : List (S46)) (a1_17 : ByteArray) (a1_18 : ByteArray) (A1_19 : Option Addr) (c1_19 : Nat) (l1_19 : List (S48)) (A1_20 : Option Addr) (c1_20 : Nat) (l1_20 : List (S50)) (r : Bool) (w : World) (hr0_16 : Kd.C k46 w A0_16 l0_16.length l0_16) (hc0_16 : l0_16.length ≤ c0_16) (hr0_19 : Kd.C k48 w A0_19 l0_19.length l0_19) (hc0_19 : l0_19.length ≤ c0_19) (hr0_20 : Kd.C k50 w A0_20 l0_20.length l0_20) (hc0_20 : l0_20.length ≤ c0_20) (hr1_16 : Kd.C k46 w A1_16 l1_16.length l1_16) (hc1_16 : l1_16.length ≤ c1_16) (hr1_19 : Kd.C k48 w A1_19 l1_19.length l1_19) (hc1_19 : l1_19.length ≤ c1_19) (hr1_20 : Kd.C k50 w A1_20 l1_20.length l1_20) (hc1_20 : l1_20.length ≤ c1_20) (h : comptoirhelp_Message.f a0_0 a0_1 a0_2 a0_3 a0_4 a0_5 a0_6 a0_7 a0_8 a0_9 a0_10 a0_11 a0_12 a0_13 a0_14 a0_15 l0_16 a0_17 a0_18 l0_19 l0_20 a1_0 a1_1 a1_2 a1_3 a1_4 a1_5 a1_6 a1_7 a1_8 a1_9 a1_10 a1_11 a1_12 a1_13 a1_14 a1_15 l1_16 a1_17 a1_18 l1_19 l1_20 = some r) :
    Calls Tryz.prog 10 #[.agg #[.int .i64 a0_0, .int .i64 a0_1, .string a0_2, .string a0_3, .string a0_4, .string a0_5, .int .u64 a0_6, .string a0_7, .string a0_8, .string a0_9, .string a0_10, .int .i64 a0_11, .string a0_12, .string a0_13, .int .i64 a0_14, .string a0_15, .slice A0_16 l0_16.length c0_16, .string a0_17, .string a0_18, .slice A0_19 l0_19.length c0_19, .slice A0_20 l0_20.length c0_20], .agg #[.int .i64 a1_0, .int .i64 a1_1, .string a1_2, .string a1_3, .string a1_4, .string a1_5, .int .u64 a1_6, .string a1_7, .string a1_8, .string a1_9, .string a1_10, .int .i64 a1_11, .string a1_12, .string a1_13, .int .i64 a1_14, .string a1_15, .slice A1_16 l1_16.length c1_16, .string a1_17, .string a1_18, .slice A1_19 l1_19.length c1_19, .slice A1_20 l1_20.length c1_20]] w fun e w' => e = .returned (.bool r) ∧ Below w.heap.size w w' := by
  unfold comptoirhelp_Message.f at h
  by_cases hl : a0_0 = a1_0 ∧ a0_1 = a1_1 ∧ a0_2 = a1_2 ∧ a0_3 = a1_3 ∧ a0_4 = a1_4 ∧ a0_5 = a1_5 ∧ a0_6 = a1_6 ∧ a0_7 = a1_7 ∧ a0_8 = a1_8 ∧ a0_9 = a1_9 ∧ a0_10 = a1_10 ∧ a0_11 = a1_11 ∧ a0_12 = a1_12 ∧ a0_13 = a1_13 ∧ a0_14 = a1_14 ∧ a0_15 = a1_15 ∧ l0_16 = l1_16 ∧ a0_17 = a1_17 ∧ a0_18 = a1_18 ∧ l0_19 = l1_19 ∧ l0_20 = l1_20
  · rw [if_pos hl] at h
    obtain rfl := Option.some.inj h
    obtain ⟨rfl, rfl, rfl, rfl, rfl, rfl, rfl, rfl, rfl, rfl, rfl, rfl, rfl, rfl, rfl, rfl, rfl, rfl, rfl, rfl, rfl⟩ := hl
    have HR0_16 := Aside0.mk hr0_16
    have HR0_19 := Aside0.mk hr0_19
    have HR0_20 := Aside0.mk hr0_20
    have HR1_16 := Aside0.mk hr1_16
    have HR1_19 := Aside0.mk hr1_19
    have HR1_20 := Aside0.mk hr1_20
    clear h hr0_16 hc0_16 hr0_19 hr0_20 hc0_20 hr1_16 hc1_16 hr1_19 hr1_20 hc1_20
    have hu0 := Tryz.underlying29
    have hor := heqO a0_14 a0_15
    have K0 := Aside0.mk (blk_alloc (blk_new w (.cells #[.int .i64 a0_0, .int .i64 a0_1, .string a0_2, .string a0_3, .string a0_4, .string a0_5, .int .u64 a0_6, .string a0_7, .string a0_8, .string a0_9, .string a0_10, .int .i64 a0_11, .string a0_12, .string a0_13, .int .i64 a0_14, .string a0_15, .slice A0_16 l0_16.length c0_16, .string a0_17, .string a0_18, .slice A0_19 l0_19.length c0_19, .slice A0_20 l0_20.length c0_20] 29 (0, 0))) (.cells #[.int .i64 a0_0, .int .i64 a0_1, .string a0_2, .string a0_3, .string a0_4, .string a0_5, .int .u64 a0_6, .string a0_7, .string a0_8, .string a0_9, .string a0_10, .int .i64 a0_11, .string a0_12, .string a0_13, .int .i64 a0_14, .string a0_15, .slice A1_16 l0_16.length c1_16, .string a0_17, .string a0_18, .slice A1_19 l0_19.length c1_19, .slice A1_20 l0_20.length c1_20] 29 (0, 0)))
    have K1 : Aside0 (((w.alloc (.cells #[.int .i64 a0_0, .int .i64 a0_1, .string a0_2, .string a0_3, .string a0_4, .string a0_5, .int .u64 a0_6, .string a0_7, .string a0_8, .string a0_9, .string a0_10, .int .i64 a0_11, .string a0_12, .string a0_13, .int .i64 a0_14, .string a0_15, .slice A0_16 l0_16.length c0_16, .string a0_17, .string a0_18, .slice A0_19 l0_19.length c0_19, .slice A0_20 l0_20.length c0_20] 29 (0, 0))).alloc (.cells #[.int .i64 a0_0, .int .i64 a0_1, .string a0_2, .string a0_3, .string a0_4, .string a0_5, .int .u64 a0_6, .string a0_7, .string a0_8, .string a0_9, .string a0_10, .int .i64 a0_11, .string a0_12, .string a0_13, .int .i64 a0_14, .string a0_15, .slice A1_16 l0_16.length c1_16, .string a0_17, .string a0_18, .slice A1_19 l0_19.length c1_19, .slice A1_20 l0_20.length c1_20] 29 (0, 0))).heap[w.heap.size + 1]? = some (.cells #[.int .i64 a0_0, .int .i64 a0_1, .string a0_2, .string a0_3, .string a0_4, .string a0_5, .int .u64 a0_6, .string a0_7, .string a0_8, .string a0_9, .string a0_10, .int .i64 a0_11, .string a0_12, .string a0_13, .int .i64 a0_14, .string a0_15, .slice A1_16 l0_16.length c1_16, .string a0_17, .string a0_18, .slice A1_19 l0_19.length c1_19, .slice A1_20 l0_20.length c1_20] 29 (0, 0))) := ⟨by have h := blk_new (w.alloc (.cells #[.int .i64 a0_0, .int .i64 a0_1, .string a0_2, .string a0_3, .string a0_4, .string a0_5, .int .u64 a0_6, .string a0_7, .string a0_8, .string a0_9, .string a0_10, .int .i64 a0_11, .string a0_12, .string a0_13, .int .i64 a0_14, .string a0_15, .slice A0_16 l0_16.length c0_16, .string a0_17, .string a0_18, .slice A0_19 l0_19.length c0_19, .slice A0_20 l0_20.length c0_20] 29 (0, 0))) (.cells #[.int .i64 a0_0, .int .i64 a0_1, .string a0_2, .string a0_3, .string a0_4, .string a0_5, .int .u64 a0_6, .string a0_7, .string a0_8, .string a0_9, .string a0_10, .int .i64 a0_11, .string a0_12, .string a0_13, .int .i64 a0_14, .string a0_15, .slice A1_16 l0_16.length c1_16, .string a0_17, .string a0_18, .slice A1_19 l0_19.length c1_19, .slice A1_20 l0_20.length c1_20] 29 (0, 0)); rwa [show (w.alloc (.cells #[.int .i64 a0_0, .int .i64 a0_1, .string a0_2, .string a0_3, .string a0_4, .string a0_5, .int .u64 a0_6, .string a0_7, .string a0_8, .string a0_9, .string a0_10, .int .i64 a0_11, .string a0_12, .string a0_13, .int .i64 a0_14, .string a0_15, .slice A0_16 l0_16.length c0_16, .string a0_17, .string a0_18, .slice A0_19 l0_19.length c0_19, .slice A0_20 l0_20.length c0_20] 29 (0, 0))).heap.size = w.heap.size + 1 from by simp] at h⟩
    go_enter Tryz.func10, Tryz.ntmps10
    go_wp2_with (first | (go_at_call 29; refine (same_S46_calls _ _ l0_16 _ _ _ (Kd.C_below HR0_16.out (below_alloc (below_alloc (Below.refl _ _) _) _)) (Kd.C_below HR1_16.out (below_alloc (below_alloc (Below.refl _ _) _) _))).mono ?_; rintro e w0 ⟨rfl, hb0⟩; have K0_0 := Aside0.mk (blk_below K0.out hb0); have K1_0 := Aside0.mk (blk_below K1.out hb0); have y0_0 := (blk_cell K0_0.out 19).trans rfl; have y1_0 := (blk_cell K1_0.out 19).trans rfl) | (go_at_call 31; refine (api_Pair_31.calls _ _ l0_19 _ _ l0_19 true _ (Kd.C_below HR0_19.out (below_step (below_alloc (below_alloc (Below.refl _ _) _) _) hb0)) (by assumption) (Kd.C_below HR1_19.out (below_step (below_alloc (below_alloc (Below.refl _ _) _) _) hb0)) (by assumption) (if_pos rfl)).mono ?_; rintro e w1 ⟨rfl, hb1⟩; have K0_1 := Aside0.mk (blk_below K0_0.out hb1); have K1_1 := Aside0.mk (blk_below K1_0.out hb1); have y0_1 := (blk_cell K0_1.out 20).trans rfl; have y1_1 := (blk_cell K1_1.out 20).trans rfl) | (go_at_call 32; refine (same_S50_calls _ _ l0_20 _ _ _ (Kd.C_below HR0_20.out (below_step (below_step (below_alloc (below_alloc (Below.refl _ _) _) _) hb0) hb1)) (Kd.C_below HR1_20.out (below_step (below_step (below_alloc (below_alloc (Below.refl _ _) _) _) hb0) hb1))).mono ?_; rintro e w2 ⟨rfl, hb2⟩))
    go_ret
    exact ⟨rfl, (below_step (below_step (below_step (below_alloc (below_alloc (Below.refl _ _) _) _) hb0) hb1) hb2)⟩
  · rw [if_neg hl] at h; cases h

set_option maxHeartbeats 16000000 in
set_option maxRecDepth 100000 in
theorem small_any (x : S29) (mc : Array Value) (w : World) (h : k29.K w x mc.toList) (hr : ReachL x) : Calls Tryz.prog 4 #[.agg mc] w (OutB (fun _ => True) w) := by
  obtain ⟨A16, c16, A19, c19, A20, c20, e, l16, g16, l19, g19, l20, g20⟩ := k29_open h
  have em : mc = rowM x (.slice A16 x.f15.length c16) (.slice A19 x.f18.length c19) (.slice A20 x.f19.length c20) := Array.toList_inj.1 e
  have HMC := Aside0.mk em
  have HG := Aside0.mk (And.intro g16 (And.intro g19 g20))
  have HR := Aside0.mk hr
  have hu24 := Tryz.underlying24
  clear h hr e em l16 l19 l20 g16 g19 g20
  go_enter Tryz.func4, Tryz.ntmps4
  go_upto_region 1 with fail
  try simp only [List.append_eq, List.cons_append, List.nil_append]
  obtain ⟨p, hp⟩ : ∃ p, p = w.heap.size := ⟨_, rfl⟩
  have J0 : (w.alloc (.cells mc 29)).heap[w.heap.size]? = some (.cells mc 29 (0, 0)) ∧ Below w.heap.size w (w.alloc (.cells mc 29)) := ⟨blk_new w _, below_alloc (Below.refl _ w) _⟩
  rw [← hp] at J0 ⊢
  revert J0
  generalize w.alloc (.cells mc 29) = w0
  intro J0
  have BW := Aside0.mk (show Below w.heap.size w w0 by rw [← hp]; exact J0.2)
  have MB : Aside0 (∀ W, Below w0.heap.size w0 W → W.heap[p]? = some (.cells (rowM x (.slice A16 x.f15.length c16) (.slice A19 x.f18.length c19) (.slice A20 x.f19.length c20)) 29 (0, 0))) := ⟨fun W hW => by rw [← HMC.out]; exact blk_below J0.1 hW⟩
  have GB : Aside0 (k46.C w0 A16 x.f15.length x.f15 ∧ k48.C w0 A19 x.f18.length x.f18 ∧ k50.C w0 A20 x.f19.length x.f19) := ⟨Kd.C_below HG.out.1 BW.out, Kd.C_below HG.out.2.1 BW.out, Kd.C_below HG.out.2.2 BW.out⟩
  have B0 := Aside0.mk (Below.refl w0.heap.size w0)
  clear J0 hp
  have q2 := (blk_cell (MB.out _ B0.out) 2).trans (show _ = some (Value.string x.f2) from rfl)
  have q3 := (blk_cell (MB.out _ B0.out) 3).trans (show _ = some (Value.string x.f3) from rfl)
  have q4 := (blk_cell (MB.out _ B0.out) 4).trans (show _ = some (Value.string x.f4) from rfl)
  have q5 := (blk_cell (MB.out _ B0.out) 5).trans (show _ = some (Value.string x.f5) from rfl)
  have q7 := (blk_cell (MB.out _ B0.out) 7).trans (show _ = some (Value.string x.f7) from rfl)
  have q8 := (blk_cell (MB.out _ B0.out) 8).trans (show _ = some (Value.string x.f8) from rfl)
  have q9 := (blk_cell (MB.out _ B0.out) 9).trans (show _ = some (Value.string x.f9) from rfl)
  have q10 := (blk_cell (MB.out _ B0.out) 10).trans (show _ = some (Value.string x.f10) from rfl)
  have q12 := (blk_cell (MB.out _ B0.out) 12).trans (show _ = some (Value.string x.f12) from rfl)
  have q13 := (blk_cell (MB.out _ B0.out) 13).trans (show _ = some (Value.string x.f13) from rfl)
  have q15 := (blk_cell (MB.out _ B0.out) 15).trans (show _ = some (Value.string x.f14.f1) from rfl)
  have q17 := (blk_cell (MB.out _ B0.out) 17).trans (show _ = some (Value.string x.f16) from rfl)
  have q18 := (blk_cell (MB.out _ B0.out) 18).trans (show _ = some (Value.string x.f17) from rfl)
  go_wp2_with fail
  go_loopg [3, 4] x.f15.length (fun gg s3 s4 wr => ∃ (k : Nat) (n : Int), k ≤ x.f15.length ∧ x.f15.length - k ≤ gg ∧ s3 = .int .i64 n ∧ s4 = .int .i64 k ∧ Aside0 (Below w0.heap.size w0 wr))
  case atStart => exact ⟨0, _, by omega, by omega, rfl, rfl, B0⟩
  case round =>
    clear B0 q2 q3 q4 q5 q7 q8 q9 q10 q12 q13 q15 q17 q18
    obtain ⟨k, n, hk, hg, rfl, rfl, BR⟩ := hrel
    have ek : wrap64 ((k : Int) + 1) = ((k + 1 : Nat) : Int) := by have := HR.out.h15; unfold wrap64; omega
    have EK := Aside0.mk ek; clear ek
    have c16' : wr.cell? ⟨p, 16, none⟩ = some (.slice A16 x.f15.length c16) := (blk_cell (MB.out _ BR.out) 16).trans rfl
    by_cases hlt : k < x.f15.length
    · have hltz : (k : Int) < (x.f15.length : Int) := by omega
      obtain ⟨ad, A1, d1, eA, a0, a1, -, -⟩ := at_T46 (Kd.C_below GB.out.1 BR.out) (k : Int) (by omega) (by omega)
      subst eA
      rw [Int.toNat_natCast] at a0 a1
      generalize (rd_T46 x.f15 (k : Int)).f1.length = m at a1
      go_wp2_with fail
      go_roundg (x.f15.length - (k + 1))
      case measure => omega
      case rel => exact ⟨k + 1, _, by omega, Nat.le_refl _, rfl, by rw [EK.out], BR⟩
    · have hltz : ¬ (k : Int) < (x.f15.length : Int) := by omega
      go_wp2_with fail
      clear c16' hlt hltz hk hg EK
      go_loopg [3, 5] x.f18.length (fun gg s3 s5 wr => ∃ (k : Nat) (n : Int), k ≤ x.f18.length ∧ x.f18.length - k ≤ gg ∧ s3 = .int .i64 n ∧ s5 = .int .i64 k ∧ Aside0 (Below w0.heap.size w0 wr))
      case atStart => exact ⟨0, _, by omega, by omega, rfl, rfl, BR⟩
      case round =>
        clear BR
        obtain ⟨k, n, hk, hg, rfl, rfl, BR⟩ := hrel
        have ek : wrap64 ((k : Int) + 1) = ((k + 1 : Nat) : Int) := by have := HR.out.h18; unfold wrap64; omega
        have EK := Aside0.mk ek; clear ek
        have c19' : wr.cell? ⟨p, 19, none⟩ = some (.slice A19 x.f18.length c19) := (blk_cell (MB.out _ BR.out) 19).trans rfl
        by_cases hlt : k < x.f18.length
        · have hltz : (k : Int) < (x.f18.length : Int) := by omega
          obtain ⟨ad, eA, a0, a1⟩ := at_T48 (Kd.C_below GB.out.2.1 BR.out) (k : Int) (by omega) (by omega)
          subst eA
          rw [Int.toNat_natCast] at a0 a1
          generalize (rd_T48 x.f18 (k : Int)).f0 = t0 at a0
          generalize (rd_T48 x.f18 (k : Int)).f1 = t1 at a1
          go_wp2_with fail
          repeat (go_quiet (fail))
          have BQ := Aside0.mk (pw_below_drewN BR.out nq)
          generalize wr.drewN nq = W at BQ ⊢
          go_wp2_with fail
          go_roundg (x.f18.length - (k + 1))
          case measure => omega
          case rel => exact ⟨k + 1, _, by omega, Nat.le_refl _, rfl, by rw [EK.out], BQ⟩
        · have hltz : ¬ (k : Int) < (x.f18.length : Int) := by omega
          go_wp2_with fail
          clear c19' hlt hltz hk hg EK
          go_loopg [3, 6] x.f19.length (fun gg s3 s6 wr => ∃ (k : Nat) (n : Int), k ≤ x.f19.length ∧ x.f19.length - k ≤ gg ∧ s3 = .int .i64 n ∧ s6 = .int .i64 k ∧ Aside0 (Below w0.heap.size w0 wr))
          case atStart => exact ⟨0, _, by omega, by omega, rfl, rfl, BR⟩
          case round =>
            clear BR
            obtain ⟨k, n, hk, hg, rfl, rfl, BR⟩ := hrel
            have ek : wrap64 ((k : Int) + 1) = ((k + 1 : Nat) : Int) := by have := HR.out.h19; unfold wrap64; omega
            have EK := Aside0.mk ek; clear ek
            have c20' : wr.cell? ⟨p, 20, none⟩ = some (.slice A20 x.f19.length c20) := (blk_cell (MB.out _ BR.out) 20).trans rfl
            by_cases hlt : k < x.f19.length
            · have hltz : (k : Int) < (x.f19.length : Int) := by omega
              obtain ⟨ad, A1, d1, eA, a0, a1, -, -⟩ := at_T50 (Kd.C_below GB.out.2.2 BR.out) (k : Int) (by omega) (by omega)
              subst eA
              rw [Int.toNat_natCast] at a0 a1
              generalize (rd_T50 x.f19 (k : Int)).f1.length = m at a1
              go_wp2_with fail
              go_roundg (x.f19.length - (k + 1))
              case measure => omega
              case rel => exact ⟨k + 1, _, by omega, Nat.le_refl _, rfl, by rw [EK.out], BR⟩
            · have hltz : ¬ (k : Int) < (x.f19.length : Int) := by omega
              have BE := Aside0.mk (below_step BW.out BR.out)
              go_wp2_with fail
              go_ret
              exact ⟨_, rfl, trivial, BE.out⟩
theorem side_x (v : Int) (w : World) : Calls Tryz.prog 6 #[.int .i64 v] w (OutI (InMod 2) w) := by
  go_enter Tryz.func6, Tryz.ntmps6
  go_wp2_with fail
  refine (mod_x v 2 _ (by decide) (by decide)).mono ?_
  rintro e w1 ⟨r, rfl, hr, hB⟩
  have HR := Aside0.mk (And.intro hr hB)
  clear hr hB
  go_wp2_with fail
  go_ret
  exact ⟨r, rfl, HR.out.1, HR.out.2⟩
/-- A message is the same as itself. -/
theorem same_x (x : S29) (mc nc : Array Value) (w : World) (h : k29.K w x mc.toList) (g : k29.K w x nc.toList) : Calls Tryz.prog 10 #[.agg mc, .agg nc] w fun e w' => e = .returned (.bool true) ∧ Below w.heap.size w w' := by
  obtain ⟨A16, c16, A19, c19, A20, c20, e, l16, g16, l19, g19, l20, g20⟩ := k29_open h
  obtain ⟨B16, d16, B19, d19, B20, d20, e', m16, n16, m19, n19, m20, n20⟩ := k29_open g
  have em : mc = _ := Array.toList_inj.1 e
  have en : nc = _ := Array.toList_inj.1 e'
  rw [em, en]
  exact comptoirhelp_Message.calls x.f0 x.f1 x.f2 x.f3 x.f4 x.f5 x.f6 x.f7 x.f8 x.f9 x.f10 x.f11 x.f12 x.f13 x.f14.f0 x.f14.f1 A16 c16 x.f15 x.f16 x.f17 A19 c19 x.f18 A20 c20 x.f19 x.f0 x.f1 x.f2 x.f3 x.f4 x.f5 x.f6 x.f7 x.f8 x.f9 x.f10 x.f11 x.f12 x.f13 x.f14.f0 x.f14.f1 B16 d16 x.f15 x.f16 x.f17 B19 d19 x.f18 B20 d20 x.f19 true w g16 l16 g19 l19 g20 l20 n16 m16 n19 m19 n20 m20 (by unfold comptoirhelp_Message.f; rw [if_pos (by simp)])
def residue_Empty.f (a0_0 a0_1 a0_2 : ByteArray) (l0_3 : List S48) (l0_4 : List S50) : Option Bool :=
  if a0_0.size + a0_1.size + a0_2.size + l0_3.length + l0_4.length ≤ 9223372036854775807 then some (decide (a0_0.size + a0_1.size + a0_2.size + l0_3.length + l0_4.length = 0)) else none
theorem small_wrap (n : Nat) (h : n ≤ 9223372036854775807) : wrap64 (n : Int) = (n : Int) := by
  unfold wrap64
  omega
theorem sum_is (a b c d e : Nat) (h : a + b + c + d + e ≤ 9223372036854775807) : (wrap64 (wrap64 (wrap64 (wrap64 ((a : Int) + (b : Int) + (c : Int))) + (d : Int)) + (e : Int)) == 0) = decide (a + b + c + d + e = 0) := by
  have e1 : (a : Int) + (b : Int) + (c : Int) = ((a + b + c : Nat) : Int) := by omega
  have e2 : ((a + b + c : Nat) : Int) + (d : Int) = ((a + b + c + d : Nat) : Int) := by omega
  have e3 : ((a + b + c + d : Nat) : Int) + (e : Int) = ((a + b + c + d + e : Nat) : Int) := by omega
  rw [e1, small_wrap _ (by omega), small_wrap _ (by omega), e2, small_wrap _ (by omega), e3, small_wrap _ h, Bool.eq_iff_iff, beq_iff_eq, decide_eq_true_eq]
  omega
set_option maxHeartbeats 4000000 in
set_option maxRecDepth 100000 in
theorem residue_Empty.calls (a0_0 a0_1 a0_2 : ByteArray) (A0_3 : Option Addr) (c0_3 : Nat) (l0_3 : List S48) (A0_4 : Option Addr) (c0_4 : Nat) (l0_4 : List S50) (r : Bool) (w : World) (hr0_3 : Kd.C k48 w A0_3 l0_3.length l0_3) (hc0_3 : l0_3.length ≤ c0_3) (hr0_4 : Kd.C k50 w A0_4 l0_4.length l0_4) (hc0_4 : l0_4.length ≤ c0_4) (h : residue_Empty.f a0_0 a0_1 a0_2 l0_3 l0_4 = some r) :
    Calls Tryz.prog 12 #[.agg #[.string a0_0, .string a0_1, .string a0_2, .slice A0_3 l0_3.length c0_3, .slice A0_4 l0_4.length c0_4]] w fun e w' => e = .returned (.bool r) ∧ Below w.heap.size w w' := by
  unfold residue_Empty.f at h
  by_cases hs : a0_0.size + a0_1.size + a0_2.size + l0_3.length + l0_4.length ≤ 9223372036854775807
  · rw [if_pos hs] at h
    have h := Option.some.inj h
    have e34 : ∀ args w, (callFunc 40 args).run Tryz.prog w = .ok (.enter 40 args) w := enters_of Tryz.func40 (by kernel_rfl) rfl
    have e29 : ∀ args w, (callFunc 36 args).run Tryz.prog w = .ok (.enter 36 args) w := enters_of Tryz.func36 (by kernel_rfl) rfl
    have e31 : ∀ args w, (callFunc 38 args).run Tryz.prog w = .ok (.enter 38 args) w := enters_of Tryz.func38 (by kernel_rfl) rfl
    have z1 : wrap64 ((a0_0.size : Int) + (a0_1.size : Int)) = ((a0_0.size + a0_1.size : Nat) : Int) := by unfold wrap64; omega
    have z2 : wrap64 (((a0_0.size + a0_1.size : Nat) : Int) + (a0_2.size : Int)) = ((a0_0.size + a0_1.size + a0_2.size : Nat) : Int) := by unfold wrap64; omega
    clear hr0_3 hr0_4 hc0_3 hc0_4
    have HS := Aside0.mk hs
    have HH := Aside0.mk h
    clear hs h
    go_enter Tryz.func12, Tryz.ntmps12
    go_wp2
    refine wp_loop_rounds 4 ?_
    rw [rounds_succ]
    go_wp2
    rw [rounds_succ]
    go_wp2
    rw [rounds_succ]
    go_wp2
    rw [rounds_succ]
    go_wp2
    go_ret
    have hv := (sum_is a0_0.size a0_1.size a0_2.size l0_3.length l0_4.length HS.out).trans HH.out
    exact ⟨by rw [hv]; rfl, below_alloc (below_alloc (below_alloc (below_alloc (below_alloc (Below.refl _ _) _) _) _) _) _⟩
  · rw [if_neg hs] at h; cases h
def noteM : S29 := ⟨0, 0, ⟨#[]⟩, ⟨#[]⟩, ⟨#[]⟩, ⟨#[]⟩, 0, ⟨#[]⟩, ⟨#[]⟩, ⟨#[]⟩, ⟨#[]⟩, 0, ⟨#[]⟩, ⟨#[]⟩, ⟨0, ⟨#[]⟩⟩, [], ⟨#[]⟩, ⟨#[110]⟩, [], []⟩
theorem nil_C {α : Type} (d : Kd α) (w : World) : d.C w none 0 [] := ⟨rfl, by omega, fun h => absurd h (by omega)⟩
theorem noteM_K (w : World) : k29.K w noteM (rowM noteM (.slice none 0 0) (.slice none 0 0) (.slice none 0 0)).toList := k29_mk w noteM (Nat.le_refl _) (nil_C _ _) (Nat.le_refl _) (nil_C _ _) (Nat.le_refl _) (nil_C _ _)
theorem noteM_R : ReachL noteM := ⟨by decide, by simp [noteM], by decide, by decide, by simp [noteM]⟩
theorem nil_text : (⟨#[]⟩ : ByteArray).toList = [] := by rw [ByteArray.toList_eq]
theorem note_a : ({ noteM with f17 := ⟨#[]⟩, f18 := [], f8 := labF noteM.f8 15, f9 := labF noteM.f9 8 } : S29) = { noteM with f17 := ⟨#[]⟩ } := by
  have e : ∀ n, labF ⟨#[]⟩ n = ⟨#[]⟩ := fun n => by unfold labF; rw [if_pos nil_text]
  show ({ noteM with f17 := ⟨#[]⟩, f18 := [], f8 := labF ⟨#[]⟩ 15, f9 := labF ⟨#[]⟩ 8 } : S29) = _
  rw [e, e]; rfl
theorem note_r : (⟨noteM.f17, outF noteM.f8 15, outF noteM.f9 8, noteM.f18, []⟩ : S35) = ⟨⟨#[110]⟩, ⟨#[]⟩, ⟨#[]⟩, [], []⟩ := by
  have e : ∀ n, outF ⟨#[]⟩ n = ⟨#[]⟩ := fun n => by unfold outF; rw [if_pos nil_text]
  show (⟨⟨#[110]⟩, outF ⟨#[]⟩ 15, outF ⟨#[]⟩ 8, [], []⟩ : S35) = _
  rw [e, e]
def emptyB (y : S35) : Bool := decide (y.f0.size + y.f1.size + y.f2.size + y.f3.length + y.f4.length = 0)
theorem empty12_x (y : S35) (rc : Array Value) (w : World) (h : k35.K w y rc.toList) (hs : y.f0.size + y.f1.size + y.f2.size + y.f3.length + y.f4.length ≤ 9223372036854775807) : Calls Tryz.prog 12 #[.agg rc] w fun e w' => e = .returned (.bool (emptyB y)) ∧ Below w.heap.size w w' := by
  obtain ⟨A3, c3, A4, c4, e, l3, g3, l4, g4⟩ := k35_open h
  have em : rc = _ := Array.toList_inj.1 e
  rw [em]
  exact residue_Empty.calls y.f0 y.f1 y.f2 A3 c3 y.f3 A4 c4 y.f4 _ w g3 l3 g4 l4 (by unfold residue_Empty.f; rw [if_pos hs]; rfl)
theorem blk_one (w : World) (v v' : Obj) : ((w.alloc v).alloc v').heap[w.heap.size]? = some v := blk_alloc (blk_new w v) v'
set_option maxHeartbeats 8000000 in
set_option maxRecDepth 100000 in
theorem awake_x (w : World) : Calls Tryz.prog 5 #[] w fun e w' => e = .returned (.bool true) ∧ Below w.heap.size w w' := by
  have hu29 := Aside0.mk Tryz.underlying29
  have hu35 := Aside0.mk Tryz.underlying35
  have HSP := Aside0.mk (split1_x noteM (rowM noteM (.slice none 0 0) (.slice none 0 0) (.slice none 0 0)) w (noteM_K w) noteM_R (by decide) (by decide))
  go_enter Tryz.func5, Tryz.ntmps5
  go_wp2_with fail
  refine HSP.out.mono ?_
  rintro e w1 ⟨nc, rc, rfl, hK, hR, hB⟩
  rw [note_a] at hK
  rw [note_r] at hR
  have h21 : nc.size = 21 := by obtain ⟨_, _, _, _, _, _, e, _⟩ := k29_open hK; rw [← Array.length_toList, e]; rfl
  have h5 : rc.size = 5 := by obtain ⟨_, _, _, _, e, _⟩ := k35_open hR; rw [← Array.length_toList, e]; rfl
  have hi29 : (Tryz.prog.info? 29).map (·.size) = some nc.size := by rw [h21]; kernel_rfl
  have hi31 : (Tryz.prog.info? 35).map (·.size) = some rc.size := by rw [h5]; kernel_rfl
  have hone : nc.all (·.oneCell') = true := by
    rw [Array.all_eq_true]
    intro i hlt
    exact k29.K_one hK _ (by rw [Array.mem_toList_iff]; exact Array.getElem_mem hlt)
  have hone' : rc.all (·.oneCell') = true := by
    rw [Array.all_eq_true]
    intro i hlt
    exact k35.K_one hR _ (by rw [Array.mem_toList_iff]; exact Array.getElem_mem hlt)
  have HN := Aside0.mk (And.intro h21 (And.intro h5 (And.intro hi29 (And.intro hi31 (And.intro hone hone')))))
  have HK := Aside0.mk (And.intro hK (And.intro hR hB))
  clear h21 h5 hK hR hB hi29 hi31 hone hone'
  go_upto_region 2 with (first | ((with_reducible refine gate_store (t := 29) (p := 1) rfl ?_); refine Go.Proofs.YthapknnppabdaaaGreat.Fill.store_event rfl 29 _ _ rfl w1.heap.size nc rfl rfl 29 _ (blk_one w1 _ _) HN.out.2.2.1 (by rw [HN.out.1]; rfl) HN.out.2.2.2.2.1 ?_; intro w2 ea eb ec; have HE := Aside0.mk (And.intro ea (And.intro eb ec)); clear ea eb ec) | ((with_reducible refine gate_store (t := 35) (p := 2) rfl ?_); refine Go.Proofs.YthapknnppabdaaaGreat.Fill.store_event rfl 35 _ _ rfl (w1.heap.size + 1) rc rfl rfl 35 _ (KeepBut.blk HE.out.2.1 (blk_new2 w1 _ _) (by omega) (by simp)) HN.out.2.2.2.1 (by rw [HN.out.2.1]; rfl) HN.out.2.2.2.2.2 ?_; intro w3 ea eb ec; have HG := Aside0.mk (And.intro ea (And.intro eb ec)); clear ea eb ec))
  have hb29 := KeepBut.blk HG.out.2.1 HE.out.1 (by omega) (by simp)
  have hbel := HG.out.2.2 _ _ (HE.out.2.2 _ _ (below_alloc (below_alloc (Below.refl w1.heap.size w1) _) _) (Nat.le_refl _)) (by omega)
  obtain ⟨q, hq⟩ : ∃ q, q = w1.heap.size := ⟨_, rfl⟩
  have HBK := Aside0.mk (And.intro hb29 (And.intro HG.out.1 (And.intro (k29.K_below hbel HK.out.1) (And.intro (k35.K_below hbel HK.out.2.1) (below_step HK.out.2.2 hbel)))))
  rw [← hq] at HBK ⊢
  clear hq hb29 hbel HE HG HK
  obtain ⟨A16, c16, A19, c19, A20, c20, e, l16, g16, l19, g19, l20, g20⟩ := k29_open HBK.out.2.2.1
  obtain ⟨A3, c3, A4, c4, e', l3, g3, l4, g4⟩ := k35_open HBK.out.2.2.2.1
  have em : nc = _ := Array.toList_inj.1 e
  have er : rc = _ := Array.toList_inj.1 e'
  have d18 : w3.cell? ⟨q, 18, none⟩ = some (.string ⟨#[]⟩) := (blk_cell HBK.out.1 18).trans (by rw [em]; rfl)
  have d0 : w3.cell? ⟨q + 1, 0, none⟩ = some (.string ⟨#[110]⟩) := (blk_cell HBK.out.2.1 0).trans (by rw [er]; rfl)
  clear e e' em er l16 g16 l19 g19 l20 g20 l3 g3 l4 g4
  have HEM : Aside0 (Calls Tryz.prog 12 #[.agg rc] w3 fun e w' => e = .returned (.bool false) ∧ Below w3.heap.size w3 w') := ⟨empty12_x _ rc w3 HBK.out.2.2.2.1 (by decide)⟩
  go_wp2_with ((with_reducible refine gate_dst (N := 17) rfl ?_); (try (refine gate_guard (by rfl) ?_; dsimp only)); refine wpList_load_row rfl 35 (.tmp 2) rfl (q + 1) rfl 35 rc (0, 0) _ HBK.out.2.1 hu35.out rfl HN.out.2.2.2.1 ?_)
  refine HEM.out.mono ?_
  rintro e w4 ⟨rfl, hB⟩
  have HB4 := Aside0.mk (And.intro (blk_below HBK.out.1 hB) (And.intro (blk_below HBK.out.2.1 hB) (And.intro (k29.K_below hB HBK.out.2.2.1) (And.intro (k35.K_below hB HBK.out.2.2.2.1) (below_step HBK.out.2.2.2.2 hB)))))
  clear hB d18 d0 HEM HBK
  go_wp2_with (first | ((with_reducible refine gate_dst (N := 22) rfl ?_); (try (refine gate_guard (by rfl) ?_; dsimp only)); refine wpList_load_row rfl 29 (.tmp 1) rfl q rfl 29 nc (0, 0) _ HB4.out.1 hu29.out rfl HN.out.2.2.1 ?_) | ((with_reducible refine gate_dst (N := 23) rfl ?_); (try (refine gate_guard (by rfl) ?_; dsimp only)); refine wpList_load_row rfl 35 (.tmp 2) rfl (q + 1) rfl 35 rc (0, 0) _ HB4.out.2.1 hu35.out rfl HN.out.2.2.2.1 ?_))
  refine (join_x _ _ nc rc _ HB4.out.2.2.1 HB4.out.2.2.2.1 ⟨by decide, by simp [noteM], by decide, by decide, by simp [noteM]⟩ ⟨by decide, by decide, by simp⟩).mono ?_
  rintro e w5 ⟨mz, rfl, hz, hB⟩
  have BE := Aside0.mk (below_step HB4.out.2.2.2.2 hB)
  obtain ⟨A16, c16, A19, c19, A20, c20, e, -⟩ := k29_open hz
  have em : mz = _ := Array.toList_inj.1 e
  have hz17 : (joinZ { noteM with f17 := ⟨#[]⟩ } ⟨⟨#[110]⟩, ⟨#[]⟩, ⟨#[]⟩, [], []⟩).f17 = ⟨#[110]⟩ := by
    show orF ⟨#[110]⟩ ⟨#[]⟩ = _
    unfold orF
    rw [if_neg (by rw [ByteArray.toList_eq]; simp)]
  rw [hz17] at em
  clear hB HB4 hz e hz17
  rw [em]
  clear em
  have hfd_29_17 : ∀ (v0 v1 v2 v3 v4 v5 v6 v7 v8 v9 v10 v11 v12 v13 v14 v15 v16 v17 v18 v19 v20 : Value) (W : World), (Instr.field 29 (.agg #[v0, v1, v2, v3, v4, v5, v6, v7, v8, v9, v10, v11, v12, v13, v14, v15, v16, v17, v18, v19, v20]) 17).run Tryz.prog W = .ok v18 W := fun _ _ _ _ _ _ _ _ _ _ _ _ _ _ _ _ _ _ _ _ _ _ => by kernel_rfl
  go_wp2_with fail
  go_ret
  exact ⟨rfl, BE.out⟩
theorem ne_size {s : ByteArray} : s.toList ≠ [] ↔ s.size ≠ 0 := not_congr (empty_iff s)
theorem nil_eq {s : ByteArray} (h : s.toList = []) : s = ⟨#[]⟩ := by
  apply bs_inj
  have := (empty_iff s).1 h
  rw [(bs_nil_iff s).2 this]
  rfl
theorem fit_at {must may : ByteArray} {c : Int} {p : Prop} {b : Bool} (h : Fit must may c p) (hb : b = true ↔ p) : okAt must may c b = true := by
  unfold okAt
  cases b with
  | true =>
    rcases h.2 (hb.1 rfl) with q | q
    · rw [q]; rfl
    · rw [q]; simp
  | false =>
    cases hm : hasB must c with
    | true => exact absurd (hb.2 (h.1 hm)) (by decide)
    | false => rfl
theorem bne_iff {s : ByteArray} : (s.toList != ([] : List UInt8)) = true ↔ s.size ≠ 0 := by rw [bne_iff_ne]; exact ne_size
theorem letters : letterN 0 = 80 ∧ letterN 1 = 67 ∧ letterN 2 = 82 ∧ letterN 3 = 77 ∧ letterN 4 = 84 ∧ letterN 5 = 65 ∧ letterN 6 = 69 ∧ letterN 7 = 68 ∧ letterN 8 = 78 ∧ letterN 9 = 79 ∧ letterN 10 = 71 := by decide +kernel
theorem fits_of {side : Int} {z : S29} (h : MsgOf side z) : FitsOK z := by
  obtain ⟨l0, l1, l2, l3, l4, l5, l6, l7, l8, l9, l10⟩ := letters
  refine ⟨h.kd, ?_, fun q => h.amt.1 ((empty_iff _).1 q), fun q => h.stn.1 ((empty_iff _).1 q)⟩
  unfold okBits
  rw [List.all_eq_true]
  intro j hj
  have hj' : j < 11 := List.mem_range.1 hj
  obtain rfl | rfl | rfl | rfl | rfl | rfl | rfl | rfl | rfl | rfl | rfl : j = 0 ∨ j = 1 ∨ j = 2 ∨ j = 3 ∨ j = 4 ∨ j = 5 ∨ j = 6 ∨ j = 7 ∨ j = 8 ∨ j = 9 ∨ j = 10 := by omega
  · rw [l0]; exact fit_at h.pan.1 bne_iff
  · rw [l1]; exact fit_at h.cur.1 bne_iff
  · rw [l2]; exact fit_at h.rrn.1 bne_iff
  · rw [l3]; exact fit_at h.mer.1 bne_iff
  · rw [l4]; exact fit_at h.ter.1 bne_iff
  · rw [l5]; exact fit_at h.app.1 bne_iff
  · rw [l6]; exact fit_at h.ent.1 (by show (z.f11 != 0) = true ↔ _; rw [bne_iff_ne])
  · rw [l7]; exact fit_at h.act.1 bne_iff
  · rw [l8]; exact fit_at h.rea.1 bne_iff
  · rw [l9]; exact fit_at h.ori.1 bne_iff
  · rw [l10]; exact fit_at h.tag (by show decide ((z.f15.length : Int) > 0) = true ↔ _; rw [decide_eq_true_eq]; omega)
theorem blank_opt {s : ByteArray} {P : Prop} (h : s.size ≠ 0 → P) : s.toList ≠ [] → P := fun q => h (ne_size.1 q)
theorem size_opt {s : ByteArray} {n : Nat} (h : s.size ≠ 0 → s.size ≤ n) : s.size ≤ n := by
  by_cases q : s.size = 0
  · omega
  · exact h q
theorem act_or {side : Int} {z : S29} (h : MsgOf side z) : z.f12.toList = [] ∨ (wordsF z.f12).2.2 = true := by
  by_cases q : z.f12.toList = []
  · exact .inl q
  · exact .inr (h.act.2 (ne_size.1 q))
theorem min_of {side : Int} {z : S29} (h : MsgOf side z) : MIn z := by
  have h14 : z.f14.f1.size ≤ 140737488355328 := size_opt fun q => by have := time_sized (h.ori.2 q); omega
  exact ⟨h.few.2.2.1, h.few.2.2.2.1, ⟨h.sta.1, by have := h.sta.2; omega⟩, h.ent.2, ⟨h.stn.2.1, by have := h.stn.2.2; omega⟩, h.amt.2, by have := time_sized h.tim; omega, h14, h.more.l18⟩
theorem key_of {side : Int} {z : S29} (h : MsgOf side z) : z.f16.toList ≠ [] → hexE z.f16 = 0 ∧ z.f16.size = 8 := fun q => by
  rcases h.more.k16 with e | e
  · exact absurd (by rw [e]; exact nil_text) q
  · exact e
theorem text_top {side : Int} {s : ByteArray} {n m : Int} (h : s.size ≠ 0 → (side = 1 → TextOf n side s) ∧ (side ≠ 1 → TextOf m side s)) (hn : n ≤ 35) (hm : m ≤ 35) : s.size ≤ 140 := size_opt fun q => by
  by_cases e : side = 1
  · have := ((h q).1 e).2.1; omega
  · have := ((h q).2 e).2.1; omega
theorem reach_of {side : Int} {z : S29} (h : MsgOf side z) : ReachL z :=
  ⟨by have := h.few.1; omega, fun t ht => by have := h.few.2.1 t ht; omega, by have := h.more.l18; omega, by have := h.more.o19.len; omega, fun t ht => by have i := elem_is (h.more.o19.ok t ht); have h1 : (t.f1.length : Int) ≤ (fmtF t.f0).f3 := i.l2; have h2 : (fmtF t.f0).f3 ≤ 999 := i.l3; omega⟩
/-- What a message of a side has of sizes. -/
theorem xsize_of {side : Int} {z : S29} (h : MsgOf side z) (hx : ByteArray) (n : Nat) (h1 : HexOf n hx) (h2 : n ≤ tagsLen z.f15) : XSize z hx := by
  have ht : tagsLen z.f15 ≤ 203 := h.few.2.2.2.2
  have hr := row_sizes ⟨(z.f0 - 1).toNat, by have := h.kd; omega⟩
  have ek : (((z.f0 - 1).toNat + 1 : Nat) : Int) = z.f0 := by have := h.kd; omega
  have he := size_opt (s := z.f4) (n := 1000) fun q => by have := (right_iff.1 (h.pan.2 q)).2; omega
  have hz0 : (rowOf z.f0).f0.size ≤ 1000000 := by
    have hc : ∀ k : Fin 11, (rowOf ((k.val + 1 : Nat) : Int)).f0.size ≤ 1000000 := by decide +kernel
    have := hc ⟨(z.f0 - 1).toNat, by have := h.kd; omega⟩
    rwa [show (((⟨(z.f0 - 1).toNat, by have := h.kd; omega⟩ : Fin 11).val + 1 : Nat) : Int) = z.f0 from ek] at this
  have hw : (wordsF z.f12).1.size ≤ 1000000 ∧ (wordsF z.f12).2.1.size ≤ 1000000 := by
    have hi := (words_is z.f12).2
    cases hc : (wordsF z.f12).2.2 with
    | true =>
      have hy := hi.yes hc
      have c1 : ((wordsF z.f12).1.size : Int) = 4 := by have := hy.1; unfold capF at this; rw [Bool.and_eq_true, decide_eq_true_eq] at this; exact this.2
      have c2 : ((wordsF z.f12).2.1.size : Int) = 4 := by have := hy.2.1; unfold capF at this; rw [Bool.and_eq_true, decide_eq_true_eq] at this; exact this.2
      omega
    | false =>
      have hn := hi.no hc
      rw [hn.1, hn.2]; decide
  have hkey : z.f16.size ≤ 1000000 := size_opt fun q => by have := (key_of h (ne_size.2 q)).2; omega
  have hnote : z.f17.size ≤ 1000000 := by
    rcases h.more.s17 with e | e
    · rw [e]; show (⟨#[]⟩ : ByteArray).size ≤ _; decide
    · have := e.2.1; omega
  refine ⟨⟨hz0, dec_size h.sta.1 (by have := h.sta.2; omega), text_size _, by have := (right_iff.1 h.acq).2; omega⟩, by omega, size_opt fun q => by have := (aln_size (h.rrn.2 q)).2; omega, by have := text_top h.mer.2 (by decide) (by decide); omega, by have := text_top h.ter.2 (by decide) (by decide); omega, hw.1, hw.2, size_opt fun q => by have := (aln_size (h.app.2 q)).2; omega, size_opt fun q => by have := (right_iff.1 (h.rea.2 q)).2; omega, by have := h1.2; omega, hnote, hkey, size_opt fun q => by have := (right_iff.1 (h.cur.2 q)).2; omega, h.amt.2, h.ent.2, ⟨h.stn.2.1, by have := h.stn.2.2; omega⟩, size_opt fun q => by have := time_sized (h.ori.2 q); omega, h.more.l18, fun y hy => ?_⟩
  have := h.more.e18 y hy
  have a := this.1.2.1
  have b := this.2.2.1
  omega
theorem base_good {side : Int} {z : S29} (h : MsgOf side z) : BaseGood z := by
  have hc : ∀ k : Fin 11, capF (rowOf ((k.val + 1 : Nat) : Int)).f0 4 = true := by decide +kernel
  have ek : (((z.f0 - 1).toNat + 1 : Nat) : Int) = z.f0 := by have := h.kd; omega
  have := hc ⟨(z.f0 - 1).toNat, by have := h.kd; omega⟩
  rw [show (((⟨(z.f0 - 1).toNat, by have := h.kd; omega⟩ : Fin 11).val + 1 : Nat) : Int) = z.f0 from ek] at this
  exact ⟨this, dec_right h.sta.1 5 (by decide) (by have := h.sta.2; omega) (by have := h.sta.2; omega), h.tim, h.acq⟩
/-- What bits may say of a message of theirs. -/
theorem bgood_of {z : S29} (h : MsgOf 1 z) : BGood z :=
  ⟨min_of h, h.tim, h.acq, blank_opt h.pan.2, blank_opt h.cur.2, blank_opt h.rrn.2, blank_opt fun q => ((h.mer.2 q).1 rfl).2.2.2 (by decide), blank_opt fun q => ((h.ter.2 q).1 rfl).2.2.2 (by decide), blank_opt h.app.2, blank_opt h.act.2, blank_opt h.rea.2, blank_opt h.ori.2, key_of h, by have := h.few.2.2.2.2; omega⟩
theorem bok_of {z : S29} (h : MsgOf 1 z) : BOK z :=
  ⟨fits_of h, bgood_of h, h.more.o19, by rw [(h.more.bit (by decide)).1]; exact nil_text, (h.more.bit (by decide)).2⟩
theorem plain_wide {s : ByteArray} {n m : Int} (h : PlainA s 1 n) (hn : n ≤ m) : PlainA s 1 m := ⟨h.1, h.2.1, by have := h.2.2.1; omega, h.2.2.2⟩
/-- What is left of a message of bits XML may say. -/
theorem xok_split {z : S29} (h : MsgOf 1 z) : XOK { z with f19 := [] } ∧ XSays { z with f19 := [] } := by
  have f := fits_of h
  have i := min_of h
  have hb := bgood_of h
  have e17 : z.f17 = ⟨#[]⟩ := (h.more.bit (by decide)).1
  have e18 : z.f18 = [] := (h.more.bit (by decide)).2
  refine ⟨⟨⟨f.kd, f.bits, f.amt, f.stn⟩, ⟨i.tags, i.tin, i.stan, i.ent, i.ost, i.amt, i.z2, i.z14, i.ext⟩, (show z.f12.toList = [] ∨ (wordsF z.f12).2.2 = true from act_or h), fun hx n h1 h2 _ => ?_, rfl⟩, fun hx n h1 h2 _ => ?_⟩
  · have s := xsize_of h hx n h1 h2
    exact ⟨⟨s.base.s0, s.base.s1, s.base.s2, s.base.s3⟩, s.zPAN, s.zRRN, s.zMrchntId, s.zTermnlId, s.zRspn, s.zRspnRsn, s.zAuthstnCd, s.zRsn, s.zICCData, s.zNote, s.zRsdlKey, s.zCcy, s.amt, s.ent, s.ost, s.zT, s.ext, s.zE⟩
  · have b := base_good h
    have ht : tagsLen z.f15 ≤ 203 := h.few.2.2.2.2
    have h2' : n ≤ tagsLen z.f15 := h2
    exact ⟨⟨b.code, b.stan, b.time, b.acq⟩, hb.pan, hb.cur, hb.rrn, fun q => plain_wide (hb.mer q) (by decide), fun q => plain_wide (hb.ter q) (by decide), hb.app, hb.rea, hb.org, ⟨h1.1, fun q => by have := ne_size.1 q; have := h1.2; omega, by have := h1.2; omega⟩, fun q => absurd (by show z.f17.toList = []; rw [e17]; exact nil_text) q, fun y hy => (by rw [show ({ z with f19 := [] } : S29).f18 = [] from e18] at hy; cases hy), hb.key⟩
/-- A message of XML ends when XML says it. -/
theorem xok_of {z : S29} (h : MsgOf 0 z) : XOK z := ⟨fits_of h, min_of h, act_or h, fun hx n h1 h2 _ => xsize_of h hx n h1 h2, h.more.xml rfl⟩
theorem said_ink {s : ByteArray} {n : Int} (h : saidB s n = true) : (bs s).all ink = true ∧ 1 ≤ (s.size : Int) ∧ (s.size : Int) ≤ n := by
  unfold saidB at h
  rw [Bool.and_eq_true, Bool.and_eq_true, decide_eq_true_eq, decide_eq_true_eq] at h
  refine ⟨?_, h.1.1, h.1.2⟩
  have ha := h.2
  unfold allB at ha
  rw [List.all_eq_true] at ha ⊢
  intro c hc
  unfold bs at hc
  obtain ⟨b, hb, rfl⟩ := List.mem_map.1 hc
  have := ha b hb
  unfold anyB inB at this
  unfold ink
  simpa using this
theorem quest_plain {n : Int} (h : 1 ≤ n) : PlainA quest 1 n := ⟨by decide, by decide, by show ((1 : Nat) : Int) ≤ n; omega, fun _ => by decide⟩
theorem lab_good {s : ByteArray} {n : Int} (h1 : 1 ≤ n) (h : s.size ≠ 0 → Ends32 s) : (labF s n).toList ≠ [] → PlainA (labF s n) 1 n := fun q => by
  unfold labF at q ⊢
  by_cases e : s.toList = []
  · rw [if_pos e] at q; exact absurd e q
  · rw [if_neg e] at q ⊢
    by_cases b : saidB s n = true
    · rw [if_pos b]
      have i := said_ink b
      exact ⟨i.1, i.2.1, i.2.2, h (ne_size.1 e)⟩
    · rw [if_neg b]; exact quest_plain h1
theorem lab_bne (s : ByteArray) (n : Int) : ((labF s n).toList != ([] : List UInt8)) = (s.toList != ([] : List UInt8)) := by
  unfold labF
  by_cases e : s.toList = []
  · rw [if_pos e]
  · rw [if_neg e]
    by_cases b : saidB s n = true
    · rw [if_pos b]
    · rw [if_neg b]
      have h1 : (quest.toList != ([] : List UInt8)) = true := bne_iff.2 (by decide)
      rw [h1, bne_iff_ne.2 e]
/-- What is left of a message of XML. -/
def lefts (z : S29) : S29 := { z with f17 := ⟨#[]⟩, f18 := [], f8 := labF z.f8 15, f9 := labF z.f9 8 }
theorem bok_split {z : S29} (h : MsgOf 0 z) : BOK (lefts z) := by
  have f := fits_of h
  have i := min_of h
  have e19 : z.f19 = [] := h.more.xml rfl
  have hbits : bitsOf (lefts z) = bitsOf z := by
    show [(z.f4.toList != []), (z.f5.toList != []), (z.f7.toList != []), ((labF z.f8 15).toList != []), ((labF z.f9 8).toList != []), _, _, _, _, _, _] = _
    rw [lab_bne, lab_bne]; rfl
  refine ⟨⟨f.kd, by rw [hbits]; exact f.bits, f.amt, f.stn⟩, ⟨⟨i.tags, i.tin, i.stan, i.ent, i.ost, i.amt, i.z2, i.z14, Nat.zero_le _⟩, h.tim, h.acq, blank_opt h.pan.2, blank_opt h.cur.2, blank_opt h.rrn.2, lab_good (by decide) fun q => ((h.mer.2 q).2 (by decide)).2.2.1, lab_good (by decide) fun q => ((h.ter.2 q).2 (by decide)).2.2.1, blank_opt h.app.2, blank_opt h.act.2, blank_opt h.rea.2, blank_opt h.ori.2, (show z.f16.toList ≠ [] → hexE z.f16 = 0 ∧ z.f16.size = 8 from key_of h), by have := h.few.2.2.2.2; show tagsLen z.f15 ≤ 255; omega⟩, by show OthOK z.f19; rw [e19]; exact oth_nil, nil_text, rfl⟩
theorem lab_back (s : ByteArray) (n : Int) : lbF (labF s n) (outF s n) = s := by
  unfold lbF labF outF
  by_cases e : s.toList = []
  · simp only [if_pos e]; exact (nil_eq e).symm
  · simp only [if_neg e]
    by_cases b : saidB s n = true
    · simp only [if_pos b, if_neg e]; unfold orF; rw [if_pos nil_text]
    · simp only [if_neg b]
      rw [if_neg (ne_size.2 (by decide) : quest.toList ≠ [])]
      unfold orF
      rw [if_neg e]
theorem or_nil (s : ByteArray) : orF s ⟨#[]⟩ = s := by
  unfold orF
  by_cases e : s.toList = []
  · rw [if_pos e]; exact (nil_eq e).symm
  · rw [if_neg e]
theorem nil_or (s : ByteArray) : orF ⟨#[]⟩ s = s := by unfold orF; rw [if_pos nil_text]
theorem lb_nil (s : ByteArray) : lbF s ⟨#[]⟩ = s := by
  unfold lbF
  by_cases e : s.toList = []
  · rw [if_pos e]; exact (nil_eq e).symm
  · rw [if_neg e, nil_or]
theorem list_back {α : Type} (l : List α) : (if 0 < l.length then l else []) = l := by
  split
  · rfl
  · rename_i h; exact (List.eq_nil_of_length_eq_zero (by omega)).symm
theorem back0 {z : S29} : joinZ (lefts z) ⟨z.f17, outF z.f8 15, outF z.f9 8, z.f18, []⟩ = z := by
  show ({ lefts z with f17 := orF z.f17 ⟨#[]⟩, f8 := lbF (labF z.f8 15) (outF z.f8 15), f9 := lbF (labF z.f9 8) (outF z.f9 8), f18 := (if 0 < z.f18.length then z.f18 else []), f19 := (if 0 < ([] : List S50).length then [] else z.f19) } : S29) = z
  rw [or_nil, lab_back, lab_back, list_back, if_neg (by decide)]
  rfl
theorem back1 {z : S29} : joinZ { z with f19 := [] } ⟨⟨#[]⟩, ⟨#[]⟩, ⟨#[]⟩, [], z.f19⟩ = z := by
  show ({ z with f17 := orF ⟨#[]⟩ z.f17, f8 := lbF z.f8 ⟨#[]⟩, f9 := lbF z.f9 ⟨#[]⟩, f18 := (if 0 < ([] : List S48).length then [] else z.f18), f19 := (if 0 < z.f19.length then z.f19 else []) } : S29) = z
  rw [nil_or, lb_nil, lb_nil, list_back, if_neg (by decide)]
end Go.Proofs.YthapknnppabdaaaGreat.MQ
