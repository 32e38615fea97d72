/- What kinds.Fits comes to: the walks of row.lets and of Fits. -/
import Derived.Test.YthdjodamdakjbaaMKx1
import Derived.Shelf.Abstract
namespace Go.Proofs.Ythdjodamdakjbaa.MK
open Go.RowKit Go.Proofs.YthdjodamdakjbaaW.PrintWords Go.Proofs.YthdjodamdakjbaaW.PrintLast Go.Proofs.YthdjodamdakjbaaW.PrintMore
set_option linter.unusedVariables false
set_option linter.unusedSimpArgs false

def letsOf (must may p : Int) : Bool := (Go.bits .and .i64 p must == must) && (Go.bits .andNot .i64 p (Go.bits .or .i64 must may) == 0)
theorem lets_calls (c m : ByteArray) (must may p : Int) (W : World) :
    Calls Try.prog 40 #[.agg #[.string c, .string m, .int .i64 must, .int .i64 may], .int .i64 p] W fun e w' => e = .returned (.bool (letsOf must may p)) ∧ Below W.heap.size W w' := by
  cases h1 : (Go.bits .and .i64 p must == must)
  · have HF : Aside0 (letsOf must may p = false) := ⟨by unfold letsOf; rw [h1]; rfl⟩
    go_enter Try.func40, Try.ntmps40
    go_wp2
    go_ret
    exact ⟨by rw [HF.out]; rfl, below_alloc (Below.refl _ W) _⟩
  · have HF : Aside0 (letsOf must may p = (Go.bits .andNot .i64 p (Go.bits .or .i64 must may) == 0)) := ⟨by unfold letsOf; rw [h1]; rfl⟩
    go_enter Try.func40, Try.ntmps40
    go_wp2
    go_ret
    exact ⟨by rw [HF.out]; rfl, below_alloc (Below.refl _ W) _⟩

def fitsEnd (lets noCur hasAmt noTime hasStan : Bool) : Int := if lets = false then 19 else if noCur = true ∧ hasAmt = true then 19 else if noTime = true ∧ hasStan = true then 19 else 0
def kinds_Fits.f (a0_0 : Int) (a0_1 : Int) (a0_2 : ByteArray) (a0_3 : ByteArray) (a0_4 : ByteArray) (a0_5 : ByteArray) (a0_6 : Int) (a0_7 : ByteArray) (a0_8 : ByteArray) (a0_9 : ByteArray) (a0_10 : ByteArray) (a0_11 : Int) (a0_12 : ByteArray) (a0_13 : ByteArray) (a0_14 : Int) (a0_15 : ByteArray) (l0_16 : List S51) (a0_17 : ByteArray) (a0_18 : ByteArray) (l0_19 : List S53) (l0_20 : List S55) : Option Int :=
  (kinds_of.f a0_0).bind fun r => if r.2.1.toList.isEmpty = true then some 15 else (kinds_parts.f 12 a0_0 a0_1 a0_2 a0_3 a0_4 a0_5 a0_6 a0_7 a0_8 a0_9 a0_10 a0_11 a0_12 a0_13 a0_14 a0_15 l0_16 a0_17 a0_18 l0_19 l0_20).bind fun p =>
    some (fitsEnd (letsOf r.2.2.1 r.2.2.2 p) a0_5.toList.isEmpty (a0_6 != 0) a0_15.toList.isEmpty (a0_14 != 0))
set_option maxHeartbeats 8000000 in
set_option maxRecDepth 100000 in
theorem kinds_Fits.calls (a0_0 : Int) (a0_1 : Int) (a0_2 : ByteArray) (a0_3 : ByteArray) (a0_4 : ByteArray) (a0_5 : ByteArray) (a0_6 : Int) (a0_7 : ByteArray) (a0_8 : ByteArray) (a0_9 : ByteArray) (a0_10 : ByteArray) (a0_11 : Int) (a0_12 : ByteArray) (a0_13 : ByteArray) (a0_14 : Int) (a0_15 : ByteArray) (A0_16 : Option Addr) (c0_16 : Nat) (l0_16 : List S51) (a0_17 : ByteArray) (a0_18 : ByteArray) (A0_19 : Option Addr) (c0_19 : Nat) (l0_19 : List S53) (A0_20 : Option Addr) (c0_20 : Nat) (l0_20 : List S55) (r : Int) (w : World) (hr0_16 : Kd.C k51 w A0_16 l0_16.length l0_16) (hc0_16 : l0_16.length ≤ c0_16) (hr0_19 : Kd.C k53 w A0_19 l0_19.length l0_19) (hc0_19 : l0_19.length ≤ c0_19) (hr0_20 : Kd.C k55 w A0_20 l0_20.length l0_20) (hc0_20 : l0_20.length ≤ c0_20) (h : kinds_Fits.f a0_0 a0_1 a0_2 a0_3 a0_4 a0_5 a0_6 a0_7 a0_8 a0_9 a0_10 a0_11 a0_12 a0_13 a0_14 a0_15 l0_16 a0_17 a0_18 l0_19 l0_20 = some r) :
    Calls Try.prog 12 #[.agg #[.int .i64 a0_0, .int .i64 a0_1, .string a0_2, .string a0_3, .string a0_4, .string a0_5, .int .u64 a0_6, .string a0_7, .string a0_8, .string a0_9, .string a0_10, .int .i64 a0_11, .string a0_12, .string a0_13, .int .i64 a0_14, .string a0_15, .slice A0_16 l0_16.length c0_16, .string a0_17, .string a0_18, .slice A0_19 l0_19.length c0_19, .slice A0_20 l0_20.length c0_20]] w fun e w' => e = .returned (.int .i64 r) ∧ Below w.heap.size w w' := by
  have HR16 := Aside0.mk hr0_16
  clear hr0_16
  have HR19 := Aside0.mk hr0_19
  clear hr0_19
  have HR20 := Aside0.mk hr0_20
  clear hr0_20
  obtain ⟨⟨rc, rm, must, may⟩, h1, h2⟩ := Option.bind_eq_some_iff.1 h
  have H1 := Aside0.mk h1
  clear h h1
  have hu29 := Try.underlying29
  have hu68 := Try.underlying68
  have hu24 := Try.underlying24
  cases he : rm.toList.isEmpty with
  | true =>
    simp only [he, if_true, Option.some.injEq] at h2
    subst h2
    go_enter Try.func12, Try.ntmps12
    go_wp2_with fail
    refine (kinds_of.calls a0_0 _ _ _ _ _ H1.out).mono ?_
    rintro e w1 ⟨rfl, hb⟩
    have HB := Aside0.mk hb
    clear hb
    go_wp2
    go_ret
    exact ⟨rfl, by repeat (first | exact below_step (below_alloc (Below.refl _ w) _) HB.out | exact below_alloc (below_step (below_alloc (Below.refl _ w) _) HB.out) _ | refine below_set ?_ (Nat.le_trans (Nat.le_succ _) (by simpa using HB.out.size)))⟩
  | false =>
    simp only [he, Bool.false_eq_true, if_false] at h2
    obtain ⟨p, h3, h4⟩ := Option.bind_eq_some_iff.1 h2
    have H3 := Aside0.mk h3
    have h5 := Option.some.inj h4
    clear h2 h3 h4
    go_enter Try.func12, Try.ntmps12
    go_wp2_with fail
    refine (kinds_of.calls a0_0 _ _ _ _ _ H1.out).mono ?_
    rintro e w1 ⟨rfl, hb⟩
    have BK1 := Aside0.mk (blk_below (blk_new w (.cells #[.int .i64 a0_0, .int .i64 a0_1, .string a0_2, .string a0_3, .string a0_4, .string a0_5, .int .u64 a0_6, .string a0_7, .string a0_8, .string a0_9, .string a0_10, .int .i64 a0_11, .string a0_12, .string a0_13, .int .i64 a0_14, .string a0_15, .slice A0_16 l0_16.length c0_16, .string a0_17, .string a0_18, .slice A0_19 l0_19.length c0_19, .slice A0_20 l0_20.length c0_20] 29)) hb)
    have HB1 : Aside0 (Below w.heap.size w w1) := ⟨below_step (below_alloc (Below.refl _ w) _) hb⟩
    clear hb
    have BK2 := Aside0.mk (blk_alloc BK1.out (.cells #[.string rc, .string rm, .int .i64 must, .int .i64 may] 68))
    clear BK1

    go_wp2_with (first | ((with_reducible refine gate_dst (N := 14) rfl ?_); refine wpList_load_row rfl 29 _ rfl w.heap.size rfl 29 #[.int .i64 a0_0, .int .i64 a0_1, .string a0_2, .string a0_3, .string a0_4, .string a0_5, .int .u64 a0_6, .string a0_7, .string a0_8, .string a0_9, .string a0_10, .int .i64 a0_11, .string a0_12, .string a0_13, .int .i64 a0_14, .string a0_15, .slice A0_16 l0_16.length c0_16, .string a0_17, .string a0_18, .slice A0_19 l0_19.length c0_19, .slice A0_20 l0_20.length c0_20] (0, 0) _ BK2.out hu29 rfl (by kernel_rfl) ?_))
    have hp := kinds_parts.calls 12 a0_0 a0_1 a0_2 a0_3 a0_4 a0_5 a0_6 a0_7 a0_8 a0_9 a0_10 a0_11 a0_12 a0_13 a0_14 a0_15 A0_16 c0_16 l0_16 a0_17 a0_18 A0_19 c0_19 l0_19 A0_20 c0_20 l0_20 p
    refine (hp _ (Kd.C_below HR16.out (below_alloc HB1.out _)) hc0_16 (Kd.C_below HR19.out (below_alloc HB1.out _)) hc0_19 (Kd.C_below HR20.out (below_alloc HB1.out _)) hc0_20 H3.out).mono ?_
    rintro e w2 ⟨rfl, hb2⟩
    have BK3 := Aside0.mk (blk_below BK2.out hb2)
    have HB2 : Aside0 (Below w.heap.size w w2) := ⟨below_step (below_alloc HB1.out _) hb2⟩
    clear BK2 HB1 hb2 hp
    have hl := lets_calls rc rm must may p w2
    generalize hlv : letsOf must may p = lv at hl h5
    have HLV := Aside0.mk hlv
    clear hlv
    have HLC := Aside0.mk hl
    clear hl
    go_wp2_with fail
    refine HLC.out.mono ?_
    rintro e w3 ⟨rfl, hb3⟩
    have BK4 := Aside0.mk (blk_below BK3.out hb3)
    have HB3 : Aside0 (Below w.heap.size w w3) := ⟨below_step HB2.out hb3⟩
    clear BK3 HB2 hb3
    have hd_5 : w3.cell? ⟨w.heap.size, 5, none⟩ = some (.string a0_5) := (blk_cell BK4.out 5).trans rfl
    have hd_6 : w3.cell? ⟨w.heap.size, 6, none⟩ = some (.int .u64 a0_6) := (blk_cell BK4.out 6).trans rfl
    have hd_14 : w3.cell? ⟨w.heap.size, 14, none⟩ = some (.int .i64 a0_14) := (blk_cell BK4.out 14).trans rfl
    have hd_15 : w3.cell? ⟨w.heap.size, 15, none⟩ = some (.string a0_15) := (blk_cell BK4.out 15).trans rfl
    clear BK4
    cases lv with
    | false =>
      subst h5
      go_wp2
      go_ret
      exact ⟨rfl, HB3.out⟩
    | true =>
      cases e1 : a0_5.toList.isEmpty with
      | true =>
        cases e2 : (a0_6 != 0) with
        | true =>
          rw [e1, e2] at h5
          subst h5
          go_wp2
          go_ret
          exact ⟨rfl, HB3.out⟩
        | false =>
          cases e3 : a0_15.toList.isEmpty with
          | true =>
            cases e4 : (a0_14 != 0) with
            | true =>
              rw [e1, e2, e3, e4] at h5
              subst h5
              go_wp2
              go_ret
              exact ⟨rfl, HB3.out⟩
            | false =>
              rw [e1, e2, e3, e4] at h5
              subst h5
              go_wp2
              go_ret
              exact ⟨rfl, HB3.out⟩
          | false =>
            rw [e1, e2, e3] at h5
            have h6 : fitsEnd true true false false (a0_14 != 0) = 0 := by unfold fitsEnd; simp
            rw [h6] at h5
            subst h5
            go_wp2
            go_ret
            exact ⟨rfl, HB3.out⟩
      | false =>
        cases e3 : a0_15.toList.isEmpty with
        | true =>
          cases e4 : (a0_14 != 0) with
          | true =>
            rw [e1, e3, e4] at h5
            have h6 : fitsEnd true false (a0_6 != 0) true true = 19 := by unfold fitsEnd; simp
            rw [h6] at h5
            subst h5
            go_wp2
            go_ret
            exact ⟨rfl, HB3.out⟩
          | false =>
            rw [e1, e3, e4] at h5
            have h6 : fitsEnd true false (a0_6 != 0) true false = 0 := by unfold fitsEnd; simp
            rw [h6] at h5
            subst h5
            go_wp2
            go_ret
            exact ⟨rfl, HB3.out⟩
        | false =>
          rw [e1, e3] at h5
          have h6 : fitsEnd true false (a0_6 != 0) false (a0_14 != 0) = 0 := by unfold fitsEnd; simp
          rw [h6] at h5
          subst h5
          go_wp2
          go_ret
          exact ⟨rfl, HB3.out⟩
end Go.Proofs.Ythdjodamdakjbaa.MK
