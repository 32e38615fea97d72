/- What comptoirhelp.Plain comes to at plain types: the walks of Same and of the comparison that is handed to it. -/
import Derived.Test.YthjcdjanadeobaaHLess
import Derived.Shelf.Abstract
namespace Go.Proofs.Ythjcdjanadeobaa.MH
open Go.RowKit Go.Proofs.YthjcdjanadeobaaW.PrintWords Go.Proofs.YthjcdjanadeobaaW.PrintLast Go.Proofs.YthjcdjanadeobaaW.PrintMore
set_option linter.unusedVariables false
set_option linter.unusedSimpArgs false

/-- Are two lists alike, one by one, by that? -/
def sameB {α : Type} (e : α → α → Bool) (a b : List α) : Bool := a.length == b.length && (List.zipWith e a b).all (fun x => x)
theorem same_len {α : Type} (e : α → α → Bool) (a b : List α) (h : a.length ≠ b.length) : sameB e a b = false := by simp [sameB, h]
theorem same_yes {α : Type} (e : α → α → Bool) (d : α) (a b : List α) (h : a.length = b.length) (ha : ∀ j : Nat, j < a.length → e (rdOf d a j) (rdOf d b j) = true) : sameB e a b = true := by
  simp only [sameB, h, beq_self_eq_true, Bool.true_and, List.all_eq_true]
  intro x hx
  obtain ⟨j, hj, rfl⟩ := List.getElem_of_mem hx
  rw [List.length_zipWith] at hj
  rw [List.getElem_zipWith]
  have := ha j (by omega)
  simpa [rdOf, List.getD_eq_getElem?_getD, List.getElem?_eq_getElem (show j < a.length by omega), List.getElem?_eq_getElem (show j < b.length by omega)] using this
theorem same_no {α : Type} (e : α → α → Bool) (d : α) (a b : List α) (h : a.length = b.length) (j : Nat) (hj : j < a.length) (hn : e (rdOf d a j) (rdOf d b j) = false) : sameB e a b = false := by
  have h1 : ¬ (List.zipWith e a b).all (fun x => x) = true := by
    rw [List.all_eq_true]
    intro hall
    have hj2 : j < (List.zipWith e a b).length := by rw [List.length_zipWith]; omega
    have := hall _ (List.getElem_mem hj2)
    rw [List.getElem_zipWith] at this
    simp [rdOf, List.getD_eq_getElem?_getD, List.getElem?_eq_getElem (show j < a.length by omega), List.getElem?_eq_getElem (show j < b.length by omega)] at hn
    rw [hn] at this
    cases this
  simp only [Bool.not_eq_true] at h1
  simp [sameB, h1]

theorem at_num {w : World} {A : Option Addr} {n : Nat} {k : IntKind} {xs : List Int} (h : (Kd.int k).C w A n xs) (i : Int) (h0 : 0 ≤ i) (h1 : i < n) : ∃ ad, A = some ad ∧ w.cell? (ad.add i.toNat) = some (.int k (rdOf (0 : Int) xs i)) := Kd.at_int h i h0 h1

set_option maxHeartbeats 4000000 in
theorem same_int_calls (e : Int → Int → Bool) (g : Nat) (bs : Array Value) (eg : ∀ args w, (callFunc g args).run Try.prog w = .ok (.enter g args) w)
    (hp : ∀ (x y : Int) (W : World), Calls Try.prog g (bs ++ #[.int .i64 x, .int .i64 y]) W fun e' w' => e' = .returned (.bool (e x y)) ∧ w' = W)
    (A0 : Option Addr) (c0 : Nat) (l0 : List Int) (A1 : Option Addr) (c1 : Nat) (l1 : List Int) (w : World)
    (hr0 : Kd.C (Kd.int .i64) w A0 l0.length l0) (hr1 : Kd.C (Kd.int .i64) w A1 l1.length l1) :
    Calls Try.prog 21 #[.slice A0 l0.length c0, .slice A1 l1.length c1, .func (.func g) bs #[]] w fun e' w' => e' = .returned (.bool (sameB e l0 l1)) ∧ Drawn0 w w' := by
  have hm0 := hr0.2.1
  have HR0 := Aside0.mk hr0
  have HR1 := Aside0.mk hr1
  have HP := Aside0.mk hp
  clear hr0 hr1 hp
  by_cases hl : l0.length = l1.length
  · have HL := Aside0.mk hl
    have hl1 : ((l0.length : Int) != (l1.length : Int)) = false := by rw [bne_eq_false_iff_eq]; omega
    have hl2 : (l0.length != l1.length) = false := by rw [bne_eq_false_iff_eq]; omega
    clear hl
    go_enter Try.func21, Try.ntmps21
    go_wp2
    go_loopg [7] l0.length (fun gg s7 wr => ∃ kk : Nat, kk ≤ l0.length ∧ l0.length - kk ≤ gg ∧ s7 = .int .i64 kk ∧ Aside0 (Drawn0 w wr) ∧ Aside0 (∀ j : Nat, j < kk → e (rdOf (0 : Int) l0 j) (rdOf (0 : Int) l1 j) = true))
    case atStart => exact ⟨0, Nat.zero_le _, by omega, rfl, ⟨Drawn0.refl w⟩, ⟨fun j hj => absurd hj (Nat.not_lt_zero _)⟩⟩
    case round =>
      obtain ⟨kk, hkk, hg, rfl, BW, AL⟩ := hrel
      by_cases hlt : kk < l0.length
      · have hltz : (kk : Int) < (l0.length : Int) := by omega
        have hltz1 : (kk : Int) < (l1.length : Int) := by have := HL.out; omega
        obtain ⟨ad0, e0, h0⟩ := at_num (Kd.C_below HR0.out BW.out.below) (kk : Int) (by omega) (by omega)
        obtain ⟨ad1, e1, h1⟩ := at_num (Kd.C_below HR1.out BW.out.below) (kk : Int) (by omega) (by have := HL.out; omega)
        subst e0
        subst e1
        rw [Int.toNat_natCast] at h0 h1
        have hcall := HP.out (rdOf (0 : Int) l0 kk) (rdOf (0 : Int) l1 kk)
        generalize hy0 : rdOf (0 : Int) l0 (kk : Int) = y0 at h0 hcall
        generalize hy1 : rdOf (0 : Int) l1 (kk : Int) = y1 at h1 hcall
        have B0 : Aside0 (rdOf (0 : Int) l0 (kk : Int) = y0) := ⟨hy0⟩
        have B1 : Aside0 (rdOf (0 : Int) l1 (kk : Int) = y1) := ⟨hy1⟩
        clear hy0 hy1
        cases hq : e y0 y1 with
        | true =>
          rw [hq] at hcall
          have HQ := Aside0.mk hq
          clear hq
          go_wp2_with fail
          go_quiet ((go_at_fn g; exact Calls.quiet_of_same (hcall _)))
          go_wp2
          go_roundg (l0.length - (kk + 1))
          case measure => omega
          case rel =>
            refine ⟨kk + 1, by omega, by omega, by go_num, ⟨Drawn0.step BW.out _⟩, ⟨fun j hj => ?_⟩⟩
            by_cases ej : j = kk
            · subst ej
              rw [B0.out, B1.out]; exact HQ.out
            · exact AL.out j (by omega)
        | false =>
          rw [hq] at hcall
          have HQ := Aside0.mk hq
          clear hq
          go_wp2_with fail
          go_quiet ((go_at_fn g; exact Calls.quiet_of_same (hcall _)))
          go_wp2
          go_ret
          refine ⟨?_, Drawn0.step BW.out _⟩
          rw [same_no e 0 l0 l1 HL.out kk hlt (by rw [B0.out, B1.out]; exact HQ.out)]
          rfl
      · have hltz : ¬ (kk : Int) < (l0.length : Int) := by omega
        go_wp2
        go_ret
        refine ⟨?_, BW.out⟩
        rw [same_yes e 0 l0 l1 HL.out (fun j hj => AL.out j (by omega))]
        rfl
  · have HL := Aside0.mk hl
    have hl1 : ((l0.length : Int) != (l1.length : Int)) = true := by rw [bne_iff_ne]; omega
    have hl2 : (l0.length != l1.length) = true := by rw [bne_iff_ne]; omega
    clear hl
    go_enter Try.func21, Try.ntmps21
    go_wp2
    go_ret
    refine ⟨?_, Drawn0.refl w⟩
    rw [same_len e l0 l1 HL.out]
    rfl

theorem eq_int_calls (x y : Int) (W : World) : Calls Try.prog 22 (#[] ++ #[.int .i64 x, .int .i64 y]) W fun e' w' => e' = .returned (.bool (x == y)) ∧ w' = W := by
  show Calls Try.prog 22 #[.int .i64 x, .int .i64 y] W _
  go_enter Try.func22, Try.ntmps22
  go_wp2
  go_ret
  exact ⟨rfl, rfl⟩

def comptoirhelp_Plain_int.f (l0 l1 : List Int) : Option Bool := some (sameB (fun x y : Int => x == y) l0 l1)
theorem comptoirhelp_Plain_int.calls (A0 : Option Addr) (c0 : Nat) (l0 : List Int) (A1 : Option Addr) (c1 : Nat) (l1 : List Int) (r : Bool) (w : World) (hr0 : Kd.C (Kd.int .i64) w A0 l0.length l0) (hc0 : l0.length ≤ c0) (hr1 : Kd.C (Kd.int .i64) w A1 l1.length l1) (hc1 : l1.length ≤ c1) (h : comptoirhelp_Plain_int.f l0 l1 = some r) :
    Calls Try.prog 11 #[.slice A0 l0.length c0, .slice A1 l1.length c1] w fun e w' => e = .returned (.bool r) ∧ Drawn0 w w' := by
  obtain rfl := Option.some.inj h
  have hs := same_int_calls (fun x y : Int => x == y) 22 #[] (enters_of Try.func22 (by kernel_rfl) rfl) eq_int_calls A0 c0 l0 A1 c1 l1 w hr0 hr1
  generalize sameB (fun x y : Int => x == y) l0 l1 = b at hs
  clear h hr0 hr1 hc0 hc1
  have HS := Aside0.mk hs
  clear hs
  go_enter Try.func11, Try.ntmps11
  go_wp2_with fail
  refine HS.out.mono ?_
  rintro e w1 ⟨rfl, hd⟩
  go_wp2
  go_ret
  exact ⟨rfl, hd⟩


end Go.Proofs.Ythjcdjanadeobaa.MH
