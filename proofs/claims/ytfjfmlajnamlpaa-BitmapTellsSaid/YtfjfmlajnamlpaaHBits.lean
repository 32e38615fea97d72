/- What bitmap.Write comes to: the walks of bits.set and of Write. -/
import Derived.Test.YtfjfmlajnamlpaaMBx0
import Derived.RegionTactic
import Derived.ChangeAlike
import Derived.Shelf.Abstract
namespace Go.Proofs.Ytfjfmlajnamlpaa.MB
open Go.RowKit Go.Proofs.YtfjfmlajnamlpaaW.PrintWords Go.Proofs.YtfjfmlajnamlpaaW.PrintLast Go.Proofs.YtfjfmlajnamlpaaW.PrintMore
set_option linter.unusedVariables false
set_option linter.unusedSimpArgs false

/-! ### plain -/
def orBit (x n : Int) : Int := bits BinOp.or IntKind.u8 x (2 ^ (7 - (n - 1) % 8).toNat % 256)
def setBit (xs : List Int) (n : Int) : List Int := xs.set ((n - 1) / 8).toNat (orBit (rd xs ((n - 1) / 8)) n)
theorem setBit_length (xs : List Int) (n : Int) : (setBit xs n).length = xs.length := by simp [setBit]
theorem foldBit_length (l : List Int) : ∀ xs : List Int, (l.foldl setBit xs).length = xs.length := by
  induction l with
  | nil => intro xs; rfl
  | cons n l ih => intro xs; rw [List.foldl_cons, ih, setBit_length]
/-- The last number, if each is above the one ahead of it, and may be; else none. -/
def scanL (was : Int) : List Int → Option Int
  | [] => some was
  | n :: l => if n ≤ was then none else if 128 < n then none else if n = 65 then none else scanL n l
theorem scan_bounds (l : List Int) : ∀ was z, scanL was l = some z → was ≤ z ∧ ∀ x ∈ l, was < x ∧ x ≤ z ∧ x ≤ 128 := by
  induction l with
  | nil =>
    intro was z h
    simp only [scanL, Option.some.injEq] at h
    subst h
    exact ⟨Int.le_refl _, fun x hx => by cases hx⟩
  | cons n l ih =>
    intro was z h
    simp only [scanL] at h
    by_cases c1 : n ≤ was
    · rw [if_pos c1] at h; cases h
    by_cases c2 : 128 < n
    · rw [if_neg c1, if_pos c2] at h; cases h
    by_cases c3 : n = 65
    · rw [if_neg c1, if_neg c2, if_pos c3] at h; cases h
    rw [if_neg c1, if_neg c2, if_neg c3] at h
    obtain ⟨h1, h2⟩ := ih n z h
    refine ⟨by omega, fun x hx => ?_⟩
    rcases List.mem_cons.1 hx with rfl | hx
    · omega
    · have := h2 x hx
      omega
theorem rd_drop (l : List Int) (k : Nat) (h : k < l.length) : l.drop k = rd l (k : Int) :: l.drop (k + 1) := by
  rw [List.drop_eq_getElem_cons h]
  simp [rd, List.getD_eq_getElem?_getD, List.getElem?_eq_getElem h]
theorem take_rd (l : List Int) (k : Nat) (h : k < l.length) : l.take (k + 1) = l.take k ++ [rd l (k : Int)] := by
  rw [List.take_succ_eq_append_getElem h]
  simp [rd, List.getD_eq_getElem?_getD, List.getElem?_eq_getElem h]
theorem rd_mem (l : List Int) (k : Nat) (h : k < l.length) : rd l (k : Int) ∈ l := by
  simp [rd, List.getD_eq_getElem?_getD, List.getElem?_eq_getElem h]
def startBits (was : Int) : List Int := if 64 < was then setBit (List.replicate 16 0) 1 else List.replicate 8 0

/-! ### bits.set -/
theorem grownBy_drew {w w1 : World} {row : Option Nat} (h : w.grownBy w1 row) : w.grownBy w1.drew row := ⟨h.os, h.tape, h.output, h.size, h.block⟩
theorem ownsRow_drew {w : World} {base : Nat} {e : TypeId} {size n : Nat} {v : Value} {xs : List Value} (h : w.ownsRow base e size v n xs) : w.drew.ownsRow base e size v n xs := h
set_option maxHeartbeats 4000000 in
theorem set_calls (base g m c : Nat) (n : Int) (xs : List Int) (w : World) (h1 : 1 ≤ n) (h2 : n ≤ 8 * m) (hm : m ≤ 16)
    (ho : w.ownsRow base 5 1 (.slice (some ⟨g, 0, none⟩) m c) m (nums .u8 xs)) :
    Calls Try.prog 19 #[.slice (some ⟨g, 0, none⟩) m c, .int .i64 n] w fun e w' => e = .returned (.tuple #[]) ∧ w'.ownsRow base 5 1 (.slice (some ⟨g, 0, none⟩) m c) m (nums .u8 (setBit xs n)) ∧ w.grownBy w' (some g) := by
  have hi0 : 0 ≤ (n - 1) / 8 := by omega
  have hi1 : (n - 1) / 8 < (m : Int) := by omega
  obtain ⟨hc, hf⟩ := own_at ho ((n - 1) / 8) hi0 hi1
  have HS := Aside0.mk (own_store ho ((n - 1) / 8) (orBit (rd xs ((n - 1) / 8)) n))
  clear ho
  go_enter Try.func19, Try.ntmps19
  go_wp2
  go_region
  go_end0
  exact ⟨rfl, ownsRow_drew HS.out.1, grownBy_drew HS.out.2⟩

def bitmap_Write.f (l0 : List Int) : Option (List Int × Int) := match scanL 1 l0 with
  | none => some ([], 1)
  | some was => some (l0.foldl setBit (startBits was), 0)
theorem info5_ : (Try.prog.info? 5).map (fun i => (i.zero, i.size, i.bytes)) = some (some (.int .u8 0), 1, 1) := by kernel_rfl

set_option maxHeartbeats 8000000 in
set_option maxRecDepth 100000 in
theorem bitmap_Write.calls (A0 : Option Addr) (c0 : Nat) (l0 : List Int) (r1 : List Int) (r2 : Int) (w : World) (hr0 : Kd.C (Kd.int .i64) w A0 l0.length l0) (hc0 : l0.length ≤ c0) (h : bitmap_Write.f l0 = some (r1, r2)) :
    Calls Try.prog 8 #[.slice A0 l0.length c0] w fun e w' => ∃ v0_ : Value, e = .returned (.tuple #[v0_, .int .i64 r2]) ∧ Kd.R (Kd.int .u8) 5 w' w.heap.size (fun _ => True) v0_ r1 ∧ Below w.heap.size w w' := by
  have hm0 := hr0.2.1
  have HR := Aside0.mk hr0
  have HF := Aside0.mk h
  clear hr0 h
  have km8 : ∀ W : World, (Instr.makeSlice 43 (.int .i64 8) (.int .i64 8)).run Try.prog W = .ok (.slice (some ⟨W.heap.size, 0, none⟩) 8 8) (W.alloc (.cells (madeCells #[.int .u8 0] 8) 5)) := print_make 43 5 .u8 1 Try.underlying43 info5_ (by decide) 8 (by decide)
  have km16 : ∀ W : World, (Instr.makeSlice 43 (.int .i64 16) (.int .i64 16)).run Try.prog W = .ok (.slice (some ⟨W.heap.size, 0, none⟩) 16 16) (W.alloc (.cells (madeCells #[.int .u8 0] 16) 5)) := print_make 43 5 .u8 1 Try.underlying43 info5_ (by decide) 16 (by decide)
  go_enter Try.func8, Try.ntmps8
  go_wp2
  go_loop [4, 6, 13] (fun s4 _ s13 => ∃ (kk : Nat) (was : Int), kk ≤ l0.length ∧ s13 = .int .i64 kk ∧ s4 = .int .i64 was ∧ Aside0 (scanL 1 l0 = scanL was (l0.drop kk))) (fun _ _ s13 => l0.length - (intOf s13).toNat)
  case atStart => exact ⟨0, 1, Nat.zero_le _, rfl, rfl, ⟨rfl⟩⟩
  case round =>
    obtain ⟨kk, was, hkk, rfl, rfl, HS⟩ := hrel
    by_cases hlt : kk < l0.length
    · have hltz : (kk : Int) < (l0.length : Int) := by omega
      obtain ⟨ad, e1, h0⟩ := Kd.at_int HR.out (kk : Int) (by omega) (by omega)
      subst e1
      rw [Int.toNat_natCast] at h0
      have HD := Aside0.mk (rd_drop l0 kk hlt)
      generalize hy : rd l0 (kk : Int) = y at h0 HD
      clear hy
      by_cases c1 : y ≤ was
      · have c1b : decide (y ≤ was) = true := decide_eq_true c1
        have hs : scanL 1 l0 = none := by rw [HS.out, HD.out]; simp [scanL, c1]
        have hr := HF.out
        unfold bitmap_Write.f at hr
        rw [hs] at hr
        simp only [Option.some.injEq, Prod.mk.injEq] at hr
        obtain ⟨rfl, rfl⟩ := hr
        clear c1 hs
        go_wp2
        go_ret2
        exact ⟨.slice none 0 0, rfl, Kd.R_nil _ _ _ _ _, Below.refl _ _⟩
      have c1b : decide (y ≤ was) = false := decide_eq_false c1
      by_cases c2 : 128 < y
      · have c2b : decide (128 < y) = true := decide_eq_true c2
        have hs : scanL 1 l0 = none := by rw [HS.out, HD.out]; simp [scanL, c1, c2]
        have hr := HF.out
        unfold bitmap_Write.f at hr
        rw [hs] at hr
        simp only [Option.some.injEq, Prod.mk.injEq] at hr
        obtain ⟨rfl, rfl⟩ := hr
        clear c1 c2 hs
        go_wp2
        go_ret2
        exact ⟨.slice none 0 0, rfl, Kd.R_nil _ _ _ _ _, Below.refl _ _⟩
      have c2b : decide (128 < y) = false := decide_eq_false c2
      by_cases c3 : y = 65
      · have c3b : (y == 65) = true := beq_iff_eq.2 c3
        have hs : scanL 1 l0 = none := by rw [HS.out, HD.out]; simp [scanL, c1, c2, c3]
        have hr := HF.out
        unfold bitmap_Write.f at hr
        rw [hs] at hr
        simp only [Option.some.injEq, Prod.mk.injEq] at hr
        obtain ⟨rfl, rfl⟩ := hr
        clear c1 c2 c3 hs
        go_wp2
        go_ret2
        exact ⟨.slice none 0 0, rfl, Kd.R_nil _ _ _ _ _, Below.refl _ _⟩
      have c3b : (y == 65) = false := beq_eq_false_iff_ne.2 c3
      have HN : Aside0 (scanL 1 l0 = scanL y (l0.drop (kk + 1))) := ⟨by rw [HS.out, HD.out]; simp [scanL, c1, c2, c3]⟩
      clear c1 c2 c3
      go_wp2
      go_round
      case rel => exact ⟨kk + 1, y, by omega, by go_num, rfl, HN⟩
      case measure => simp [intOf]; omega
    · have hltz : ¬ (kk : Int) < (l0.length : Int) := by omega
      have hs : scanL 1 l0 = some was := by rw [HS.out, List.drop_eq_nil_of_le (by omega)]; rfl
      have hr := HF.out
      unfold bitmap_Write.f at hr
      rw [hs] at hr
      simp only [Option.some.injEq, Prod.mk.injEq] at hr
      obtain ⟨rfl, rfl⟩ := hr
      have HB := Aside0.mk (scan_bounds l0 1 was hs)
      have hlt' : decide ((kk : Int) < (l0.length : Int)) = false := decide_eq_false hltz
      clear hs HS HF
      by_cases c : 64 < was
      · have cb : decide (64 < was) = true := decide_eq_true c
        have HC := Aside0.mk c
        have HST : Aside0 (startBits was = setBit (List.replicate 16 0) 1) := ⟨by unfold startBits; rw [if_pos c]⟩
        clear c
        go_wp2_with fail
        have HO1 : Aside0 (((w.alloc (Obj.cells (madeCells #[Value.int IntKind.u8 0] 8) 5)).alloc (Obj.cells (madeCells #[Value.int IntKind.u8 0] 16) 5)).ownsRow w.heap.size 5 1 (.slice (some ⟨w.heap.size + 1, 0, none⟩) 16 16) 16 (nums .u8 (List.replicate 16 0))) := ⟨by
          have := own_made (w.alloc (Obj.cells (madeCells #[Value.int IntKind.u8 0] 8) 5)) w.heap.size 5 .u8 16 (by simp) (by decide)
          simpa using this⟩
        refine (set_calls w.heap.size (w.heap.size + 1) 16 16 1 _ _ (by decide) (by decide) (by decide) HO1.out).mono ?_
        rintro e w2 ⟨rfl, ho, hg⟩
        have HO : Aside0 (w2.ownsRow w.heap.size 5 1 (.slice (some ⟨w.heap.size + 1, 0, none⟩) 16 16) 16 (nums .u8 ((l0.take 0).foldl setBit (startBits was)))) := ⟨by rw [HST.out]; exact ho⟩
        have HW : Aside0 (Below w.heap.size w w2) := ⟨(below_alloc (below_alloc (Below.refl _ w) _) _).grown hg (by simp; omega) (own_base HO1.out)⟩
        clear ho hg HO1
        go_wp2
        go_loopg [10, 42, 48] l0.length (fun gg _ s42 _ wr => ∃ kk2 : Nat, kk2 ≤ l0.length ∧ l0.length - kk2 ≤ gg ∧ s42 = .int .i64 kk2 ∧ Aside0 (wr.ownsRow w.heap.size 5 1 (.slice (some ⟨w.heap.size + 1, 0, none⟩) 16 16) 16 (nums .u8 ((l0.take kk2).foldl setBit (startBits was)))) ∧ Aside0 (Below w.heap.size w wr))
        case atStart => exact ⟨0, Nat.zero_le _, by omega, rfl, HO, HW⟩
        case round =>
          obtain ⟨kk2, hkk2, hg2, rfl, HO2, HW2⟩ := hrel
          by_cases hlt2 : kk2 < l0.length
          · have hltz2 : (kk2 : Int) < (l0.length : Int) := by omega
            obtain ⟨ad, e1, h0⟩ := Kd.at_int (Kd.C_below HR.out HW2.out) (kk2 : Int) (by omega) (by omega)
            subst e1
            rw [Int.toNat_natCast] at h0
            have HT := Aside0.mk (take_rd l0 kk2 hlt2)
            have HM := Aside0.mk (HB.out.2 _ (rd_mem l0 kk2 hlt2))
            generalize hy : rd l0 (kk2 : Int) = y at h0 HT HM
            clear hy
            go_wp2_with fail
            refine (set_calls w.heap.size (w.heap.size + 1) 16 16 y _ wr (by have := HM.out; omega) (by have := HM.out; omega) (by decide) HO2.out).mono ?_
            rintro e w2 ⟨rfl, ho, hg⟩
            have HO3 := Aside0.mk ho
            have HW3 := Aside0.mk (HW2.out.grown hg HW2.out.size (own_base HO2.out))
            clear ho hg
            go_wp2
            go_roundg (l0.length - (kk2 + 1))
            case measure => omega
            case rel => exact ⟨kk2 + 1, by omega, by omega, by go_num, ⟨by rw [HT.out, List.foldl_append]; exact HO3.out⟩, HW3⟩
          · have hltz2 : ¬ (kk2 : Int) < (l0.length : Int) := by omega
            have HE := Aside0.mk (show l0.take kk2 = l0 from List.take_of_length_le (by omega))
            go_wp2
            go_ret2
            refine ⟨.slice (some ⟨w.heap.size + 1, 0, none⟩) 16 16, rfl, ?_, HW2.out⟩
            refine Kd.R_of_own ?_ (fun _ _ => trivial)
            have hl : (l0.foldl setBit (startBits was)).length = 16 := by rw [foldBit_length]; unfold startBits; rw [if_pos HC.out, setBit_length]; rfl
            rw [hl]
            have := HO2.out
            rw [HE.out] at this
            exact this
      · have cb : decide (64 < was) = false := decide_eq_false c
        have HC := Aside0.mk c
        have HST : Aside0 (startBits was = List.replicate 8 0) := ⟨by unfold startBits; rw [if_neg c]⟩
        clear c
        have HO : Aside0 ((w.alloc (Obj.cells (madeCells #[Value.int IntKind.u8 0] 8) 5)).ownsRow w.heap.size 5 1 (.slice (some ⟨w.heap.size, 0, none⟩) 8 8) 8 (nums .u8 ((l0.take 0).foldl setBit (startBits was)))) := ⟨by
          rw [HST.out]
          exact own_made w w.heap.size 5 .u8 8 (Nat.le_refl _) (by decide)⟩
        have HW : Aside0 (Below w.heap.size w (w.alloc (Obj.cells (madeCells #[Value.int IntKind.u8 0] 8) 5))) := ⟨below_alloc (Below.refl _ w) _⟩
        go_wp2
        go_loopg [10, 42, 48] l0.length (fun gg _ s42 _ wr => ∃ kk2 : Nat, kk2 ≤ l0.length ∧ l0.length - kk2 ≤ gg ∧ s42 = .int .i64 kk2 ∧ Aside0 (wr.ownsRow w.heap.size 5 1 (.slice (some ⟨w.heap.size, 0, none⟩) 8 8) 8 (nums .u8 ((l0.take kk2).foldl setBit (startBits was)))) ∧ Aside0 (Below w.heap.size w wr))
        case atStart => exact ⟨0, Nat.zero_le _, by omega, rfl, HO, HW⟩
        case round =>
          obtain ⟨kk2, hkk2, hg2, rfl, HO2, HW2⟩ := hrel
          by_cases hlt2 : kk2 < l0.length
          · have hltz2 : (kk2 : Int) < (l0.length : Int) := by omega
            obtain ⟨ad, e1, h0⟩ := Kd.at_int (Kd.C_below HR.out HW2.out) (kk2 : Int) (by omega) (by omega)
            subst e1
            rw [Int.toNat_natCast] at h0
            have HT := Aside0.mk (take_rd l0 kk2 hlt2)
            have HM := Aside0.mk (HB.out.2 _ (rd_mem l0 kk2 hlt2))
            generalize hy : rd l0 (kk2 : Int) = y at h0 HT HM
            clear hy
            go_wp2_with fail
            refine (set_calls w.heap.size (w.heap.size) 8 8 y _ wr (by have := HM.out; omega) (by have := HM.out; have := HC.out; omega) (by decide) HO2.out).mono ?_
            rintro e w2 ⟨rfl, ho, hg⟩
            have HO3 := Aside0.mk ho
            have HW3 := Aside0.mk (HW2.out.grown hg HW2.out.size (own_base HO2.out))
            clear ho hg
            go_wp2
            go_roundg (l0.length - (kk2 + 1))
            case measure => omega
            case rel => exact ⟨kk2 + 1, by omega, by omega, by go_num, ⟨by rw [HT.out, List.foldl_append]; exact HO3.out⟩, HW3⟩
          · have hltz2 : ¬ (kk2 : Int) < (l0.length : Int) := by omega
            have HE := Aside0.mk (show l0.take kk2 = l0 from List.take_of_length_le (by omega))
            go_wp2
            go_ret2
            refine ⟨.slice (some ⟨w.heap.size, 0, none⟩) 8 8, rfl, ?_, HW2.out⟩
            refine Kd.R_of_own ?_ (fun _ _ => trivial)
            have hl : (l0.foldl setBit (startBits was)).length = 8 := by rw [foldBit_length]; unfold startBits; rw [if_neg (by have := HC.out; omega)]; rfl
            rw [hl]
            have := HO2.out
            rw [HE.out] at this
            exact this
end Go.Proofs.Ytfjfmlajnamlpaa.MB
