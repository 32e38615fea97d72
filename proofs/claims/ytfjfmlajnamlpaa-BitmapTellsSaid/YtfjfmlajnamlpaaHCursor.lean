/- What the cursor and bitmap.which come to: walked. -/
import Derived.Test.YtfjfmlajnamlpaaMBx1
import Derived.Test.YtfjfmlajnamlpaaHWhich
import Derived.Test.YtfjfmlajnamlpaaHClone
import Derived.RegionTactic
import Derived.ChangeAlike
import Derived.Shelf.Abstract
import Derived.Lib.LazyBuf
namespace Go.Proofs.Ytfjfmlajnamlpaa.MB
open Go.RowKit Go.Proofs.YtfjfmlajnamlpaaW.PrintWords Go.Proofs.YtfjfmlajnamlpaaW.PrintLast Go.Proofs.YtfjfmlajnamlpaaW.PrintMore
set_option linter.unusedVariables false
set_option linter.unusedSimpArgs false

theorem w64_in (n : Int) (h : -9223372036854775808 ≤ n ∧ n ≤ 9223372036854775807) : wrap64 n = n := by unfold wrap64; omega

/-! ### has -/
theorem has_tab : ∀ k : Fin 8, ∀ x : Fin 256, (Go.bits .and .u8 (shr .u8 (x.val : Int) ((k.val : Nat) : Int)) 1 == 1) = x.val.testBit k.val := by decide +kernel
theorem has_is (xs : List Int) (n : Int) (h8 : Bytes8 xs) (h1 : 1 ≤ n) (h2 : n ≤ 8 * xs.length) (hm : xs.length ≤ 1000) : bitmap_bits_has.f xs n = some (hasBit xs n) := by
  unfold bitmap_bits_has.f
  have e1 : wrap64 (n - 1) = n - 1 := w64_in _ ⟨by omega, by omega⟩
  have e2 : wrap64 (Int.tdiv (n - 1) 8) = (n - 1) / 8 := by rw [Int.tdiv_eq_ediv_of_nonneg (by omega)]; exact w64_in _ ⟨by omega, by omega⟩
  have e3 : wrap64 (7 - Int.tmod (n - 1) 8) = 7 - (n - 1) % 8 := by rw [Int.tmod_eq_emod_of_nonneg (by omega)]; exact w64_in _ ⟨by omega, by omega⟩
  rw [e1, e2, e3, if_pos (by omega), if_pos (by omega), if_pos (by omega)]
  congr 1
  unfold hasBit
  have hr := bytes_rd h8 ((n - 1) / 8)
  generalize rd xs ((n - 1) / 8) = x at hr
  have hk : 0 ≤ 7 - (n - 1) % 8 ∧ 7 - (n - 1) % 8 < 8 := by omega
  generalize 7 - (n - 1) % 8 = k at hk
  have := has_tab ⟨k.toNat, by omega⟩ ⟨x.toNat, by omega⟩
  simp only [Int.toNat_of_nonneg hr.1, Int.toNat_of_nonneg hk.1] at this
  exact this

/-! ### which -/
set_option maxHeartbeats 8000000 in
set_option maxRecDepth 100000 in
theorem which_calls (a b : Int) (N : Nat) (ad : Addr) (c m : Nat) (xs : List Int) (w : World) (hm : m = xs.length) (ha : 1 ≤ a) (hb : a + N = b + 1) (hN : b ≤ 8 * xs.length) (h16 : xs.length ≤ 1000) (h8 : Bytes8 xs) (hr : Kd.C (Kd.int .u8) w (some ad) xs.length xs) (hc : xs.length ≤ c) :
    Calls Try.prog 23 #[.int .i64 a, .int .i64 b, .func (.func 22) #[.slice (some ad) m c] #[]] w fun e w' => ∃ v : Value, e = .returned v ∧ Kd.R (Kd.int .i64) 3 w' w.heap.size (fun _ => True) v (whichL xs a N) ∧ Below w.heap.size w w' := by
  have HR := Aside0.mk hr
  have HC := Aside0.mk hc
  have H8 := Aside0.mk h8
  have HX := Aside0.mk (And.intro hm h16)
  have HE := Aside0.mk (And.intro ha (And.intro hb hN))
  have eg : ∀ args w, (callFunc 22 args).run Try.prog w = .ok (.enter 22 args) w := enters_of Try.func22 (by kernel_rfl) rfl
  clear hr hc h8 hm h16 ha hb hN
  go_enter Try.func23, Try.ntmps23
  go_wp2
  go_loopg [7, 8] N (fun gg s7 s8 wr => ∃ kk : Nat, kk ≤ N ∧ N - kk ≤ gg ∧ s8 = .int .i64 (a + kk) ∧ Aside0 (Kd.R (Kd.int .i64) 3 wr w.heap.size (fun _ => True) s7 (whichL xs a kk)) ∧ Aside0 (Below w.heap.size w wr))
  case atStart => exact ⟨0, Nat.zero_le _, by omega, by simp, ⟨Kd.R_nil _ _ _ _ _⟩, ⟨Below.refl _ w⟩⟩
  case round =>
    obtain ⟨kk, hkk, hg, rfl, HO, HB⟩ := hrel
    by_cases hlt : kk < N
    · have hltz : decide (a + (kk : Int) ≤ b) = true := decide_eq_true (by have := HE.out; omega)
      have HY := Aside0.mk (whichL_succ xs a kk)
      have HU := Aside0.mk (has_is xs (a + kk) H8.out (by have := HE.out; omega) (by have := HE.out; omega) (HX.out.2))
      have Hy := Aside0.mk (show a + (kk : Int) + 1 = a + ((kk + 1 : Nat) : Int) by omega)
      have Hw := Aside0.mk (show wrap64 (a + (kk : Int) + 1) = a + (kk : Int) + 1 from w64_in _ ⟨by have := HE.out; have := HX.out; omega, by have := HE.out; have := HX.out; omega⟩)
      generalize hy : a + (kk : Int) = y at hltz HY HU Hy Hw
      have HV := Aside0.mk (Kd.C_below HR.out HB.out)
      have LM := Aside0.mk (show (whichL xs a kk).length < 17592186044416 by have := whichL_length xs a kk; have := HE.out; have := HX.out; omega)
      cases hq : hasBit xs y with
      | true =>
        rw [hq] at HU HY
        have hcall := bitmap_bits_has.calls (some ad) c xs y true wr HV.out HC.out HU.out
        rw [← HX.out.1] at hcall
        clear hy hq
        go_wp2_with (first | (go_at_fn 22; refine hcall.mono ?_; rintro e w' ⟨rfl, ⟨nd, rfl⟩⟩) | ((with_reducible refine gate_builtin (b := .append) (xs := #[.tmp 18, .tmp 20]) rfl ?_); (try (refine gate_guard (by rfl) ?_; dsimp only)); at_builtin; refine Kd.R_append (Kd.int .i64) (w0 := w) w.heap.size rfl (.tmp 18) (.tmp 20) 27 3 (.int .i64 0) 8 rfl Try.underlying27 info3 rfl (by decide) (by omega) u7 (whichL xs a kk) y [.int .i64 y] (fun _ => True) (fun _ => False) rfl rfl ?aP (fun _ hk => hk.elim) ?aF ?aO ?aB ?aS ?aL ?_; (case aP => exact rfl); (case aB => exact (by repeat (first | (with_reducible first | exact HB.out | apply below_alloc | apply pw_below_drewN | apply below_drew1) | exact HB.out))); (case aF => exact (fun _ _ => trivial)); (case aO => exact (by (with_reducible repeat (first | apply Kd.R_alloc | apply Kd.R_drewN | apply Kd.R_drew)); exact HO.out)); (case aS => exact (below_size (by repeat (first | (with_reducible first | exact HB.out | apply below_alloc | apply pw_below_drewN | apply below_drew1) | exact HB.out)))); (case aL => have := LM.out; omega); intro v16 w16 ho hb hg hat; have n0_ := Aside0.mk (hb); have n1_ := Aside0.mk (ho); clear HB; clear HO; have HB := n0_; have HO := n1_; clear n0_ n1_; clear ho hb hg hat))
        go_roundg (N - (kk + 1))
        case measure => omega
        case rel => exact ⟨kk + 1, by omega, by omega, by rw [Hw.out, Hy.out], ⟨by rw [HY.out]; exact HO.out⟩, HB⟩
      | false =>
        rw [hq] at HU HY
        have hcall := bitmap_bits_has.calls (some ad) c xs y false wr HV.out HC.out HU.out
        rw [← HX.out.1] at hcall
        clear hy hq
        go_wp2_with (first | (go_at_fn 22; refine hcall.mono ?_; rintro e w' ⟨rfl, ⟨nd, rfl⟩⟩))
        go_roundg (N - (kk + 1))
        case measure => omega
        case rel => exact ⟨kk + 1, by omega, by omega, by rw [Hw.out, Hy.out], ⟨by rw [HY.out]; exact Kd.R_drewN (by simpa using HO.out) _⟩, ⟨pw_below_drewN HB.out _⟩⟩
    · have hltz : decide (a + (kk : Int) ≤ b) = false := decide_eq_false (by have := HE.out; omega)
      obtain rfl : kk = N := by omega
      go_wp2
      go_ret
      exact ⟨_, rfl, HO.out, HB.out⟩
/-! ### the cursor -/
def curW (w : World) (g : Nat) (A : Option Addr) (n c at_ : Nat) : Prop := w.heap[g]? = some (.cells #[.slice A n c, .int .i64 at_] 54 (0, 0))
set_option maxHeartbeats 4000000 in
theorem left_calls (g : Nat) (A : Option Addr) (n c at_ : Nat) (w : World) (hg : curW w g A n c at_) (hn : at_ ≤ n) (hs : n ≤ 1000) :
    Calls Try.prog 33 #[.pointer (some ⟨g, 0, none⟩)] w fun e w' => e = .returned (.int .i64 ((n : Int) - at_)) ∧ ∃ m, w' = w.drewN m := by
  have c0 := blk_cell hg 0
  have c1 := blk_cell hg 1
  simp only [List.getElem?_toArray, List.getElem?_cons_zero, List.getElem?_cons_succ] at c0 c1
  have hw := show wrap64 ((n : Int) - at_) = (n : Int) - at_ from w64_in _ ⟨by omega, by omega⟩
  have HE : Aside0 (Value.int .i64 (wrap64 ((n : Int) - at_)) = .int .i64 ((n : Int) - at_)) := ⟨by rw [hw]⟩
  clear hg hn hs
  go_enter Try.func33, Try.ntmps33
  go_wp2
  go_region
  go_wp2
  go_ret
  exact ⟨congrArg Ending.returned HE.out, 1, rfl⟩
theorem cur_put {w : World} {g : Nat} {A : Option Addr} {n c at_ : Nat} (hg : curW w g A n c at_) (a2 : Nat) : curW (w.setCell ⟨g, 1, none⟩ (.int .i64 a2)) g A n c a2 ∧ w.grownBy (w.setCell ⟨g, 1, none⟩ (.int .i64 a2)) (some g) :=
  ⟨blk_put hg 1 _ rfl, ⟨rfl, rfl, rfl, by simp [World.setCell], fun k _ hk => Below.heap_setCell _ _ _ _ (fun e => hk (by rw [e]))⟩⟩
set_option maxHeartbeats 4000000 in
theorem take_calls (g b n c at_ : Nat) (w : World) (hg : curW w g (some ⟨b, 0, none⟩) n c at_) (hn : at_ + 8 ≤ n) (hc : n ≤ c) (hs : n ≤ 1000) :
    Calls Try.prog 30 #[.pointer (some ⟨g, 0, none⟩), .int .i64 8] w fun e w' => e = .returned (.tuple #[.slice (some ⟨b, at_, none⟩) 8 (c - at_), .int .i64 0]) ∧ curW w' g (some ⟨b, 0, none⟩) n c (at_ + 8) ∧ w.grownBy w' (some g) := by
  have c0 := blk_cell hg 0
  have c1 := blk_cell hg 1
  have f1 := blk_frozen hg 1
  simp only [List.getElem?_toArray, List.getElem?_cons_zero, List.getElem?_cons_succ] at c0 c1
  have HL := Aside0.mk (left_calls g _ n c at_ w hg (by omega) hs)
  have HG := Aside0.mk hg
  have hlt : decide ((8 : Int) > (n : Int) - at_) = false := decide_eq_false (by omega)
  have hlt2 : decide ((n : Int) - at_ < 8) = false := decide_eq_false (by omega)
  have hw := show wrap64 ((at_ : Int) + 8) = ((at_ + 8 : Nat) : Int) by rw [w64_in _ ⟨by omega, by omega⟩]; omega
  clear hg
  go_enter Try.func30, Try.ntmps30
  go_wp2_with (go_at_call 33; refine HL.out.mono ?_; rintro e w' ⟨rfl, nd, rfl⟩)
  have HW := cur_put (show curW (w.drewN nd) g (some ⟨b, 0, none⟩) n c at_ from HG.out) (at_ + 8)
  rw [show (((at_ + 8 : Nat) : Int)) = (at_ : Int) + 8 by omega] at HW
  have HW2 := Aside0.mk HW
  have c0' := blk_cell HW.1 0
  have c1' := blk_cell HW.1 1
  simp only [List.getElem?_toArray, List.getElem?_cons_zero, List.getElem?_cons_succ] at c0' c1'
  rw [show (((at_ + 8 : Nat) : Int)) = (at_ : Int) + 8 by omega] at c1'
  clear HW
  have hw2 := show wrap64 ((at_ : Int) + 8 - 8) = (at_ : Int) by rw [w64_in _ ⟨by omega, by omega⟩]; omega
  have q1 : (at_ : Int) + 8 ≤ (c : Int) := by omega
  have q2 : at_ + 8 ≤ c := by omega
  have q3 : ((at_ : Int) + 8).toNat = at_ + 8 := by omega
  clear c0 c1 f1
  generalize (w.drewN nd).setCell _ _ = W at c0' c1' HW2 ⊢
  go_region
  go_wp2
  go_ret2
  refine ⟨rfl, HW2.out.1, ?_⟩
  exact ⟨HW2.out.2.os, HW2.out.2.tape, HW2.out.2.output, HW2.out.2.size, HW2.out.2.block⟩
set_option maxHeartbeats 4000000 in
theorem take_short (g : Nat) (A : Option Addr) (n c at_ : Nat) (w : World) (hg : curW w g A n c at_) (hn : at_ ≤ n) (hn2 : n < at_ + 8) (hs : n ≤ 1000) :
    Calls Try.prog 30 #[.pointer (some ⟨g, 0, none⟩), .int .i64 8] w fun e w' => e = .returned (.tuple #[.slice none 0 0, .int .i64 3]) ∧ ∃ m, w' = w.drewN m := by
  have HL := Aside0.mk (left_calls g _ n c at_ w hg hn hs)
  have hlt : decide ((8 : Int) > (n : Int) - at_) = true := decide_eq_true (by omega)
  have hlt2 : decide ((n : Int) - at_ < 8) = true := decide_eq_true (by omega)
  clear hg
  go_enter Try.func30, Try.ntmps30
  go_wp2_with (go_at_call 33; refine HL.out.mono ?_; rintro e w' ⟨rfl, nd, rfl⟩)
  go_ret2
  exact ⟨rfl, nd, rfl⟩
set_option maxHeartbeats 4000000 in
theorem read_calls (p : Addr) (w : World) (Q : Ending → World → Prop) (v : Value) (e_ : Int) (h : Calls Try.prog 30 #[.pointer (some p), .int .i64 8] w fun e w' => e = .returned (.tuple #[v, .int .i64 e_]) ∧ Q (.returned (.tuple #[v, .int .i64 e_])) w') :
    Calls Try.prog 29 #[.func (.func 30) #[.pointer (some p)] #[], .int .i64 8] w fun e w' => e = .returned (.tuple #[v, .int .i64 e_]) ∧ Q e w' := by
  have H := Aside0.mk h
  have eg : ∀ args w, (callFunc 30 args).run Try.prog w = .ok (.enter 30 args) w := enters_of Try.func30 (by kernel_rfl) rfl
  clear h
  go_enter Try.func29, Try.ntmps29
  go_wp2_with (go_at_fn 30; refine H.out.mono ?_; rintro e w' ⟨rfl, hq⟩; have HQ := Aside0.mk hq; clear hq)
  go_ret2
  exact ⟨rfl, HQ.out⟩
theorem grown_then {w w1 w2 : World} {g : Nat} (h : w.grownBy w1 (some g)) (hb : Below w1.heap.size w1 w2) : w.grownBy w2 (some g) :=
  ⟨hb.os.trans h.os, hb.tape.trans h.tape, hb.output.trans h.output, Nat.le_trans h.size hb.size, fun k hk hne => (hb.block k (Nat.lt_of_lt_of_le hk h.size)).trans (h.block k hk hne)⟩
theorem own_C {w : World} {base n : Nat} {A : Option Addr} {c : Nat} {xs : List Int} (ho : w.ownsRow base 5 1 (.slice A n c) n (nums .u8 xs)) : n = xs.length ∧ n ≤ c ∧ Kd.C (Kd.int .u8) w A xs.length xs := by
  have hl : n = xs.length := by have := ho.1; simp [nums] at this; omega
  subst hl
  exact Kd.R_reads' (Kd.R_of_own (ok := fun _ => True) ho (fun _ _ => trivial))
set_option maxHeartbeats 4000000 in
theorem Take_calls (g b n c at_ base : Nat) (xs : List Int) (w : World) (hg : curW w g (some ⟨b, 0, none⟩) n c at_) (ho : w.ownsRow base 5 1 (.slice (some ⟨b, 0, none⟩) n c) n (nums .u8 xs)) (hne : b ≠ g) (hn : at_ + 8 ≤ n) (hs : n ≤ 1000) :
    Calls Try.prog 21 #[.pointer (some ⟨g, 0, none⟩), .int .i64 8] w fun e w' => ∃ v : Value, e = .returned (.tuple #[v, .int .i64 0]) ∧ Kd.R (Kd.int .u8) 5 w' w.heap.size (fun _ => True) v ((xs.drop at_).take 8) ∧ curW w' g (some ⟨b, 0, none⟩) n c (at_ + 8) ∧ w.grownBy w' (some g) := by
  obtain ⟨hl, hc, hC⟩ := own_C ho
  have HT := Aside0.mk (read_calls ⟨g, 0, none⟩ w (fun _ w' => curW w' g (some ⟨b, 0, none⟩) n c (at_ + 8) ∧ w.grownBy w' (some g)) _ _ (take_calls g b n c at_ w hg hn hc hs))
  have HO := Aside0.mk ho
  have HL := Aside0.mk (And.intro hl (And.intro hn (And.intro hc (And.intro hs hne))))
  clear hg ho hne hn hs hl hc hC
  go_enter Try.func21, Try.ntmps21
  go_wp2_with (go_at_call 29; refine HT.out.mono ?_; rintro e w' ⟨rfl, hq⟩; have HQ := Aside0.mk hq; clear hq)
  have HC : Aside0 (Kd.C (Kd.int .u8) w' (some ⟨b, at_, none⟩) ((xs.drop at_).take 8).length ((xs.drop at_).take 8)) := ⟨by
    obtain ⟨e1, h1, h2, h3, h4⟩ := HL.out
    have hC := (own_C (HO.out.kept HQ.out.2 (.inr (by simp [Value.ownBlock]; exact h4)))).2.2
    have h5 := Kd.C_drop (m := at_) (c := c) hC (by omega) (by omega)
    rw [if_neg (by omega)] at h5
    have h6 := Kd.C_take (m := 8) h5 (by rw [List.length_drop]; omega)
    have hz : (Kd.int IntKind.u8).sz = 1 := rfl
    rw [hz, Nat.mul_one] at h6
    have e2 : (if at_ = 0 then (⟨b, 0, none⟩ : Addr) else ⟨b, at_, none⟩) = ⟨b, at_, none⟩ := by split <;> simp_all
    have h7 : (Kd.int IntKind.u8).C w' (some (if at_ = 0 then (⟨b, 0, none⟩ : Addr) else ⟨b, at_, none⟩)) ((xs.drop at_).take 8).length ((xs.drop at_).take 8) := by simpa [Addr.add] using h6
    rw [e2] at h7
    exact h7⟩
  have h8 : ((xs.drop at_).take 8).length = 8 := by rw [List.length_take, List.length_drop]; have := HL.out; omega
  have HK := Aside0.mk (slices_Clone_byte_byte.calls (some ⟨b, at_, none⟩) (c - at_) _ _ w' HC.out (by have := HL.out; omega) (show slices_Clone_byte_byte.f ((xs.drop at_).take 8) = some ((xs.drop at_).take 8) by unfold slices_Clone_byte_byte.f; rw [if_pos (by omega)]))
  rw [h8] at HK
  generalize hys : (xs.drop at_).take 8 = ys at HK
  have HY := Aside0.mk hys
  clear h8 HC hys
  go_wp2_with (go_at_call 28; refine HK.out.mono ?_; rintro e w2 ⟨v, rfl, ho, hb⟩; have HO2 := Aside0.mk ho; have HB2 := Aside0.mk hb; clear ho hb)
  go_ret2
  refine ⟨v, rfl, by rw [HY.out]; exact Kd.R_lower HO2.out HQ.out.2.size, ?_, grown_then HQ.out.2 HB2.out⟩
  exact blk_below HQ.out.1 HB2.out
set_option maxHeartbeats 4000000 in
theorem Take_short (g : Nat) (A : Option Addr) (n c at_ : Nat) (w : World) (hg : curW w g A n c at_) (hn : at_ ≤ n) (hn2 : n < at_ + 8) (hs : n ≤ 1000) :
    Calls Try.prog 21 #[.pointer (some ⟨g, 0, none⟩), .int .i64 8] w fun e w' => ∃ v : Value, e = .returned (.tuple #[v, .int .i64 3]) ∧ Below w.heap.size w w' := by
  have HT := Aside0.mk (read_calls ⟨g, 0, none⟩ w (fun _ w' => ∃ m, w' = w.drewN m) _ _ (take_short g A n c at_ w hg hn hn2 hs))
  have HK := Aside0.mk (fun w' => slices_Clone_byte_byte.calls none 0 [] [] w' (Kd.R_reads' (Kd.R_nil (Kd.int .u8) 5 w' 0 (fun _ => True))).2.2 (Nat.le_refl _) rfl)
  clear hg hn hn2 hs
  go_enter Try.func21, Try.ntmps21
  go_wp2_with (first | (go_at_call 29; refine HT.out.mono ?_; rintro e w' ⟨rfl, nd, rfl⟩) | (go_at_call 28; refine (HK.out _).mono ?_; rintro e w2 ⟨v, rfl, ho, hb⟩; have HB2 := Aside0.mk hb; clear ho hb))
  go_ret2
  exact ⟨v, rfl, below_step (pw_below_drewN (Below.refl _ w) nd) HB2.out⟩
set_option maxHeartbeats 4000000 in
theorem New_calls (A0 : Option Addr) (c0 : Nat) (l0 : List Int) (w : World) (hr0 : Kd.C (Kd.int .u8) w A0 l0.length l0) (hc0 : l0.length ≤ c0) (hl : l0.length ≤ 1000) :
    Calls Try.prog 20 #[.slice A0 l0.length c0] w fun e w' => ∃ (g : Nat) (A : Option Addr) (c : Nat), e = .returned (.pointer (some ⟨g, 0, none⟩)) ∧ curW w' g A l0.length c 0 ∧ w'.ownsRow w.heap.size 5 1 (.slice A l0.length c) l0.length (nums .u8 l0) ∧ w.heap.size ≤ g ∧ (∀ b, A = some b → b.block ≠ g) ∧ Below w.heap.size w w' := by
  have HK := Aside0.mk (slices_Clone_byte_byte.calls A0 c0 l0 l0 w hr0 hc0 (by unfold slices_Clone_byte_byte.f; rw [if_pos (by omega)]))
  clear hr0 hc0 hl
  go_enter Try.func20, Try.ntmps20
  go_wp2_with (go_at_call 28; refine HK.out.mono ?_; rintro e w2 ⟨v, rfl, ho, hb⟩; obtain ⟨A, c, hv⟩ := Kd.R_slice ho; subst hv; have HO2 := Aside0.mk ho; have HB2 := Aside0.mk hb; clear ho hb)
  go_ret
  have ho := Kd.own_of_R HO2.out
  refine ⟨w2.heap.size, A, c, rfl, ?_, ho.alloc _, HB2.out.size, fun b hb => ?_, below_alloc HB2.out _⟩
  · exact (blk_new w2 _).trans rfl
  · subst hb
    have := (ho.lt b.block rfl).2
    omega
end Go.Proofs.Ytfjfmlajnamlpaa.MB
