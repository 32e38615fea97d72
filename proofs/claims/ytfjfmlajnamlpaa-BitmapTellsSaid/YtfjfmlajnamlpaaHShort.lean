/- comptoirlaw03.BitmapShort walked: cut it is too short; with a second part that says nothing, or a third one, it is none. -/
import Derived.Test.YtfjfmlajnamlpaaHParse
import Derived.Test.YtfjfmlajnamlpaaMBx3
namespace Go.Proofs.Ytfjfmlajnamlpaa.MB
open Go.RowKit Go.Proofs.YtfjfmlajnamlpaaW.PrintWords Go.Proofs.YtfjfmlajnamlpaaW.PrintLast Go.Proofs.YtfjfmlajnamlpaaW.PrintMore
set_option linter.unusedVariables false
set_option linter.unusedSimpArgs false

/-! ### plain -/
theorem u64_pos (a : Int) : 0 ≤ IntKind.u64.wrap a := by unfold IntKind.wrap; simp [IntKind.signed, IntKind.bits]; omega
theorem has_set (y : List Int) (i : Nat) (x m : Int) (hi : i < y.length) (hm : 1 ≤ m) : hasBit (y.set i x) m = if (i : Int) = (m - 1) / 8 then x.toNat.testBit (7 - (m - 1) % 8).toNat else hasBit y m := by
  unfold hasBit
  rw [rd_set y i x _ (by omega) hi]
  split <;> rfl
/-- Sixteen bytes, the first one's first bit set, the second half's bits up to byte k not set. -/
def Half (y : List Int) (k : Nat) : Prop := y.length = 16 ∧ Bytes8 y ∧ hasBit y 1 = true ∧ ∀ m : Int, 65 ≤ m → m ≤ 8 * k → hasBit y m = false
theorem half_step (y : List Int) (k : Nat) (h : Half y k) (h1 : 8 ≤ k) (h2 : k < 16) : Half (y.set k 0) (k + 1) := by
  obtain ⟨a, b, c, d⟩ := h
  refine ⟨by rw [List.length_set]; exact a, bytes_set b _ _ ⟨by decide, by decide⟩, ?_, fun m m1 m2 => ?_⟩
  · rw [has_set _ _ _ _ (by omega) (by decide), if_neg (by omega)]; exact c
  · rw [has_set _ _ _ _ (by omega) (by omega)]
    split
    · exact Nat.zero_testBit _
    · exact d m m1 (by omega)
theorem half_first (x : List Int) (h : x.length = 16) (h8 : Bytes8 x) : Half (x.set 0 (Go.bits .or .u8 (rd x 0) 128)) 8 := by
  have hr := bytes_rd h8 0
  have e : Go.bits .or .u8 (rd x 0) 128 = orBit (rd x 0) 1 := by unfold orBit; rfl
  have hs := orBit_spec (rd x 0) 1 hr
  rw [e]
  refine ⟨by rw [List.length_set]; exact h, bytes_set h8 _ _ hs.1, ?_, fun m m1 m2 => by omega⟩
  rw [has_set _ _ _ _ (by omega) (by decide), if_pos (by decide), hs.2]
  simp
theorem parse_cut (y : List Int) (h : Half y 8) (k : Nat) (hk : k < 16) : bitmap_Parse.f (y.take k) = some ([], 0, 3) := by
  obtain ⟨a, b, c, d⟩ := h
  have hl : (y.take k).length = k := by rw [List.length_take]; omega
  unfold bitmap_Parse.f
  rw [if_pos ⟨by omega, fun x hx => b x (List.mem_of_mem_take hx)⟩]
  congr 1
  unfold parseL
  by_cases c1 : k < 8
  · rw [if_pos (by omega)]
  · rw [if_neg (by omega), has_take y k 1 (by decide) (by omega), c, if_neg (by simp), if_pos (by omega)]
theorem parse_whole (y : List Int) (h : Half y 8) (h65 : hasBit y 65 = true ∨ whichL y 66 63 = []) : bitmap_Parse.f y = some ([], 0, 6) := by
  obtain ⟨a, b, c, d⟩ := h
  unfold bitmap_Parse.f
  rw [if_pos ⟨by omega, b⟩]
  congr 1
  unfold parseL
  rw [if_neg (by omega), c, if_neg (by simp), if_neg (by omega)]
  rcases h65 with h | h
  · rw [if_pos h]
  · rw [if_pos h]; split <;> rfl
theorem which_none (y : List Int) (h : Half y 16) : whichL y 66 63 = [] := by
  apply List.eq_nil_iff_forall_not_mem.2
  intro m hm
  have := (whichL_mem y 66 63 m).1 hm
  rw [h.2.2.2 m (by omega) (by omega)] at this
  simp at this
theorem half_less (y : List Int) (k : Nat) (h : Half y k) (hk : 8 ≤ k) : Half y 8 := ⟨h.1, h.2.1, h.2.2.1, fun m m1 m2 => by omega⟩
theorem half_what (y : List Int) (h : Half y 16) : Half ((y.set 8 128).set 15 1) 8 ∧ hasBit ((y.set 8 128).set 15 1) 65 = true := by
  obtain ⟨a, b, c, d⟩ := h
  have l1 : (y.set 8 128).length = 16 := by rw [List.length_set]; exact a
  refine ⟨⟨by rw [List.length_set]; exact l1, bytes_set (bytes_set b _ _ ⟨by decide, by decide⟩) _ _ ⟨by decide, by decide⟩, ?_, fun m m1 m2 => by omega⟩, ?_⟩
  · rw [has_set _ _ _ _ (by omega) (by decide), if_neg (by decide), has_set _ _ _ _ (by omega) (by decide), if_neg (by decide)]; exact c
  · rw [has_set _ _ _ _ (by omega) (by decide), if_neg (by decide), has_set _ _ _ _ (by omega) (by decide), if_pos (by decide)]; decide
def copied (l : List Int) : List Int := l.take (min l.length 16) ++ (List.replicate 16 0).drop (min l.length 16)
theorem copied_is (l : List Int) (h : Bytes8 l) : (copied l).length = 16 ∧ Bytes8 (copied l) := by
  unfold copied
  refine ⟨by simp; omega, fun x hx => ?_⟩
  rcases List.mem_append.1 hx with hx | hx
  · exact h x (List.mem_of_mem_take hx)
  · exact bytes_zeros 16 x (List.mem_of_mem_drop hx)
theorem awake_yes : comptoirlaw03_awake.f = some true := by kernel_rfl
theorem own_below {W w1 : World} {base n c : Nat} {A : Option Addr} {xs : List Int} (ho : W.ownsRow base 5 1 (.slice A n c) n (nums .u8 xs)) (hb : Below W.heap.size W w1) : w1.ownsRow base 5 1 (.slice A n c) n (nums .u8 xs) := by
  obtain ⟨e1, _, _⟩ := own_C ho
  subst e1
  have h : Kd.R (Kd.int .u8) 5 W base (fun _ => True) (.slice A xs.length c) xs := Kd.R_of_own ho (fun _ _ => trivial)
  exact Kd.own_of_R (Kd.R_below h hb)
set_option maxHeartbeats 8000000 in
set_option maxRecDepth 100000 in
theorem short_walk (A0 : Option Addr) (c0 : Nat) (l0 : List Int) (a1 : Int) (what : Bool) (w : World) (hr0 : Kd.C (Kd.int .u8) w A0 l0.length l0) (hc0 : l0.length ≤ c0) (h8 : Bytes8 l0) :
    Calls Try.prog 7 #[.slice A0 l0.length c0, .int .i64 a1, .bool what] w fun e w' => e = .returned (.bool true) ∧ Below w.heap.size w w' := by
  have HR := Aside0.mk hr0
  have H8 := Aside0.mk h8
  clear hr0 h8 hc0
  have km16 : ∀ W : World, (Instr.makeSlice 23 (.int .i64 16) (.int .i64 16)).run Try.prog W = .ok (.slice (some ⟨W.heap.size, 0, none⟩) 16 16) (W.alloc (.cells (madeCells #[.int .u8 0] 16) 5)) := print_make 23 5 .u8 1 Try.underlying23 info5 (by decide) 16 (by decide)
  have HB := Aside0.mk (below_alloc (Below.refl _ w) (.cells (madeCells #[.int .u8 0] 16) 5))
  have HO : Aside0 (Kd.R (Kd.int .u8) 5 (w.alloc (.cells (madeCells #[.int .u8 0] 16) 5)) w.heap.size (fun _ => True) (.slice (some ⟨w.heap.size, 0, none⟩) 16 16) (List.replicate 16 0)) := ⟨Kd.R_of_own (own_made w w.heap.size 5 .u8 16 (Nat.le_refl _) (by decide)) (fun _ _ => trivial)⟩
  have HC := Aside0.mk (Kd.C_alloc HR.out (.cells (madeCells #[.int .u8 0] 16) 5))
  have HS0 : Aside0 (w.heap.size ≤ (w.alloc (.cells (madeCells #[.int .u8 0] 16) 5)).heap.size) := ⟨HB.out.size⟩
  generalize hg : w.heap.size = g at *
  go_enter Try.func7, Try.ntmps7
  go_upto_region 5 with ((with_reducible refine gate_builtin (b := .copy) (xs := #[.tmp 16, .tmp 17]) rfl ?_); refine Kd.R_copy (enc := Value.int .u8) 0 (w0 := w) g rfl (.tmp 16) (.tmp 17) 23 23 5 rfl Try.underlying23 (by kernel_rfl) (.slice (some ⟨g, 0, none⟩) 16 16) (List.replicate 16 0) l0 A0 l0.length c0 (fun _ => True) rfl rfl HO.out HC.out HB.out HS0.out ?_; intro w1 ho hb hgr; have hcp := copied_is l0 H8.out; rw [List.length_replicate] at ho; have ho := Kd.own_of_R ho; change w1.ownsRow g 5 1 (.slice (some ⟨g, 0, none⟩) 16 16) (copied l0).length (nums .u8 (copied l0)) at ho; rw [hcp.1] at ho; generalize copied l0 = x at ho hcp; obtain ⟨hc0, hf0⟩ := own_at ho 0 (by decide) (by decide); have HS := own_store ho 0 (Go.bits .or .u8 (rd x 0) 128); have HF := Aside0.mk (half_first x hcp.1 hcp.2); have HBn := Aside0.mk (hb.grown HS.2 (by rw [← hg]; exact hb.size) (fun k hk => Nat.le_of_eq (Option.some.inj hk))); have HSn := Aside0.mk HS.1; simp only [show ((0 : Int)).toNat = 0 from rfl] at hc0 hf0 HSn HBn; clear HS ho hb hgr hcp)
  obtain ⟨n, hn, en⟩ : ∃ n : Nat, n < 16 ∧ wrap64 ((IntKind.u64.wrap a1).tmod 16) = (n : Int) := by
    have h0 : 0 ≤ IntKind.u64.wrap a1 := u64_pos a1
    generalize IntKind.u64.wrap a1 = z at h0
    refine ⟨(z.tmod 16).toNat, ?_, ?_⟩ <;> rw [Int.tmod_eq_emod_of_nonneg h0]
    · omega
    · rw [w64_in _ ⟨by omega, by omega⟩]; omega
  rw [en]
  clear en hc0 hf0 HO HC HB HS0 km16
  generalize w1.setCell _ _ = W at HSn HBn ⊢
  generalize x.set 0 _ = y at HSn HF
  have hyl := HF.out.1
  have hl : (y.take n).length = n := by rw [List.length_take]; omega
  obtain ⟨e1, e2, hC⟩ := own_C HSn.out
  have HP := bitmap_Parse.calls (some ⟨g, 0, none⟩) 16 (y.take n) [] 0 3 W (Kd.C_take hC (by omega)) (by omega) (parse_cut y HF.out n hn)
  rw [hl] at HP
  have HP := Aside0.mk HP
  have q1 : (n : Int) ≤ 16 := by omega
  have q2 : n ≤ 16 := by omega
  clear hl e1 e2 hC hyl
  go_wp2_with fail
  refine HP.out.mono ?_
  rintro e w2 ⟨v1, rfl, hov, hb⟩
  subst hg
  have HS2 := Aside0.mk (own_below HSn.out hb)
  have HB2 := Aside0.mk (below_step HBn.out hb)
  have HF2 := HF
  clear hov hb HP HSn HBn HF
  go_wp2
  go_loopg [11] 8 (fun gg s11 wr => ∃ (kk : Nat) (y2 : List Int), 8 ≤ kk ∧ kk ≤ 16 ∧ 16 - kk ≤ gg ∧ s11 = .int .i64 kk ∧ Aside0 (Half y2 kk) ∧ Aside0 (wr.ownsRow w.heap.size 5 1 (.slice (some ⟨w.heap.size, 0, none⟩) 16 16) 16 (nums .u8 y2)) ∧ Aside0 (Below w.heap.size w wr))
  case atStart => exact ⟨8, y, by decide, by decide, by decide, rfl, HF2, HS2, HB2⟩
  case round =>
    obtain ⟨kk, y2, hk1, hk2, hgg, rfl, HF3, HS3, HB3⟩ := hrel
    by_cases hlt : kk < 16
    · have hltz : (kk : Int) < 16 := by omega
      have hltd : decide ((kk : Int) < 16) = true := decide_eq_true hltz
      obtain ⟨hc, hf⟩ := own_at HS3.out (kk : Int) (by omega) (by omega)
      have HS4 := own_store HS3.out (kk : Int) 0
      simp only [Int.toNat_natCast] at hc hf HS4
      have HF4 := Aside0.mk (half_step y2 kk HF3.out hk1 hlt)
      have HB4 := Aside0.mk (HB3.out.grown HS4.2 HB3.out.size (fun k hk => Nat.le_of_eq (Option.some.inj hk)))
      have HS5 := Aside0.mk HS4.1
      have hw := show wrap64 ((kk : Int) + 1) = ((kk + 1 : Nat) : Int) by rw [w64_in _ ⟨by omega, by omega⟩]; omega
      clear HS4
      go_wp2
      go_roundg (16 - (kk + 1))
      case measure => omega
      case rel => exact ⟨kk + 1, _, by omega, by omega, by omega, by first | rfl | simp [hw], HF4, HS5, HB4⟩
    · have hltd : decide ((kk : Int) < 16) = false := decide_eq_false (by omega)
      obtain rfl : kk = 16 := by omega
      have fin : ∀ (y3 : List Int) (W : World), Half y3 8 → (hasBit y3 65 = true ∨ whichL y3 66 63 = []) → W.ownsRow w.heap.size 5 1 (.slice (some ⟨w.heap.size, 0, none⟩) 16 16) 16 (nums .u8 y3) → Calls Try.prog 13 #[.slice (some ⟨w.heap.size, 0, none⟩) 16 16] W fun e w' => ∃ v0_ : Value, e = .returned (.tuple #[v0_, .int .i64 0, .int .i64 6]) ∧ Kd.R (Kd.int .i64) 3 w' W.heap.size (fun _ => True) v0_ [] ∧ Below W.heap.size W w' := by
        intro y3 W h1 h2 h3
        obtain ⟨e1, e2, hC⟩ := own_C h3
        have := bitmap_Parse.calls (some ⟨w.heap.size, 0, none⟩) 16 y3 [] 0 6 W hC (by omega) (parse_whole y3 h1 h2)
        rw [← e1] at this
        exact this
      cases what with
      | false =>
        have HP2 := Aside0.mk (fin y2 wr (half_less y2 16 HF3.out (by decide)) (.inr (which_none y2 HF3.out)) HS3.out)
        clear fin
        go_wp2_with (first | (go_at_call 13; refine HP2.out.mono ?_; rintro e w3 ⟨v2, rfl, hov, hb⟩; have HB5 := Aside0.mk (below_step HB3.out hb); clear hov hb) | (go_at_call 9; refine (comptoirlaw03_awake.calls true _ awake_yes).mono ?_; rintro e w4 ⟨rfl, hb⟩; have HB6 := Aside0.mk (below_step HB5.out hb); clear hb))
        go_ret
        exact ⟨rfl, HB6.out⟩
      | true =>
        obtain ⟨hc1, hf1⟩ := own_at HS3.out 8 (by decide) (by decide)
        obtain ⟨hc2, hf2⟩ := own_at HS3.out 15 (by decide) (by decide)
        have HS4 := own_store HS3.out 8 128
        have HS5 := own_store HS4.1 15 1
        simp only [show ((8 : Int)).toNat = 8 from rfl, show ((15 : Int)).toNat = 15 from rfl] at hc1 hf1 hc2 hf2 HS4 HS5
        have HF4 := half_what y2 HF3.out
        have HB4 := Aside0.mk ((HB3.out.grown HS4.2 HB3.out.size (fun k hk => Nat.le_of_eq (Option.some.inj hk))).grown HS5.2 (Nat.le_trans HB3.out.size HS4.2.size) (fun k hk => Nat.le_of_eq (Option.some.inj hk)))
        have HP2 := Aside0.mk (fin _ _ HF4.1 (.inl HF4.2) HS5.1)
        clear fin HS4 HS5 HF4
        go_wp2_with (first | (go_at_call 13; refine HP2.out.mono ?_; rintro e w3 ⟨v2, rfl, hov, hb⟩; have HB5 := Aside0.mk (below_step HB4.out hb); clear hov hb) | (go_at_call 9; refine (comptoirlaw03_awake.calls true _ awake_yes).mono ?_; rintro e w4 ⟨rfl, hb⟩; have HB6 := Aside0.mk (below_step HB5.out hb); clear hb))
        go_ret
        exact ⟨rfl, HB6.out⟩
theorem bytes_wf {l : List Int} (h : ∀ x ∈ l, (Lit.int .u8 x).wf = true) : Bytes8 l := by
  intro x hx
  have := h x hx
  simp [Lit.wf] at this
  have e1 : IntKind.u8.min = 0 := rfl
  have e2 : IntKind.u8.max = 255 := rfl
  omega
theorem short_all (A0 : Option Addr) (c0 : Nat) (l0 : List Int) (a1 : Int) (what : Bool) (w : World) (hr0 : Kd.C (Kd.int .u8) w A0 l0.length l0) (hc0 : l0.length ≤ c0) (h : l0.length ≤ maxLen ∧ l0.length * 1 ≤ 140737488351232 ∧ ∀ x ∈ l0, (fun x : Int => (Lit.int .u8 x).wf = true) x) :
    Calls Try.prog 7 #[.slice A0 l0.length c0, .int .i64 a1, .bool what] w fun e w' => e = .returned (.bool true) ∧ Below w.heap.size w w' := short_walk A0 c0 l0 a1 what w hr0 hc0 (bytes_wf h.2.2)
end Go.Proofs.Ytfjfmlajnamlpaa.MB
