/- The pure statement of comptoirlaw03.BitmapBack: what is written is parsed, with what stands behind it; what is parsed, written, is the bytes that it took. No condition beyond the reach of its arguments. -/
import Derived.Test.YtfjfmlajnamlpaaStBitmapBack
namespace Go.Proofs.Ytfjfmlajnamlpaa.Pure
open Go.RowKit Go.Proofs.Ytfjfmlajnamlpaa.MB Go.Proofs.YtfjfmlajnamlpaaW.PrintWords Go.Proofs.YtfjfmlajnamlpaaW.PrintLast Go.Proofs.YtfjfmlajnamlpaaW.PrintMore

theorem sameB_refl (l : List Int) : sameB (fun x y : Int => x == y) l l = true := by
  unfold sameB
  rw [beq_self_eq_true, Bool.true_and]
  induction l with
  | nil => rfl
  | cons a l ih => simp
theorem awake_back : comptoirlaw03_awake.f = some true := by kernel_rfl
theorem parse_is (b : List Int) (h : b.length ≤ 1000) (h8 : Bytes8 b) : bitmap_Parse.f b = some (parseL 3 6 b) := by
  unfold bitmap_Parse.f
  rw [if_pos ⟨h, h8⟩]
theorem bytes_wf {l : List Int} (h : ∀ x ∈ l, (Lit.int .u8 x).wf = true) : Bytes8 l := by
  intro x hx
  have := h x hx
  simp [Lit.wf] at this
  have e1 : IntKind.u8.min = 0 := rfl
  have e2 : IntKind.u8.max = 255 := rfl
  omega

theorem back_end (x0 : List Bool) (x1 x2 l : List Int) (z i : Int) (hx1 : x1.length ≤ 50) (hx2 : x2.length ≤ 50) (b1 : Bytes8 x1) (b2 : Bytes8 x2) (hz : scanL 1 l = some z) :
    Ev (fun k => comptoirlaw03_BitmapBack.j2 k x0 x1 x2 l i false) true := by
  have hbl : (bitsOf z l).length ≤ 16 := by rw [bitsOf_length]; split <;> omega
  have hp := parse_written 3 6 l x2 z hz
  obtain ⟨q, m, e, hq⟩ : ∃ q m e, parseL 3 6 x1 = (q, m, e) := ⟨_, _, _, rfl⟩
  have end3 : Ev (fun k => comptoirlaw03_BitmapBack.j3 k x1 q m e false) true := by
    by_cases he : e = 0
    · subst he
      obtain ⟨n, rfl, hn, _, hw⟩ := write_parsed 3 6 x1 q m (by decide) (by decide) b1 hq
      refine Ev.step (f := fun _ => some true) (fun k => ?_) (Ev.now true)
      simp only [comptoirlaw03_BitmapBack.j3, Bool.false_eq_true, if_false, if_true]
      rw [hw, Option.bind_some, if_pos rfl, if_pos (by omega), if_pos (by omega), Int.toNat_natCast]
      unfold comptoirhelp_Bytes.f
      simp
    · refine Ev.step (f := fun _ => some true) (fun k => ?_) (Ev.now true)
      simp only [comptoirlaw03_BitmapBack.j3, Bool.false_eq_true, if_false]
      rw [if_neg he]
  refine Ev.step (fun k => ?_) end3
  simp only [comptoirlaw03_BitmapBack.j2, Bool.false_eq_true, if_false]
  rw [write_some l z hz]
  simp only [Option.bind_some, List.nil_append, List.length_nil, Nat.zero_add]
  rw [if_pos (by omega), if_pos (by omega), parse_is _ (by rw [List.length_append]; omega) (fun x hx => (List.mem_append.1 hx).elim (bitsOf_bytes z l x) (b2 x)), hp, parse_is x1 (by omega) b1, hq, awake_back]
  simp only [Option.bind_some, if_true, comptoirhelp_Plain_int.f, sameB_refl, bne_self_eq_false]

theorem back_l0 (x0 : List Bool) (x1 x2 : List Int) (hx1 : x1.length ≤ 50) (hx2 : x2.length ≤ 50) (b1 : Bytes8 x1) (b2 : Bytes8 x2) (d : Nat) :
    ∀ (l : List Int) (i z : Int), 2 ≤ i → i + d = 129 → scanL 1 l = some z → z < i → (l.length : Int) ≤ i - 2 → Ev (fun k => comptoirlaw03_BitmapBack.l0 k x0 x1 x2 l i) true := by
  induction d with
  | zero =>
    intro l i z hi hd hs hlt hl
    refine Ev.step (fun k => ?_) (back_end x0 x1 x2 l z i hx1 hx2 b1 b2 hs)
    simp only [comptoirlaw03_BitmapBack.l0]
    rw [if_neg (by omega)]
  | succ d ih =>
    intro l i z hi hd hs hlt hl
    by_cases c : i < (x0.length : Int)
    · have ci : wrap64 (i + 1) = i + 1 := by unfold wrap64; omega
      have st : ∀ k, comptoirlaw03_BitmapBack.l0 (k + 1) x0 x1 x2 l i = comptoirlaw03_BitmapBack.j2 k x0 x1 x2 l i true := by
        intro k
        simp only [comptoirlaw03_BitmapBack.l0]
        rw [if_pos (by omega), decide_eq_true c]
      cases hb : rdOf false x0 i with
      | true =>
        by_cases c65 : i = 65
        · refine Ev.step st (Ev.step (fun k => ?_) (ih l (i + 1) z (by omega) (by omega) hs (by omega) (by omega)))
          simp only [comptoirlaw03_BitmapBack.j2, if_true]
          rw [if_pos (by omega), if_pos (by omega), hb, if_pos rfl, if_pos c65, ci]
        · refine Ev.step st (Ev.step (fun k => ?_) (ih (l ++ [i]) (i + 1) i (by omega) (by omega) (scan_snoc l 1 z i hs hlt (by omega) c65) (by omega) (by simp; omega)))
          simp only [comptoirlaw03_BitmapBack.j2, if_true]
          rw [if_pos (by omega), if_pos (by omega), hb, if_pos rfl, if_neg c65, if_pos (by omega), ci]
      | false =>
        refine Ev.step st (Ev.step (fun k => ?_) (ih l (i + 1) z (by omega) (by omega) hs (by omega) (by omega)))
        simp only [comptoirlaw03_BitmapBack.j2, if_true]
        rw [if_pos (by omega), if_pos (by omega), hb, if_neg (by simp), ci]
    · refine Ev.step (fun k => ?_) (back_end x0 x1 x2 l z i hx1 hx2 b1 b2 hs)
      simp only [comptoirlaw03_BitmapBack.l0]
      rw [if_pos (by omega), decide_eq_false c]

theorem BitmapBack : comptoirlaw03_BitmapBack.Pure := by
  intro x0 x1 x2 h0 h1 h2
  have gone : Ev (fun k => comptoirlaw03_BitmapBack.j0 k x0 x1 x2 true) true := by
    refine Ev.step (f := fun _ => some true) (fun k => ?_) (Ev.now true)
    simp only [comptoirlaw03_BitmapBack.j0, if_true]
    rw [awake_back]
    rfl
  apply Ev.rounds
  by_cases c2 : (x2.length : Int) > 50
  · refine Ev.congr (fun k => ?_) gone
    unfold comptoirlaw03_BitmapBack.f
    rw [if_pos c2]
  · by_cases c1 : (x1.length : Int) > 50
    · refine Ev.congr (fun k => ?_) gone
      unfold comptoirlaw03_BitmapBack.f
      rw [if_neg c2, decide_eq_true c1]
    · have : Ev (fun k => comptoirlaw03_BitmapBack.j0 k x0 x1 x2 false) true := by
        refine Ev.step (fun k => ?_) (back_l0 x0 x1 x2 (by omega) (by omega) (bytes_wf h1.2.2) (bytes_wf h2.2.2) 127 [] 2 1 (by decide) (by decide) rfl (by decide) (by decide))
        simp only [comptoirlaw03_BitmapBack.j0, Bool.false_eq_true, if_false]
      refine Ev.congr (fun k => ?_) this
      unfold comptoirlaw03_BitmapBack.f
      rw [if_neg c2, decide_eq_false c1]
end Go.Proofs.Ytfjfmlajnamlpaa.Pure
