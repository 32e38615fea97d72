/- comptoirplay's pieces, by what they leave: UnHex. -/
import Derived.Test.YthdjodamdakjbaaHPlayB
import Derived.Test.YthdjodamdakjbaaHPrB
namespace Go.Proofs.Ythdjodamdakjbaa.MK
open Go.RowKit Go.Proofs.YthdjodamdakjbaaW.PrintWords Go.Proofs.YthdjodamdakjbaaW.PrintLast Go.Proofs.YthdjodamdakjbaaW.PrintMore
set_option linter.unusedVariables false
set_option linter.unusedSimpArgs false

theorem sign_some (c : Int) : ∃ r, comptoirref01_sign.f 3 c = some r := by
  unfold comptoirref01_sign.f
  simp only [comptoirref01_sign.j0]
  repeat' split
  all_goals exact ⟨_, rfl⟩
/-- Bytes come back, and whether they are right. -/
def BytesErr (u v : Value) (w : World) : Prop := (∃ (A : Option Addr) (n c : Nat), u = .slice A n c) ∧ ∃ e, v = .int .i64 e
set_option maxHeartbeats 8000000 in
set_option maxRecDepth 10000 in
theorem unhex_x (s : ByteArray) (w : World) (hs : s.size ≤ 140737488355328) : Calls Try.prog 56 #[.string s] w (OutT BytesErr w) := by
  have HS := Aside0.mk hs
  have BW := Aside0.mk (Below.refl w.heap.size w)
  by_cases q : (s.size : Int) % 2 = 0
  · have q' : ((s.size : Int) % 2 != 0) = false := bne_eq_false_iff_eq.mpr q
    have hev : s.size % 2 = 0 := by omega
    have HV := Aside0.mk hev
    replace q := Aside0.mk q
    clear hev
    go_enter Try.func56, Try.ntmps56
    go_wp2_with fail
    go_loopg [4, 5] s.size (fun gg s4 s5 wr => ∃ (m : Nat) (l : List Int), 2 * m ≤ s.size ∧ s.size - 2 * m ≤ gg ∧ s5 = .int .i64 ((2 * m : Nat) : Int) ∧ Aside0 (l.length = m) ∧ Aside0 (Kd.R (Kd.int .u8) 5 wr w.heap.size (fun _ => True) s4 l) ∧ Aside0 (Below w.heap.size w wr))
    case atStart => exact ⟨0, [], by omega, by omega, rfl, ⟨rfl⟩, ⟨Kd.R_nil _ _ _ _ _⟩, BW⟩
    case round =>
      obtain ⟨m, l, hm, hg, rfl, HM, HO, BW⟩ := hrel
      by_cases hlt : 2 * m < s.size
      · have hlt2 : 2 * m + 1 < s.size := by have := HV.out; omega
        obtain ⟨i, hi⟩ : ∃ i, i = 2 * m := ⟨_, rfl⟩
        rw [← hi] at hlt hlt2
        have hltz : (i : Int) < (s.size : Int) := by omega
        have hltz2 : ((i + 1 : Nat) : Int) < (s.size : Int) := by omega
        have e1 : wrap64 ((i : Int) + 1) = ((i + 1 : Nat) : Int) := by unfold wrap64; omega
        have hx := byte_at s i
        have hx1 := byte_at s (i + 1)
        generalize bt s (i : Int) = c at hx
        generalize bt s ((i + 1 : Nat) : Int) = d at hx1
        obtain ⟨r1, h1⟩ := sign_some c
        obtain ⟨r2, h2⟩ := sign_some d
        have H1 := Aside0.mk h1
        have H2 := Aside0.mk h2
        clear h1 h2
        rw [← hi]
        replace hi := Aside0.mk hi
        go_wp2_with fail
        repeat (go_quiet (first | (go_at_call 69; (with_reducible refine (comptoirref01_sign.calls 3 c r1 _ H1.out).mono ?_); rintro e w' ⟨rfl, ⟨nd, rfl⟩⟩; (try first | exact ⟨rfl, _, World.drewN_drewN _ _ _⟩ | exact ⟨rfl, _, Eq.trans (World.drewN_drewN _ _ _) (congrArg (World.drewN _) (Nat.add_assoc _ _ _))⟩)) | (go_at_call 69; (with_reducible refine (comptoirref01_sign.calls 3 d r2 _ H2.out).mono ?_); rintro e w' ⟨rfl, ⟨nd, rfl⟩⟩; (try first | exact ⟨rfl, _, World.drewN_drewN _ _ _⟩ | exact ⟨rfl, _, Eq.trans (World.drewN_drewN _ _ _) (congrArg (World.drewN _) (Nat.add_assoc _ _ _))⟩))))
        have BX := Aside0.mk (pw_below_drewN BW.out nq)
        have HX : Aside0 (Kd.R (Kd.int .u8) 5 (wr.drewN nq) w.heap.size (fun _ => True) u4 l) := ⟨Kd.R_drewN HO.out nq⟩
        clear BW HO
        generalize wr.drewN nq = W at BX HX ⊢
        by_cases g1 : 15 < r1
        · go_wp2_with fail
          go_ret2
          exact ⟨_, _, rfl, ⟨⟨_, _, _, rfl⟩, ⟨_, rfl⟩⟩, BX.out⟩
        by_cases g2 : 15 < r2
        · go_wp2_with fail
          go_ret2
          exact ⟨_, _, rfl, ⟨⟨_, _, _, rfl⟩, ⟨_, rfl⟩⟩, BX.out⟩
        have HZ : Aside0 ((l.length + 1) * 1 ≤ 140737488355328) := ⟨by have := HM.out; omega⟩
        go_wp2_with (first | ((with_reducible refine gate_builtin (b := .append) (xs := #[.tmp 33, .tmp 38]) rfl ?_); at_builtin; refine Kd.R_append (Kd.int .u8) (w0 := w) w.heap.size rfl (.tmp 33) (.tmp 38) 49 5 (.int .u8 0) 1 rfl Try.underlying49 info5 rfl (by decide) (by omega) u4 l (Go.bits .or .u8 ((r1 * 16) % 256) r2) [.int .u8 (Go.bits .or .u8 ((r1 * 16) % 256) r2)] (fun _ => True) (fun _ => False) rfl rfl ?aP (fun _ hk => hk.elim) ?aF ?aO ?aB ?aS ?aL ?_; (case aP => exact rfl); (case aB => exact BX.out); (case aF => exact (fun _ _ => trivial)); (case aO => exact HX.out); (case aS => exact below_size BX.out); (case aL => exact HZ.out); intro v1 w2 ho hb hg hat; have HO2 := Aside0.mk ho; have BY := Aside0.mk hb; clear ho hb hg hat))
        go_roundg (s.size - (i + 2))
        case measure => have := hi.out; omega
        case rel => exact ⟨m + 1, _, by have := hi.out; omega, by have := hi.out; omega, by have := hi.out; go_num, ⟨by rw [List.length_append, HM.out]; rfl⟩, HO2, BY⟩
      · have hltz : ¬ ((2 * m : Nat) : Int) < (s.size : Int) := by omega
        obtain ⟨A, c, e⟩ := Kd.R_slice HO.out
        subst e
        generalize l.length = n at HM
        go_wp2_with fail
        go_ret2
        exact ⟨_, _, rfl, ⟨⟨_, _, _, rfl⟩, ⟨_, rfl⟩⟩, BW.out⟩
  · have q' : ((s.size : Int) % 2 != 0) = true := bne_iff_ne.mpr q
    replace q := Aside0.mk q
    go_enter Try.func56, Try.ntmps56
    go_wp2_with fail
    go_ret2
    exact ⟨_, _, rfl, ⟨⟨_, _, _, rfl⟩, ⟨_, rfl⟩⟩, BW.out⟩
end Go.Proofs.Ythdjodamdakjbaa.MK
