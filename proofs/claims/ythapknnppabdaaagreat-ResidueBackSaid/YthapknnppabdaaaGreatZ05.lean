/- ResidueBack: part 5 of its proof. -/
import Derived.Test.YthapknnppabdaaaGreatZ04
import Derived.Test.YthapknnppabdaaaGreatZ00
import Derived.Test.YthapknnppabdaaaGreatZ01
import Derived.Laws.Tables
namespace Go.Proofs.YthapknnppabdaaaGreat.MQ
open Go.RowKit Go.Proofs.YthapknnppabdaaaGreatW.PrintWords Go.Proofs.YthapknnppabdaaaGreatW.PrintLast Go.Proofs.YthapknnppabdaaaGreatW.PrintMore
set_option linter.unusedVariables false
set_option linter.unusedSimpArgs false
def hexc (c : Int) : Bool := decide (signF c ≤ 15)
def hexF (s : ByteArray) : Bool := decide (s.size % 2 = 0) && (bs s).all hexc
def hexE (s : ByteArray) : Int := if hexF s = true then 0 else 5
def HexEnd (s : ByteArray) (w : World) (e : Ending) (w' : World) : Prop := ∃ (A : Option Addr) (n c : Nat), e = .returned (.tuple #[.slice A n c, .int .i64 (hexE s)]) ∧ (hexE s = 0 → 2 * n = s.size) ∧ Below w.heap.size w w'
set_option maxHeartbeats 8000000 in
set_option maxRecDepth 10000 in
theorem unhex_e (s : ByteArray) (w : World) (hs : s.size ≤ 140737488355328) : Calls Tryz.prog 49 #[.string s] w (HexEnd s w) := by
  have HS := Aside0.mk hs
  have BW := Aside0.mk (Below.refl w.heap.size w)
  by_cases q : (s.size : Int) % 2 = 0
  · have q' : ((s.size : Int) % 2 != 0) = false := bne_eq_false_iff_eq.mpr q
    have hev : s.size % 2 = 0 := by omega
    have HV := Aside0.mk hev
    replace q := Aside0.mk q
    clear hev
    go_enter Tryz.func49, Tryz.ntmps49
    go_wp2_with fail
    go_loopg [4, 5] s.size (fun gg s4 s5 wr => ∃ (m : Nat) (l : List Int), 2 * m ≤ s.size ∧ s.size - 2 * m ≤ gg ∧ s5 = .int .i64 ((2 * m : Nat) : Int) ∧ Aside0 (l.length = m) ∧ Aside0 (Kd.R (Kd.int .u8) 5 wr w.heap.size (fun _ => True) s4 l) ∧ Aside0 (Below w.heap.size w wr) ∧ Aside0 (((bs s).take (2 * m)).all hexc = true))
    case atStart => exact ⟨0, [], by omega, by omega, rfl, ⟨rfl⟩, ⟨Kd.R_nil _ _ _ _ _⟩, BW, ⟨rfl⟩⟩
    case round =>
      obtain ⟨m, l, hm, hg, rfl, HM, HO, BW, HA⟩ := hrel
      by_cases hlt : 2 * m < s.size
      · have hlt2 : 2 * m + 1 < s.size := by have := HV.out; omega
        obtain ⟨i, hi⟩ : ∃ i, i = 2 * m := ⟨_, rfl⟩
        rw [← hi] at hlt hlt2
        have hltz : (i : Int) < (s.size : Int) := by omega
        have hltz2 : ((i + 1 : Nat) : Int) < (s.size : Int) := by omega
        have e1 : wrap64 ((i : Int) + 1) = ((i + 1 : Nat) : Int) := by unfold wrap64; omega
        have hx := byte_at s i
        have hx1 := byte_at s (i + 1)
        have HA1 : Aside0 (((bs s).take i).all hexc = true) := ⟨by rw [hi]; exact HA.out⟩
        obtain ⟨c, HC⟩ : ∃ c, Aside0 (c = bt s (i : Int)) := ⟨_, ⟨rfl⟩⟩
        obtain ⟨d, HD⟩ : ∃ d, Aside0 (d = bt s ((i + 1 : Nat) : Int)) := ⟨_, ⟨rfl⟩⟩
        rw [← HC.out] at hx
        rw [← HD.out] at hx1
        obtain ⟨r1, H1⟩ : ∃ r, Aside0 (r = signF c) := ⟨_, ⟨rfl⟩⟩
        obtain ⟨r2, H2⟩ : ∃ r, Aside0 (r = signF d) := ⟨_, ⟨rfl⟩⟩
        have HLT := Aside0.mk (And.intro hlt hlt2)
        rw [← hi]
        replace hi := Aside0.mk hi
        go_wp2_with fail
        repeat (go_quiet (first | (go_at_call 75; (with_reducible refine (sign_e c _).mono ?_); rintro e w' ⟨rfl, ⟨nd, rfl⟩⟩; rw [← H1.out]; (try first | exact ⟨rfl, _, World.drewN_drewN _ _ _⟩ | exact ⟨rfl, _, Eq.trans (World.drewN_drewN _ _ _) (congrArg (World.drewN _) (Nat.add_assoc _ _ _))⟩)) | (go_at_call 75; (with_reducible refine (sign_e d _).mono ?_); rintro e w' ⟨rfl, ⟨nd, rfl⟩⟩; rw [← H2.out]; (try first | exact ⟨rfl, _, World.drewN_drewN _ _ _⟩ | exact ⟨rfl, _, Eq.trans (World.drewN_drewN _ _ _) (congrArg (World.drewN _) (Nat.add_assoc _ _ _))⟩))))
        have BX := Aside0.mk (pw_below_drewN BW.out nq)
        have HX : Aside0 (Kd.R (Kd.int .u8) 5 (wr.drewN nq) w.heap.size (fun _ => True) u4 l) := ⟨Kd.R_drewN HO.out nq⟩
        clear BW HO
        generalize wr.drewN nq = W at BX HX ⊢
        by_cases g1 : 15 < r1
        · have E : Aside0 (hexE s = 5) := ⟨by unfold hexE hexF; rw [all_no HLT.out.1 (by rw [← HC.out]; unfold hexc; rw [← H1.out]; simp; omega)]; simp⟩
          go_wp2_with fail
          go_ret2
          exact ⟨_, _, _, by rw [E.out]; rfl, (fun h => by rw [E.out] at h; cases h), BX.out⟩
        by_cases g2 : 15 < r2
        · have E : Aside0 (hexE s = 5) := ⟨by unfold hexE hexF; rw [all_no HLT.out.2 (by rw [← HD.out]; unfold hexc; rw [← H2.out]; simp; omega)]; simp⟩
          go_wp2_with fail
          go_ret2
          exact ⟨_, _, _, by rw [E.out]; rfl, (fun h => by rw [E.out] at h; cases h), BX.out⟩
        have HA2 := Aside0.mk (all_snoc HLT.out.2 (all_snoc HLT.out.1 HA1.out (by rw [← HC.out]; unfold hexc; rw [← H1.out]; simp; omega)) (by rw [← HD.out]; unfold hexc; rw [← H2.out]; simp; omega))
        have HZ : Aside0 ((l.length + 1) * 1 ≤ 140737488355328) := ⟨by have := HM.out; omega⟩
        go_wp2_with (first | ((with_reducible refine gate_builtin (b := .append) (xs := #[.tmp 33, .tmp 38]) rfl ?_); at_builtin; refine Kd.R_append (Kd.int .u8) (w0 := w) w.heap.size rfl (.tmp 33) (.tmp 38) 38 5 (.int .u8 0) 1 rfl Tryz.underlying38 info5 rfl (by decide) (by omega) u4 l (Go.bits .or .u8 ((r1 * 16) % 256) r2) [.int .u8 (Go.bits .or .u8 ((r1 * 16) % 256) r2)] (fun _ => True) (fun _ => False) rfl rfl ?aP (fun _ hk => hk.elim) ?aF ?aO ?aB ?aS ?aL ?_; (case aP => exact rfl); (case aB => exact BX.out); (case aF => exact (fun _ _ => trivial)); (case aO => exact HX.out); (case aS => exact below_size BX.out); (case aL => exact HZ.out); intro v1 w2 ho hb hg hat; have HO2 := Aside0.mk ho; have BY := Aside0.mk hb; clear ho hb hg hat))
        go_roundg (s.size - (i + 2))
        case measure => have := hi.out; omega
        case rel => exact ⟨m + 1, _, by have := hi.out; omega, by have := hi.out; omega, by have := hi.out; go_num, ⟨by rw [List.length_append, HM.out]; rfl⟩, HO2, BY, ⟨by have e := hi.out; rw [show 2 * (m + 1) = i + 1 + 1 by omega]; exact HA2.out⟩⟩
      · have hltz : ¬ ((2 * m : Nat) : Int) < (s.size : Int) := by omega
        obtain ⟨A, c, e⟩ := Kd.R_slice HO.out
        subst e
        have E : Aside0 (hexE s = 0 ∧ 2 * l.length = s.size) := ⟨by
          have e2 : 2 * m = s.size := by omega
          have h1 := HA.out
          rw [e2, bs_all] at h1
          refine ⟨?_, by rw [HM.out]; exact e2⟩
          unfold hexE hexF
          rw [h1, HV.out]; rfl⟩
        generalize l.length = n at HM E
        go_wp2_with fail
        go_ret2
        exact ⟨_, _, _, by rw [E.out.1]; rfl, fun _ => E.out.2, BW.out⟩
  · have q' : ((s.size : Int) % 2 != 0) = true := bne_iff_ne.mpr q
    have E : Aside0 (hexE s = 5) := ⟨by unfold hexE hexF; rw [decide_eq_false (p := s.size % 2 = 0) (by omega)]; rfl⟩
    replace q := Aside0.mk q
    go_enter Tryz.func49, Tryz.ntmps49
    go_wp2_with fail
    go_ret2
    exact ⟨_, _, _, by rw [E.out]; rfl, (fun h => by rw [E.out] at h; cases h), BW.out⟩
/-- A bool, a number, a text come back, of which this is known; nothing that was there is touched. -/
def OutB (P : Bool → Prop) (w : World) (e : Ending) (w' : World) : Prop := ∃ b, e = .returned (.bool b) ∧ P b ∧ Below w.heap.size w w'
def OutI (P : Int → Prop) (w : World) (e : Ending) (w' : World) : Prop := ∃ r, e = .returned (.int .i64 r) ∧ P r ∧ Below w.heap.size w w'
def OutS (P : ByteArray → Prop) (w : World) (e : Ending) (w' : World) : Prop := ∃ s, e = .returned (.string s) ∧ P s ∧ Below w.heap.size w w'
def OutT (P : Value → Value → World → Prop) (w : World) (e : Ending) (w' : World) : Prop := ∃ u v, e = .returned (.tuple #[u, v]) ∧ P u v w' ∧ Below w.heap.size w w'
def CharIs (c : Int) (b : Bool) : Prop := 32 ≤ c → c < 55296 → b = true
set_option maxHeartbeats 4000000 in
theorem char_is (c : Int) (w : World) : Calls Tryz.prog 120 #[.int .i64 c] w (OutB (CharIs c) w) := by
  have HB := Aside0.mk (Below.refl w.heap.size w)
  by_cases h9 : c = 9
  · subst h9; go_enter Tryz.func120, Tryz.ntmps120; go_wp2_with fail; go_ret; exact ⟨_, rfl, fun _ _ => by first | rfl | omega, HB.out⟩
  by_cases h10 : c = 10
  · subst h10; go_enter Tryz.func120, Tryz.ntmps120; go_wp2_with fail; go_ret; exact ⟨_, rfl, fun _ _ => by first | rfl | omega, HB.out⟩
  by_cases h13 : c = 13
  · subst h13; go_enter Tryz.func120, Tryz.ntmps120; go_wp2_with fail; go_ret; exact ⟨_, rfl, fun _ _ => by first | rfl | omega, HB.out⟩
  have b9 : (c == 9) = false := beq_eq_false_iff_ne.mpr h9
  have b10 : (c == 10) = false := beq_eq_false_iff_ne.mpr h10
  have b13 : (c == 13) = false := beq_eq_false_iff_ne.mpr h13
  clear h9 h10 h13
  by_cases r32 : c < 32
  · go_enter Tryz.func120, Tryz.ntmps120; go_wp2_with fail; go_ret; exact ⟨_, rfl, fun _ _ => by first | rfl | omega, HB.out⟩
  by_cases r55296 : c < 55296
  · go_enter Tryz.func120, Tryz.ntmps120; go_wp2_with fail; go_ret; exact ⟨_, rfl, fun _ _ => by first | rfl | omega, HB.out⟩
  by_cases r57343 : c ≤ 57343
  · go_enter Tryz.func120, Tryz.ntmps120; go_wp2_with fail; go_ret; exact ⟨_, rfl, fun _ _ => by first | rfl | omega, HB.out⟩
  by_cases r65534 : c < 65534
  · go_enter Tryz.func120, Tryz.ntmps120; go_wp2_with fail; go_ret; exact ⟨_, rfl, fun _ _ => by first | rfl | omega, HB.out⟩
  by_cases r65535 : c ≤ 65535
  · go_enter Tryz.func120, Tryz.ntmps120; go_wp2_with fail; go_ret; exact ⟨_, rfl, fun _ _ => by first | rfl | omega, HB.out⟩
  by_cases r1114111 : c ≤ 1114111
  · go_enter Tryz.func120, Tryz.ntmps120; go_wp2_with fail; go_ret; exact ⟨_, rfl, fun _ _ => by first | rfl | omega, HB.out⟩
  go_enter Tryz.func120, Tryz.ntmps120; go_wp2_with fail; go_ret; exact ⟨_, rfl, fun _ _ => by first | rfl | omega, HB.out⟩
/-- How long the character is that was read: none, or so long that it stands in the text. -/
def CharEnd (s : ByteArray) (i : Int) (u v : Value) (w : World) : Prop := (∃ c, u = .int .i64 c) ∧ ∃ n : Int, v = .int .i64 n ∧ 0 ≤ n ∧ i + n ≤ s.size ∧ (ink (bt s i) = true → n = 1) ∧ n ≤ 4
set_option maxHeartbeats 8000000 in
set_option maxRecDepth 4000 in
theorem char_x (s : ByteArray) (i : Nat) (w : World) (hs : s.size ≤ 140737488355328) (hi : i < s.size) : Calls Tryz.prog 105 #[.string s, .int .i64 i] w (OutT (CharEnd s i) w) := by
  have HS := Aside0.mk hs
  have hx := byte_at s i
  have hiz : (i : Int) < (s.size : Int) := by omega
  obtain ⟨c, HC⟩ : ∃ c, Aside0 (c = bt s (i : Int)) := ⟨_, ⟨rfl⟩⟩
  rw [← HC.out] at hx
  have hc : 0 ≤ c ∧ c < 256 := by rw [← hx hi]; have := UInt8.toNat_lt (s[i]'hi); omega
  have hc0 := hc.1
  have hc1 := hc.2
  have ew : wrap64 c = c := by unfold wrap64; omega
  clear hc
  have HB := Aside0.mk (Below.refl w.heap.size w)
  have Z : Aside0 (∀ d : Int, ¬ (32 ≤ c ∧ c ≤ 126) → CharEnd s i (.int .i64 d) (.int .i64 0) w) := ⟨fun d hd => ⟨⟨_, rfl⟩, 0, rfl, by omega, by omega, fun h => by rw [← HC.out] at h; unfold ink at h; rw [Bool.and_eq_true, decide_eq_true_eq, decide_eq_true_eq] at h; exact absurd h hd, by omega⟩⟩
  go_enter Tryz.func105, Tryz.ntmps105
  go_upto_block 0 with fail
  go_cut [6, 7, 8] from 14 to 43 (fun s6 s7 s8 wc => ∃ c2 n l : Int, s6 = .int .i64 c2 ∧ s7 = .int .i64 n ∧ s8 = .int .i64 l ∧ 1 ≤ n ∧ n ≤ 4 ∧ Aside0 (Below w.heap.size w wc) ∧ Aside0 (c < 128 → n = 1 ∧ c2 = c ∧ l = 0))
  case first =>
    by_cases r128 : c < 128
    · go_wp2_with fail
      go_meet
      exact ⟨_, _, _, rfl, rfl, rfl, by omega, by omega, HB, ⟨fun _ => ⟨rfl, rfl, rfl⟩⟩⟩
    by_cases r192 : c < 192
    · go_wp2_with fail
      go_ret2
      exact ⟨_, _, rfl, Z.out _ (by omega), HB.out⟩
    by_cases r224 : c < 224
    · go_wp2_with fail
      go_meet
      exact ⟨_, _, _, rfl, rfl, rfl, by omega, by omega, HB, ⟨fun h => by omega⟩⟩
    by_cases r240 : c < 240
    · go_wp2_with fail
      go_meet
      exact ⟨_, _, _, rfl, rfl, rfl, by omega, by omega, HB, ⟨fun h => by omega⟩⟩
    by_cases r248 : c < 248
    · go_wp2_with fail
      go_meet
      exact ⟨_, _, _, rfl, rfl, rfl, by omega, by omega, HB, ⟨fun h => by omega⟩⟩
    go_wp2_with fail
    go_ret2
    exact ⟨_, _, rfl, Z.out _ (by omega), HB.out⟩
  case rest =>
    obtain ⟨c', n, l, rfl, rfl, rfl, hn1, hn2, BW, HA⟩ := hcut
    clear hx
    have HII := Aside0.mk hiz
    by_cases hin : (s.size : Int) < (i : Int) + n
    · have hw : wrap64 ((i : Int) + n) = (i : Int) + n := by have := HS.out; unfold wrap64; omega
      go_wp2_with fail
      go_ret2
      exact ⟨_, _, rfl, Z.out _ (fun h => by have := (HA.out (by omega)).1; have := HII.out; omega), BW.out⟩
    · have hin2 : (i : Int) + n ≤ (s.size : Int) := by omega
      have hw : wrap64 ((i : Int) + n) = (i : Int) + n := by have := HS.out; unfold wrap64; omega
      go_wp2_with fail
      go_loopg [6, 9] 4 (fun gg s6 s9 wr => ∃ (k : Nat) (d : Int), s6 = .int .i64 d ∧ s9 = .int .i64 k ∧ 1 ≤ k ∧ (k : Int) ≤ n ∧ n - k ≤ gg ∧ Aside0 (Below w.heap.size w wr) ∧ Aside0 (c < 128 → d = c))
      case atStart => exact ⟨1, c', rfl, rfl, by omega, by omega, by omega, BW, ⟨fun h => (HA.out h).2.1⟩⟩
      case round =>
        obtain ⟨k, dd, rfl, rfl, hk1, hk2, hg, BW, HDD⟩ := hrel
        by_cases hk : (k : Int) < n
        · have hik : i + k < s.size := by omega
          have hikz : ((i : Int) + (k : Int)) < (s.size : Int) := by omega
          have hx := byte_at s (i + k)
          have ek : wrap64 ((i : Int) + (k : Int)) = ((i + k : Nat) : Int) := by have := HS.out; unfold wrap64; omega
          generalize bt s ((i + k : Nat) : Int) = d at hx
          have NA : Aside0 (¬ c < 128) := ⟨fun h => by have := (HA.out h).1; omega⟩
          go_wp2_with fail
          · go_ret2
            exact ⟨_, _, rfl, Z.out _ (fun h => by have := NA.out; omega), BW.out⟩
          · go_roundg (n.toNat - (k + 1))
            case measure => omega
            case rel => exact ⟨k + 1, _, rfl, by go_num, by omega, by omega, by omega, BW, ⟨fun h => by have := NA.out; omega⟩⟩
        · have HE : Aside0 (∀ d : Int, CharEnd s i (.int .i64 d) (.int .i64 n) w) := ⟨fun d => ⟨⟨_, rfl⟩, n, rfl, by omega, hin2, fun h => by rw [← HC.out] at h; unfold ink at h; rw [Bool.and_eq_true, decide_eq_true_eq, decide_eq_true_eq] at h; exact (HA.out (by omega)).1, hn2⟩⟩
          by_cases q : dd < l
          · have NA : Aside0 (¬ c < 128) := ⟨fun h => by have := (HA.out h).2.2; have := HDD.out h; omega⟩
            go_wp2_with fail
            go_ret2
            exact ⟨_, _, rfl, Z.out _ (fun h => by have := NA.out; omega), BW.out⟩
          · go_wp2_with fail
            refine (char_is dd _).mono ?_
            rintro e w1 ⟨b, rfl, hb, hB⟩
            have HCI := Aside0.mk hb
            clear hb
            replace BW := Aside0.mk (below_step BW.out hB)
            clear hB
            cases b with
            | true =>
              go_wp2_with fail
              go_ret2
              exact ⟨_, _, rfl, HE.out _, BW.out⟩
            | false =>
              go_wp2_with fail
              go_ret2
              exact ⟨_, _, rfl, Z.out _ (fun h => by have e := HDD.out (by omega); exact absurd (HCI.out (by omega) (by omega)) (by decide)), BW.out⟩
/-- How many characters: none too many. -/
def NoMore (s : ByteArray) (n : Int) : Prop := n ≤ s.size ∧ (0 ≤ n → (s.size : Int) ≤ 4 * n) ∧ ((bs s).all ink = true → n = s.size)
theorem ink_at {s : ByteArray} (h : (bs s).all ink = true) {i : Nat} (hi : i < s.size) : ink (bt s (i : Int)) = true := by
  rw [List.all_eq_true] at h
  have := h _ (List.getElem_mem (show i < (bs s).length by rw [bs_len]; exact hi))
  rw [bs_get s i hi] at this
  exact this
set_option maxHeartbeats 4000000 in
set_option maxRecDepth 4000 in
theorem count_x (s : ByteArray) (w : World) (hs : s.size ≤ 140737488355328) : Calls Tryz.prog 69 #[.string s] w (OutI (NoMore s) w) := by
  have HS := Aside0.mk hs
  go_enter Tryz.func69, Tryz.ntmps69
  go_wp2_with fail
  go_loopg [3, 4] s.size (fun gg s3 s4 wr => ∃ i k : Nat, s4 = .int .i64 i ∧ s3 = .int .i64 k ∧ i ≤ s.size ∧ k ≤ i ∧ s.size - i ≤ gg ∧ Aside0 (Below w.heap.size w wr) ∧ Aside0 ((bs s).all ink = true → k = i) ∧ Aside0 (i ≤ 4 * k))
  case atStart => exact ⟨0, 0, rfl, rfl, by omega, by omega, by omega, ⟨Below.refl _ w⟩, ⟨fun _ => rfl⟩, ⟨by omega⟩⟩
  case round =>
    obtain ⟨i, k, rfl, rfl, hi, hk, hg, BW, HKI, HIK⟩ := hrel
    by_cases hlt : i < s.size
    · have hltz : (i : Int) < (s.size : Int) := by omega
      go_wp2_with fail
      refine (char_x s i _ hs hlt).mono ?_
      rintro e w1 ⟨_, _, rfl, ⟨⟨c, rfl⟩, n, rfl, hn0, hn1, hn2, hn4⟩, hB⟩
      have H4 := Aside0.mk hn4
      clear hn4
      have H1 := Aside0.mk (fun h : (bs s).all ink = true => hn2 (ink_at h hlt))
      clear hn2
      replace BW := Aside0.mk (below_step BW.out hB)
      clear hB
      obtain ⟨n, rfl⟩ := Int.eq_ofNat_of_zero_le hn0
      by_cases q : (n : Int) = 0
      · have q' : ((n : Int) == 0) = true := beq_iff_eq.mpr q
        go_wp2_with fail
        go_ret
        exact ⟨_, rfl, ⟨by omega, fun h => by omega, fun h => by have := H1.out h; omega⟩, BW.out⟩
      · have q' : ((n : Int) == 0) = false := beq_eq_false_iff_ne.mpr q
        have e1 : wrap64 ((i : Int) + (n : Int)) = ((i + n : Nat) : Int) := by have := HS.out; unfold wrap64; omega
        have e2 : wrap64 ((k : Int) + 1) = ((k + 1 : Nat) : Int) := by have := HS.out; unfold wrap64; omega
        go_wp2_with fail
        go_roundg (s.size - (i + n))
        case measure => omega
        case rel => exact ⟨i + n, k + 1, by go_num, by go_num, by omega, by omega, by omega, BW, ⟨fun h => by have := H1.out h; have := HKI.out h; omega⟩, ⟨by have := HIK.out; have := H4.out; omega⟩⟩
    · have hltz : ¬ (i : Int) < (s.size : Int) := by omega
      have HQ : Aside0 (NoMore s k) := ⟨by omega, fun h => by have := HIK.out; omega, fun h => by have := HKI.out h; omega⟩
      go_wp2_with fail
      go_ret
      exact ⟨_, rfl, HQ.out, BW.out⟩
/-- If it says yes, there is something. -/
def PlainA (s : ByteArray) (low top : Int) : Prop := (bs s).all ink = true ∧ low ≤ (s.size : Int) ∧ (s.size : Int) ≤ top ∧ (0 < s.size → bt s 0 ≠ 32 ∧ bt s ((s.size - 1 : Nat) : Int) ≠ 32)
theorem size_nil {s : ByteArray} (h : s.toList = []) : s.size = 0 := by
  rw [ByteArray.toList_eq] at h
  exact (show s.data.toList.length = 0 by rw [h]; rfl)
def Ends32 (s : ByteArray) : Prop := 0 < s.size → bt s 0 ≠ 32 ∧ bt s ((s.size - 1 : Nat) : Int) ≠ 32
def Sure (s : ByteArray) (low top : Int) (b : Bool) : Prop := (b = true → low ≤ s.size ∧ (s.size : Int) ≤ 4 * top ∧ Ends32 s) ∧ (PlainA s low top → b = true)
set_option maxHeartbeats 4000000 in
set_option maxRecDepth 4000 in
theorem plain_x (s : ByteArray) (low top : Int) (w : World) (hs : s.size ≤ 140737488355328) : Calls Tryz.prog 43 #[.string s, .int .i64 low, .int .i64 top] w (OutB (Sure s low top) w) := by
  have HS := Aside0.mk hs
  go_enter Tryz.func43, Tryz.ntmps43
  go_wp2_with fail
  refine (count_x s _ hs).mono ?_
  rintro e w1 ⟨n, rfl, hn, BW⟩
  replace BW := Aside0.mk BW
  have HN := Aside0.mk hn
  clear hn
  have NO : Aside0 (¬ PlainA s low top → Sure s low top false) := ⟨fun h => ⟨fun h => absurd h (by decide), fun g => absurd g h⟩⟩
  go_wp2_with fail
  go_loopg [8] s.size (fun gg s8 wr => ∃ kk : Nat, kk ≤ s.size ∧ s.size - kk ≤ gg ∧ s8 = .int .i64 kk ∧ Aside0 (Below w.heap.size w wr))
  case atStart => exact ⟨0, Nat.zero_le _, by omega, rfl, BW⟩
  case round =>
    obtain ⟨kk, hkk, hg, rfl, BW⟩ := hrel
    by_cases hlt : kk < s.size
    · have hltz : (kk : Int) < (s.size : Int) := by omega
      have hx := byte_at s kk
      obtain ⟨c, HC⟩ : ∃ c, Aside0 (c = bt s (kk : Int)) := ⟨_, ⟨rfl⟩⟩
      rw [← HC.out] at hx
      by_cases q1 : c < 32
      · have NP : Aside0 (¬ PlainA s low top) := ⟨fun g => by have h := ink_at g.1 hlt; rw [← HC.out] at h; unfold ink at h; rw [Bool.and_eq_true, decide_eq_true_eq] at h; omega⟩
        go_wp2_with fail
        go_ret
        exact ⟨_, rfl, NO.out NP.out, BW.out⟩
      · go_wp2_with fail
        go_roundg (s.size - (kk + 1))
        case measure => omega
        case rel => exact ⟨kk + 1, by omega, by omega, by go_num, BW⟩
    · have hltz : ¬ (kk : Int) < (s.size : Int) := by omega
      by_cases p1 : 0 ≤ n
      rotate_left
      · have NP : Aside0 (¬ PlainA s low top) := ⟨fun g => by have h := HN.out.2.2 g.1; have := g.2.1; have := g.2.2.1; omega⟩
        go_wp2_with fail
        go_ret
        exact ⟨_, rfl, NO.out NP.out, BW.out⟩
      by_cases p2 : low ≤ n
      rotate_left
      · have NP : Aside0 (¬ PlainA s low top) := ⟨fun g => by have h := HN.out.2.2 g.1; have := g.2.1; have := g.2.2.1; omega⟩
        go_wp2_with fail
        go_ret
        exact ⟨_, rfl, NO.out NP.out, BW.out⟩
      by_cases p3 : n ≤ top
      rotate_left
      · have NP : Aside0 (¬ PlainA s low top) := ⟨fun g => by have h := HN.out.2.2 g.1; have := g.2.1; have := g.2.2.1; omega⟩
        go_wp2_with fail
        go_ret
        exact ⟨_, rfl, NO.out NP.out, BW.out⟩
      have YES : Aside0 (∀ b, (b = true → Ends32 s) → (PlainA s low top → b = true) → Sure s low top b) := ⟨fun b hE h => ⟨fun hb => ⟨by have : n ≤ s.size := HN.out.1; omega, by have := HN.out.2.1 p1; omega, hE hb⟩, h⟩⟩
      by_cases h0 : s.toList = []
      · have m0 : (s.toList == ([] : List UInt8)) = true := beq_iff_eq.mpr h0
        replace h0 := Aside0.mk h0
        go_wp2_with fail
        go_ret
        exact ⟨_, rfl, YES.out _ (fun _ hp => absurd (size_nil h0.out) (Nat.ne_of_gt hp)) (fun _ => by rfl), BW.out⟩
      · have m0 : (s.toList == ([] : List UInt8)) = false := beq_eq_false_iff_ne.mpr h0
        have hp : 0 < s.size := by
          rcases Nat.eq_zero_or_pos s.size with h | h
          · exact absurd (List.eq_nil_of_length_eq_zero (by rw [ByteArray.toList_eq]; exact h)) h0
          · exact h
        have hpz : (0 : Int) < (s.size : Int) := by omega
        have hx0 := byte_at s 0
        have hx1 := byte_at s (s.size - 1)
        have e1 : wrap64 ((s.size : Int) - 1) = ((s.size - 1 : Nat) : Int) := by have := HS.out; unfold wrap64; omega
        have e2 : (s.size : Int) - 1 = ((s.size - 1 : Nat) : Int) := by omega
        have l1 : s.size - 1 < s.size := by omega
        have l2 : ((s.size - 1 : Nat) : Int) < (s.size : Int) := by omega
        obtain ⟨c0, HC0⟩ : ∃ c, Aside0 (c = bt s ((0 : Nat) : Int)) := ⟨_, ⟨rfl⟩⟩
        obtain ⟨c1, HC1⟩ : ∃ c, Aside0 (c = bt s ((s.size - 1 : Nat) : Int)) := ⟨_, ⟨rfl⟩⟩
        rw [← HC0.out] at hx0
        rw [← HC1.out] at hx1
        have HP := Aside0.mk hp
        replace h0 := Aside0.mk h0
        by_cases q0 : c0 = 32
        · have q0' : (c0 != 32) = false := bne_eq_false_iff_eq.mpr q0
          have NP : Aside0 (¬ PlainA s low top) := ⟨fun g => by have h := (g.2.2.2 HP.out).1; exact h (HC0.out.symm.trans q0)⟩
          go_wp2_with fail
          go_ret
          exact ⟨_, rfl, NO.out NP.out, BW.out⟩
        · have q0' : (c0 != 32) = true := bne_iff_ne.mpr q0
          by_cases q9 : c1 = 32
          · have q9' : (c1 != 32) = false := bne_eq_false_iff_eq.mpr q9
            have NP : Aside0 (¬ PlainA s low top) := ⟨fun g => by have h := (g.2.2.2 HP.out).2; exact h (HC1.out.symm.trans q9)⟩
            go_wp2_with fail
            go_ret
            exact ⟨_, rfl, YES.out _ (fun h => absurd h (by decide)) (fun g => absurd g NP.out), BW.out⟩
          · have q9' : (c1 != 32) = true := bne_iff_ne.mpr q9
            go_wp2_with fail
            go_ret
            exact ⟨_, rfl, YES.out _ (fun _ _ => ⟨fun h => q0 (HC0.out.trans h), fun h => q9 (HC1.out.trans h)⟩) (fun _ => by first | rfl | exact q9'), BW.out⟩
/-- What a child of a model takes. -/
def SimOK (ty lo hi : Int) (s : ByteArray) : Prop := (ty = 1 → rightF s lo hi = true) ∧ (ty = 2 → PlainA s lo hi) ∧ (ty = 3 → capF s 4 = true) ∧ (ty = 4 → ofE s = 0) ∧ (ty = 5 → amtOfE s = 0) ∧ (ty = 6 → alnF s lo hi = true) ∧ (ty = 7 → hexE s = 0 ∧ lo ≤ (s.size : Int) ∧ (s.size : Int) ≤ hi) ∧ 1 ≤ ty ∧ ty ≤ 7
def Sim0 (ty lo hi : Int) (s : ByteArray) (e : Int) : Prop := SimOK ty lo hi s → e = 0
set_option maxHeartbeats 8000000 in
set_option maxRecDepth 10000 in
theorem simple_e (nm : ByteArray) (mn mx ty lo hi : Int) (s : ByteArray) (w : World) (hs : s.size ≤ 140737488355328) : Calls Tryz.prog 93 #[.agg #[.string nm, .int .i64 mn, .int .i64 mx, .int .i64 ty, .int .i64 lo, .int .i64 hi], .string s] w (OutI (Sim0 ty lo hi s) w) := by
  have HS := Aside0.mk hs
  have hu148 := Aside0.mk Tryz.underlying148
  go_enter Tryz.func93, Tryz.ntmps93
  go_upto_region 1 with fail
  obtain ⟨p, hp⟩ : ∃ p, p = w.heap.size := ⟨_, rfl⟩
  have J0 : Below w.heap.size w (w.alloc (.cells #[.string nm, .int .i64 mn, .int .i64 mx, .int .i64 ty, .int .i64 lo, .int .i64 hi] 148)) ∧ (w.alloc (.cells #[.string nm, .int .i64 mn, .int .i64 mx, .int .i64 ty, .int .i64 lo, .int .i64 hi] 148)).heap[w.heap.size]? = some (.cells #[.string nm, .int .i64 mn, .int .i64 mx, .int .i64 ty, .int .i64 lo, .int .i64 hi] 148 (0, 0)) := ⟨below_alloc (Below.refl _ w) _, blk_new w _⟩
  rw [← hp] at J0 ⊢
  revert J0
  generalize w.alloc (.cells #[.string nm, .int .i64 mn, .int .i64 mx, .int .i64 ty, .int .i64 lo, .int .i64 hi] 148) = W
  intro J0
  have BW := Aside0.mk (show Below w.heap.size w W by rw [← hp]; exact J0.1)
  have HB := Aside0.mk J0.2
  clear J0 hp
  have d3 := (blk_cell HB.out 3).trans (show _ = some (Value.int .i64 ty) from rfl)
  by_cases h1 : ty = 1
  · subst h1
    have d4 := (blk_cell HB.out 4).trans (show _ = some (Value.int .i64 lo) from rfl)
    have d5 := (blk_cell HB.out 5).trans (show _ = some (Value.int .i64 hi) from rfl)
    go_wp2_with fail
    refine (right_e s lo hi _ HS.out).mono ?_
    rintro e w1 ⟨rfl, hb⟩
    have BX := Aside0.mk (below_step BW.out hb.below)
    clear hb
    obtain ⟨b, HF⟩ : ∃ b, Aside0 (b = rightF s lo hi) := ⟨_, ⟨rfl⟩⟩
    rw [← HF.out]
    cases b with
    | true =>
      go_wp2_with fail
      go_ret
      exact ⟨_, rfl, fun _ => by rfl, BX.out⟩
    | false =>
      go_wp2_with fail
      go_ret
      exact ⟨_, rfl, (fun h => by have := h.1 rfl; rw [← HF.out] at this; cases this), BX.out⟩
  by_cases h2 : ty = 2
  · subst h2
    have d4 := (blk_cell HB.out 4).trans (show _ = some (Value.int .i64 lo) from rfl)
    have d5 := (blk_cell HB.out 5).trans (show _ = some (Value.int .i64 hi) from rfl)
    go_wp2_with fail
    refine (plain_x s lo hi _ HS.out).mono ?_
    rintro e w1 ⟨b, rfl, hp, hb⟩
    have BX := Aside0.mk (below_step BW.out hb)
    have HF := Aside0.mk hp.2
    clear hb hp
    cases b with
    | true =>
      go_wp2_with fail
      go_ret
      exact ⟨_, rfl, fun _ => by rfl, BX.out⟩
    | false =>
      go_wp2_with fail
      go_ret
      exact ⟨_, rfl, (fun h => absurd (HF.out (h.2.1 rfl)) (by decide)), BX.out⟩
  by_cases h3 : ty = 3
  · subst h3
    go_wp2_with fail
    refine (cap_e s 4 _ HS.out).mono ?_
    rintro e w1 ⟨rfl, hb⟩
    have BX := Aside0.mk (below_step BW.out hb.below)
    clear hb
    obtain ⟨b, HF⟩ : ∃ b, Aside0 (b = capF s 4) := ⟨_, ⟨rfl⟩⟩
    rw [← HF.out]
    cases b with
    | true =>
      go_wp2_with fail
      go_ret
      exact ⟨_, rfl, fun _ => by rfl, BX.out⟩
    | false =>
      go_wp2_with fail
      go_ret
      exact ⟨_, rfl, (fun h => by have := h.2.2.1 rfl; rw [← HF.out] at this; cases this), BX.out⟩
  by_cases h4 : ty = 4
  · subst h4
    go_wp2_with fail
    refine (timeOf_e s _ HS.out).mono ?_
    rintro e w1 ⟨t, rfl, hb⟩
    have BX := Aside0.mk (below_step BW.out hb.below)
    clear hb
    obtain ⟨f, HF⟩ : ∃ f, Aside0 (f = ofE s) := ⟨_, ⟨rfl⟩⟩
    rw [← HF.out]
    by_cases q : f = 0
    · subst q
      go_wp2_with fail
      go_ret
      exact ⟨_, rfl, fun _ => by rfl, BX.out⟩
    · have q' : (f == 0) = false := beq_eq_false_iff_ne.mpr q
      have NF : Aside0 (¬ SimOK 4 lo hi s) := ⟨fun h => q (by rw [HF.out]; exact (h.2.2.2.1 rfl))⟩
      go_wp2_with fail
      go_ret
      exact ⟨_, rfl, fun h => absurd h NF.out, BX.out⟩
  by_cases h5 : ty = 5
  · subst h5
    go_wp2_with fail
    refine (amountOf_e s _ HS.out).mono ?_
    rintro e w1 ⟨t, rfl, hb⟩
    have BX := Aside0.mk (below_step BW.out hb)
    clear hb
    obtain ⟨f, HF⟩ : ∃ f, Aside0 (f = amtOfE s) := ⟨_, ⟨rfl⟩⟩
    rw [← HF.out]
    by_cases q : f = 0
    · subst q
      go_wp2_with fail
      go_ret
      exact ⟨_, rfl, fun _ => by rfl, BX.out⟩
    · have q' : (f == 0) = false := beq_eq_false_iff_ne.mpr q
      have NF : Aside0 (¬ SimOK 5 lo hi s) := ⟨fun h => q (by rw [HF.out]; exact (h.2.2.2.2.1 rfl))⟩
      go_wp2_with fail
      go_ret
      exact ⟨_, rfl, fun h => absurd h NF.out, BX.out⟩
  by_cases h6 : ty = 6
  · subst h6
    have d4 := (blk_cell HB.out 4).trans (show _ = some (Value.int .i64 lo) from rfl)
    have d5 := (blk_cell HB.out 5).trans (show _ = some (Value.int .i64 hi) from rfl)
    go_wp2_with fail
    refine (aln_e s lo hi _ HS.out).mono ?_
    rintro e w1 ⟨rfl, hb⟩
    have BX := Aside0.mk (below_step BW.out hb.below)
    clear hb
    obtain ⟨b, HF⟩ : ∃ b, Aside0 (b = alnF s lo hi) := ⟨_, ⟨rfl⟩⟩
    rw [← HF.out]
    cases b with
    | true =>
      go_wp2_with fail
      go_ret
      exact ⟨_, rfl, fun _ => by rfl, BX.out⟩
    | false =>
      go_wp2_with fail
      go_ret
      exact ⟨_, rfl, (fun h => by have := h.2.2.2.2.2.1 rfl; rw [← HF.out] at this; cases this), BX.out⟩
  by_cases h7 : ty = 7
  · subst h7
    have d4 := (blk_cell HB.out 4).trans (show _ = some (Value.int .i64 lo) from rfl)
    have d5 := (blk_cell HB.out 5).trans (show _ = some (Value.int .i64 hi) from rfl)
    go_wp2_with fail
    refine (unhex_e s _ HS.out).mono ?_
    rintro e w1 ⟨A, n, cc, rfl, -, hb⟩
    have BX := Aside0.mk (below_step BW.out hb)
    have HB1 := Aside0.mk (blk_below HB.out hb)
    clear d4 d5
    have d4 := (blk_cell HB1.out 4).trans (show _ = some (Value.int .i64 lo) from rfl)
    have d5 := (blk_cell HB1.out 5).trans (show _ = some (Value.int .i64 hi) from rfl)
    clear hb
    obtain ⟨f, HF⟩ : ∃ f, Aside0 (f = hexE s) := ⟨_, ⟨rfl⟩⟩
    rw [← HF.out]
    by_cases q : f = 0
    · subst q
      by_cases q1 : lo ≤ (s.size : Int)
      · by_cases q2 : (s.size : Int) ≤ hi
        · go_wp2_with fail
          go_ret
          exact ⟨_, rfl, fun _ => by rfl, BX.out⟩
        · have q2b : decide ((s.size : Int) ≤ hi) = false := decide_eq_false q2
          go_wp2_with fail
          go_ret
          exact ⟨_, rfl, fun h => by have := (h.2.2.2.2.2.2.1 rfl).2.2; omega, BX.out⟩
      · go_wp2_with fail
        go_ret
        exact ⟨_, rfl, fun h => by have := (h.2.2.2.2.2.2.1 rfl).2.1; omega, BX.out⟩
    · have q' : (f == 0) = false := beq_eq_false_iff_ne.mpr q
      have NF : Aside0 (¬ SimOK 7 lo hi s) := ⟨fun h => q (by rw [HF.out]; exact (h.2.2.2.2.2.2.1 rfl).1)⟩
      go_wp2_with fail
      go_ret
      exact ⟨_, rfl, fun h => absurd h NF.out, BX.out⟩
  have NF : Aside0 (¬ SimOK ty lo hi s) := ⟨fun h => by have := h.2.2.2.2.2.2.2; omega⟩
  have b1 : (ty == 1) = false := beq_eq_false_iff_ne.mpr h1
  have b2 : (ty == 2) = false := beq_eq_false_iff_ne.mpr h2
  have b3 : (ty == 3) = false := beq_eq_false_iff_ne.mpr h3
  have b4 : (ty == 4) = false := beq_eq_false_iff_ne.mpr h4
  have b5 : (ty == 5) = false := beq_eq_false_iff_ne.mpr h5
  have b6 : (ty == 6) = false := beq_eq_false_iff_ne.mpr h6
  have b7 : (ty == 7) = false := beq_eq_false_iff_ne.mpr h7
  go_wp2_with fail
  go_ret
  exact ⟨_, rfl, fun h => absurd h NF.out, BW.out⟩
end Go.Proofs.YthapknnppabdaaaGreat.MQ
namespace Go.Proofs.YthapknnppabdaaaGreat.Fill
open Go.RowKit Go.Proofs.YthapknnppabdaaaGreatW.PrintWords
theorem keep_setRow {w : World} {g t : Nat} {old : Array Value} (hg : w.heap[g]? = some (.cells old t (0, 0))) (cells : Array Value) : (w.setRow g cells).heap[g]? = some (.cells cells t (0, 0)) ∧ KeepBut w (w.setRow g cells) g none ∧ (∀ B w0, Below B w0 w → B ≤ g → Below B w0 (w.setRow g cells)) := by
  have hsz : (w.setRow g cells).heap.size = w.heap.size := by simp [World.setRow]
  have hoth : ∀ i, i ≠ g → (w.setRow g cells).heap[i]? = w.heap[i]? := fun i hi => by simp [World.setRow, Array.getElem?_modify, Ne.symm hi]
  refine ⟨setRow_heap w g old cells t (0, 0) hg, ⟨by omega, fun i _ hi _ => hoth i hi⟩, fun B w0 h hB => ⟨h.os, h.tape, h.output, by rw [hsz]; exact h.size, fun i hi => (hoth i (by omega)).trans (h.block i hi)⟩⟩
section
variable {P : Program} {ops : Array Oper} {rest : List Oper} {o : Oper} {a : Act} {w : World} {Q : Exit → Act → World → Prop}
theorem store_event (hgd : o.guard = none) (ty : TypeId) (x y : Operand) (ho : o.op = .store ty x y)
    (g : Nat) (cells : Array Value) (hx : a.eval x = .pointer (some ⟨g, 0, none⟩)) (hy : a.eval y = .agg cells)
    (t : TypeId) (old : Array Value) (hg : w.heap[g]? = some (.cells old t (0, 0))) (hi : (P.info? ty).map (·.size) = some cells.size)
    (hold : old.size = cells.size) (h1 : cells.all (·.oneCell') = true)
    (h : ∀ w', w'.heap[g]? = some (.cells cells t (0, 0)) → KeepBut w w' g none → (∀ B w0, Below B w0 w → B ≤ g → Below B w0 w') → wpList P ops Q rest (a.put o.dst undef) w') : wpList P ops Q (o :: rest) a w :=
  wpList_store_row hgd ty x y ho g cells hx hy t old hg hi hold h1 (h _ (keep_setRow hg cells).1 (keep_setRow hg cells).2.1 (keep_setRow hg cells).2.2)
/-- A whole struct, read. -/
theorem row_yields (ty : TypeId) (x : Operand) (ho : o.op = .load ty x) (g : Nat) (hx : a.eval x = .pointer (some ⟨g, 0, none⟩)) (t : TypeId) (cs : Array Value) (fr : Nat × Nat) (d : TypeDesc)
    (hg : w.heap[g]? = some (.cells cs t fr)) (hu : P.underlying ty = some d) (hd : (match d with | .struct _ | .array _ _ => true | _ => false) = true) (hi : (P.info? ty).map (·.size) = some cs.size) :
    (execOp a.eval o).run P w = .ok (.value (.agg cs)) w := by
  unfold execOp
  simp only [ho, hx, Instr.loadAt, Instr.sureAddr, Sem.run_bind, Sem.run_pure, Result.andThen_ok, run_loadVar_row w g t ty cs fr d hg hu hd hi]
/-- The same in a region that draws its order. -/
theorem skip_event {oi : Oper} {K : Act → World → Prop} (hw : Region.wanted oi (yielded ops a.tmps) = true) (hN : oi.dst = none) (ty : TypeId) (x y : Operand) (ho : oi.op = .store ty x y)
    (g : Nat) (cells : Array Value) (hx : a.eval x = .pointer (some ⟨g, 0, none⟩)) (hy : a.eval y = .agg cells)
    (t : TypeId) (old : Array Value) (hg : w.heap[g]? = some (.cells old t (0, 0))) (hi : (P.info? ty).map (·.size) = some cells.size)
    (hold : old.size = cells.size) (h1 : cells.all (·.oneCell') = true)
    (h : ∀ w', w'.heap[g]? = some (.cells cells t (0, 0)) → KeepBut w w' g none → (∀ B w0, Below B w0 w → B ≤ g → Below B w0 w') → K a w') : if Region.wanted oi (yielded ops a.tmps) = true then Oper.wp P oi a w K Q else K (a.put none undef) w := by
  rw [if_pos hw]
  refine wp_store_row ty x y ho g cells hx hy t old hg hi hold h1 ?_
  rw [hN]
  exact h _ (keep_setRow hg cells).1 (keep_setRow hg cells).2.1 (keep_setRow hg cells).2.2
end
end Go.Proofs.YthapknnppabdaaaGreat.Fill
namespace Go.Proofs.YthapknnppabdaaaGreat.MQ
open Go.RowKit Go.Proofs.YthapknnppabdaaaGreatW.PrintWords Go.Proofs.YthapknnppabdaaaGreatW.PrintLast Go.Proofs.YthapknnppabdaaaGreatW.PrintMore
set_option linter.unusedVariables false
set_option linter.unusedSimpArgs false
def T89_7 : Bool × List (List Nat × List Nat) := (true, [([], []), ([], []), ([], []), ([0], []), ([0, 1, 2, 3], [0, 1, 2, 3]), ([4, 3, 0, 1, 2, 3, 4], [4]), ([5, 0, 1, 2, 3, 4, 5], [])])
def B89_7 : List Nat := [0, 0, 0, 1, 15, 31, 63]
theorem tab89_7 : rtab .any (opsOf Tryz.f89 7) = T89_7 := by kernel_rfl
theorem bits89_7 : waitsOk T89_7.2 B89_7 = true := by kernel_rfl
def V (k n : Nat) : Array Bool := ((List.range k).map n.testBit).toArray
def row148 (c : S148) : List Value := [.string c.f0, .int .i64 c.f1, .int .i64 c.f2, .int .i64 c.f3, .int .i64 c.f4, .int .i64 c.f5]
theorem row148_at (l : List S148) : ∀ (j i : Nat), i < 6 → (l.flatMap row148)[j * 6 + i]? = (l[j]?).bind fun c => (row148 c)[i]? := by
  induction l with
  | nil => intro j i _; simp
  | cons c l ih =>
    intro j i hi
    rw [List.flatMap_cons]
    cases j with
    | zero => rw [Nat.zero_mul, Nat.zero_add, List.getElem?_append_left (by show i < 6; exact hi)]; simp
    | succ j =>
      rw [List.getElem?_append_right (by show 6 ≤ _; omega)]
      rw [show (j + 1) * 6 + i - (row148 c).length = j * 6 + i by show _ - 6 = _; omega, ih j i hi, List.getElem?_cons_succ]
theorem lit148 {w : World} {g t : Nat} {cs : Array Value} (l : List S148) (hb : w.heap[g]? = some (.cells cs t (0, 0))) (hc : cs.toList = l.flatMap row148) (hn : l.length ≤ 1000) : k148.C w (some ⟨g, 0, none⟩) l.length l := by
  refine ⟨rfl, by omega, fun _ => ⟨_, rfl, fun j p hp => ?_⟩⟩
  refine ⟨_, rfl, k148_mk w p, fun i u hu => ?_⟩
  have ea : ∀ k, ((⟨g, 0, none⟩ : Addr).add k) = ⟨g, k, none⟩ := fun k => by simp [Addr.add]; omega
  show w.cell? ((⟨g, 0, none⟩ : Addr).add (j * 6 + i)) = some u
  have hi : i < 6 := (List.getElem?_eq_some_iff.1 hu).1
  rw [ea, blk_cell hb, ← Array.getElem?_toList, hc, row148_at l j i hi, hp]
  exact hu
set_option maxHeartbeats 1000000 in
theorem kid_e (nm : ByteArray) (mn mx ty lo hi : Int) (w : World) : Calls Tryz.prog 114 #[.string nm, .int .i64 mn, .int .i64 mx, .int .i64 ty, .int .i64 lo, .int .i64 hi] w fun e w' => e = .returned (.agg #[.string nm, .int .i64 mn, .int .i64 mx, .int .i64 ty, .int .i64 lo, .int .i64 hi]) ∧ Below w.heap.size w w' := by
  have hu := Tryz.underlying148
  go_enter Tryz.func114, Tryz.ntmps114
  go_wp2_with fail
  exact bodyPost_ret (results_cell_row (fn := Tryz.f114) (p := 12) (ty := 148) (by rfl) _ _ w.heap.size 148 #[.string nm, .int .i64 mn, .int .i64 mx, .int .i64 ty, .int .i64 lo, .int .i64 hi] (0, 0) _ (by rfl) (blk_new w _) hu rfl (by kernel_rfl)) rfl ⟨rfl, below_alloc (Below.refl _ w) _⟩

def modelDocument : List S148 := [⟨⟨#[72, 100, 114]⟩, 1, 1, 8, 0, 0⟩, ⟨⟨#[66, 111, 100, 121]⟩, 1, 1, 8, 0, 0⟩]
def modelHdr : List S148 := [⟨⟨#[77, 115, 103, 70, 99, 116, 110]⟩, 1, 1, 3, 4, 4⟩, ⟨⟨#[88, 99, 104, 103, 73, 100]⟩, 1, 1, 1, 1, 6⟩, ⟨⟨#[67, 114, 101, 68, 116, 84, 109]⟩, 1, 1, 4, 19, 19⟩, ⟨⟨#[73, 110, 105, 116, 103, 80, 116, 121]⟩, 1, 1, 1, 1, 11⟩]
def modelBody : List S148 := [⟨⟨#[80, 65, 78]⟩, 0, 1, 1, 12, 19⟩, ⟨⟨#[84, 116, 108, 65, 109, 116]⟩, 0, 1, 5, 4, 13⟩, ⟨⟨#[67, 99, 121]⟩, 0, 1, 1, 3, 3⟩, ⟨⟨#[82, 82, 78]⟩, 0, 1, 6, 12, 12⟩, ⟨⟨#[77, 114, 99, 104, 110, 116, 73, 100]⟩, 0, 1, 2, 1, 35⟩, ⟨⟨#[84, 101, 114, 109, 110, 108, 73, 100]⟩, 0, 1, 2, 1, 35⟩, ⟨⟨#[78, 116, 114, 121, 77, 100]⟩, 0, 1, 1, 1, 3⟩, ⟨⟨#[82, 115, 112, 110]⟩, 0, 1, 3, 4, 4⟩, ⟨⟨#[82, 115, 112, 110, 82, 115, 110]⟩, 0, 1, 3, 4, 4⟩, ⟨⟨#[65, 117, 116, 104, 115, 116, 110, 67, 100]⟩, 0, 1, 6, 6, 6⟩, ⟨⟨#[82, 115, 110]⟩, 0, 1, 1, 4, 4⟩, ⟨⟨#[79, 114, 103, 110, 108, 84, 120]⟩, 0, 1, 8, 0, 0⟩, ⟨⟨#[73, 67, 67, 68, 97, 116, 97]⟩, 0, 1, 7, 2, 510⟩, ⟨⟨#[78, 111, 116, 101]⟩, 0, 1, 2, 1, 140⟩, ⟨⟨#[83, 112, 108, 109, 116, 114, 121, 68, 97, 116, 97]⟩, 0, 8, 8, 0, 0⟩, ⟨⟨#[82, 115, 100, 108, 75, 101, 121]⟩, 0, 1, 7, 8, 8⟩]
def modelOrgnlTx : List S148 := [⟨⟨#[88, 99, 104, 103, 73, 100]⟩, 1, 1, 1, 1, 6⟩, ⟨⟨#[67, 114, 101, 68, 116, 84, 109]⟩, 1, 1, 4, 19, 19⟩]
def modelSplmtryData : List S148 := [⟨⟨#[78, 109]⟩, 1, 1, 2, 1, 20⟩, ⟨⟨#[86, 97, 108]⟩, 1, 1, 2, 1, 100⟩]
def modelF (s : ByteArray) : List S148 × Bool := if s.toList = [68, 111, 99, 117, 109, 101, 110, 116] then (modelDocument, true) else if s.toList = [72, 100, 114] then (modelHdr, true) else if s.toList = [66, 111, 100, 121] then (modelBody, true) else if s.toList = [79, 114, 103, 110, 108, 84, 120] then (modelOrgnlTx, true) else if s.toList = [83, 112, 108, 109, 116, 114, 121, 68, 97, 116, 97] then (modelSplmtryData, true) else ([], false)
def ModelEnd (s : ByteArray) (w : World) (e : Ending) (w' : World) : Prop := ∃ (A : Option Addr) (c : Nat), e = .returned (.tuple #[.slice A (modelF s).1.length c, .bool (modelF s).2]) ∧ k148.C w' A (modelF s).1.length (modelF s).1 ∧ (modelF s).1.length ≤ c ∧ Below w.heap.size w w'
theorem model_lit {s : ByteArray} {w W : World} {l : List S148} {b : Bool} {cs : Array Value} {t n : Nat} (hF : modelF s = (l, b)) (hb : Below w.heap.size w W) (hc : cs.toList = l.flatMap row148) (hn : l.length = n) (h1 : n ≤ 1000) : ModelEnd s w (.returned (.tuple #[.slice (some ⟨W.heap.size, 0, none⟩) n n, .bool b])) (W.alloc (.cells cs t)) := by
  subst hn
  unfold ModelEnd
  rw [hF]
  exact ⟨_, _, rfl, lit148 l (blk_new W _) hc h1, Nat.le_refl _, below_alloc hb _⟩
set_option maxHeartbeats 8000000 in
set_option maxRecDepth 100000 in
theorem model_e (s : ByteArray) (w : World) : Calls Tryz.prog 89 #[.string s] w (ModelEnd s w) := by
  have hu148 := Aside0.mk Tryz.underlying148
  go_enter Tryz.func89, Tryz.ntmps89
  go_upto_region 2 with ((with_reducible refine gate_store (t := 148) (p := 4) rfl ?_); refine Go.Proofs.YthapknnppabdaaaGreat.Fill.store_event rfl 148 _ _ rfl w.heap.size #[.string ⟨#[88, 99, 104, 103, 73, 100]⟩, .int .i64 1, .int .i64 1, .int .i64 1, .int .i64 1, .int .i64 6] rfl rfl 148 #[.string ⟨#[]⟩, .int .i64 0, .int .i64 0, .int .i64 0, .int .i64 0, .int .i64 0] (blk_new w _) (by kernel_rfl) (by rfl) (by rw [← Array.all_toList]; rfl) ?_; intro w1 ea eb ec; have J1 := Aside0.mk (And.intro ea (ec _ _ (below_alloc (Below.refl _ w) _) (Nat.le_refl _))); clear ea eb ec)
  obtain ⟨p, hp⟩ : ∃ p, p = w.heap.size := ⟨_, rfl⟩
  have J2 : Aside0 (w1.heap[p]? = some (.cells #[.string ⟨#[88, 99, 104, 103, 73, 100]⟩, .int .i64 1, .int .i64 1, .int .i64 1, .int .i64 1, .int .i64 6] 148 (0, 0)) ∧ Below w.heap.size w w1 ∧ w.heap.size ≤ p) := ⟨by rw [hp]; exact J1.out.1, J1.out.2, by omega⟩
  rw [← hp]
  clear J1 hp
  go_upto_region 3 with ((with_reducible refine gate_store (t := 148) (p := 5) rfl ?_); refine Go.Proofs.YthapknnppabdaaaGreat.Fill.store_event rfl 148 _ _ rfl w1.heap.size #[.string ⟨#[67, 114, 101, 68, 116, 84, 109]⟩, .int .i64 1, .int .i64 1, .int .i64 4, .int .i64 19, .int .i64 19] rfl rfl 148 #[.string ⟨#[]⟩, .int .i64 0, .int .i64 0, .int .i64 0, .int .i64 0, .int .i64 0] (blk_new w1 _) (by kernel_rfl) (by rfl) (by rw [← Array.all_toList]; rfl) ?_; intro w2 ea eb ec; have J1 := Aside0.mk (And.intro ea (ec _ _ (below_alloc (Below.refl _ w1) _) (Nat.le_refl _))); clear ea eb ec)
  obtain ⟨q, hq⟩ : ∃ q, q = w1.heap.size := ⟨_, rfl⟩
  have J3 : Aside0 (w2.heap[q]? = some (.cells #[.string ⟨#[67, 114, 101, 68, 116, 84, 109]⟩, .int .i64 1, .int .i64 1, .int .i64 4, .int .i64 19, .int .i64 19] 148 (0, 0)) ∧ w2.heap[p]? = some (.cells #[.string ⟨#[88, 99, 104, 103, 73, 100]⟩, .int .i64 1, .int .i64 1, .int .i64 1, .int .i64 1, .int .i64 6] 148 (0, 0)) ∧ Below w.heap.size w w2) := ⟨by rw [hq]; exact J1.out.1, blk_below J2.out.1 J1.out.2, below_step J2.out.2.1 J1.out.2⟩
  rw [← hq]
  clear J1 J2 hq
  by_cases q0 : s.toList = [68, 111, 99, 117, 109, 101, 110, 116]
  · have HF : Aside0 (modelF s = (modelDocument, true)) := ⟨by unfold modelF; rw [if_pos q0]⟩
    replace q0 : (s.toList == [68, 111, 99, 117, 109, 101, 110, 116]) = true := beq_iff_eq.mpr q0
    go_wp2_with fail; refine (kid_e _ _ _ _ _ _ _).mono ?_; rintro e w3 ⟨rfl, hb⟩; have JN := Aside0.mk (And.intro (blk_below J3.out.1 hb) (And.intro (blk_below J3.out.2.1 hb) (below_step J3.out.2.2 hb))); clear hb J3; have J3 := JN; clear JN
    go_wp2_with fail; refine (kid_e _ _ _ _ _ _ _).mono ?_; rintro e w3 ⟨rfl, hb⟩; have JN := Aside0.mk (And.intro (blk_below J3.out.1 hb) (And.intro (blk_below J3.out.2.1 hb) (below_step J3.out.2.2 hb))); clear hb J3; have J3 := JN; clear JN
    go_wp2_with fail
    go_ret2
    exact model_lit HF.out J3.out.2.2 (by rfl) rfl (by decide)
  by_cases q1 : s.toList = [72, 100, 114]
  · have HF : Aside0 (modelF s = (modelHdr, true)) := ⟨by unfold modelF; rw [if_neg q0, if_pos q1]⟩
    replace q0 : (s.toList == [68, 111, 99, 117, 109, 101, 110, 116]) = false := beq_eq_false_iff_ne.mpr q0
    replace q1 : (s.toList == [72, 100, 114]) = true := beq_iff_eq.mpr q1
    go_upto_region 7 with fail
    have JN := Aside0.mk (And.intro (blk_drew J3.out.1) (And.intro (blk_drew J3.out.2.1) (below_step J3.out.2.2 (below_drew1 (Below.refl _ _))))); clear J3; have J3 := JN; clear JN
    refine start_ (n := 7) (ds := []) (S := fun w' => w'.heap[q]? = some (.cells #[.string ⟨#[67, 114, 101, 68, 116, 84, 109]⟩, .int .i64 1, .int .i64 1, .int .i64 4, .int .i64 19, .int .i64 19] 148 (0, 0)) ∧ w'.heap[p]? = some (.cells #[.string ⟨#[88, 99, 104, 103, 73, 100]⟩, .int .i64 1, .int .i64 1, .int .i64 1, .int .i64 1, .int .i64 6] 148 (0, 0))) (V 7 0) (by rfl) (by rfl) (by kernel_rfl) (⟨J3.out.1, J3.out.2.1⟩) (fun hHeld => ?_); refine with_tabW tab89_7 bits89_7 (fun HT_ HW_ => ?_)
    generalize w2.drew = wd at J3 hHeld ⊢
    refine take_ (i := 1) (N := some 17) (v := .agg #[.string ⟨#[88, 99, 104, 103, 73, 100]⟩, .int .i64 1, .int .i64 1, .int .i64 1, .int .i64 1, .int .i64 6]) (a' := ?_) (V 7 2) rfl rfl (take_ofW HT_.out HW_.out (by kernel_rfl)) (fun _ _ _ h => h) (Or.inl ⟨by rfl, fun w' hs => Go.Proofs.YthapknnppabdaaaGreat.Fill.row_yields 148 _ rfl p rfl 148 #[.string ⟨#[88, 99, 104, 103, 73, 100]⟩, .int .i64 1, .int .i64 1, .int .i64 1, .int .i64 1, .int .i64 6] (0, 0) _ hs.2 hu148.out rfl (by kernel_rfl)⟩) hHeld ?_ ?_; rotate_left
    · simp only [Act.put, List.setIfInBounds_toArray, List.set_cons_zero, List.set_cons_succ, i64_w, i32_w]; rfl
    refine take_ (i := 2) (N := some 18) (v := .agg #[.string ⟨#[67, 114, 101, 68, 116, 84, 109]⟩, .int .i64 1, .int .i64 1, .int .i64 4, .int .i64 19, .int .i64 19]) (a' := ?_) (V 7 6) rfl rfl (take_ofW HT_.out HW_.out (by kernel_rfl)) (fun _ _ _ h => h) (Or.inl ⟨by rfl, fun w' hs => Go.Proofs.YthapknnppabdaaaGreat.Fill.row_yields 148 _ rfl q rfl 148 #[.string ⟨#[67, 114, 101, 68, 116, 84, 109]⟩, .int .i64 1, .int .i64 1, .int .i64 4, .int .i64 19, .int .i64 19] (0, 0) _ hs.1 hu148.out rfl (by kernel_rfl)⟩) hHeld ?_ ?_; rotate_left
    · simp only [Act.put, List.setIfInBounds_toArray, List.set_cons_zero, List.set_cons_succ, i64_w, i32_w]; rfl
    refine one_ (i := 0) (N := some 16) (V 7 7) rfl rfl (one_of HT_.out (by kernel_rfl)) (by decide) (fun K hK => ?_)
    refine goes_ Tryz.func114 (by kernel_rfl) rfl #[.string ⟨#[77, 115, 103, 70, 99, 116, 110]⟩, .int .i64 1, .int .i64 1, .int .i64 3, .int .i64 4, .int .i64 4] (by rfl) rfl rfl (by (try simp only [List.map_toArray, List.map_cons, List.map_nil]); first | done | rfl) ?_
    with_reducible refine (kid_e ⟨#[77, 115, 103, 70, 99, 116, 110]⟩ 1 1 3 4 4 _).mono ?_
    rintro e w100 ⟨rfl, hb⟩
    refine ⟨_, rfl, ?_⟩
    have JN := Aside0.mk (And.intro (blk_below J3.out.1 hb) (And.intro (blk_below J3.out.2.1 hb) (below_step J3.out.2.2 hb))); clear hb hHeld J3; have J3 := JN; clear JN
    refine hK.out _ _ (⟨J3.out.1, J3.out.2.1⟩) (fun hHeld => ?_)
    clear hK K
    refine norm_ (a' := ?_) ?_ ?_; rotate_left
    · show Act.put _ (some 16) _ = _; simp only [Act.put, List.setIfInBounds_toArray, List.set_cons_zero, List.set_cons_succ, i64_w, i32_w]; rfl
    refine one_ (i := 3) (N := some 19) (V 7 15) rfl rfl (one_of HT_.out (by kernel_rfl)) (by decide) (fun K hK => ?_)
    refine goes_ Tryz.func114 (by kernel_rfl) rfl #[.string ⟨#[73, 110, 105, 116, 103, 80, 116, 121]⟩, .int .i64 1, .int .i64 1, .int .i64 1, .int .i64 1, .int .i64 11] (by rfl) rfl rfl (by (try simp only [List.map_toArray, List.map_cons, List.map_nil]); first | done | rfl) ?_
    with_reducible refine (kid_e ⟨#[73, 110, 105, 116, 103, 80, 116, 121]⟩ 1 1 1 1 11 _).mono ?_
    rintro e w103 ⟨rfl, hb⟩
    refine ⟨_, rfl, ?_⟩
    have JN := Aside0.mk (And.intro (blk_below J3.out.1 hb) (And.intro (blk_below J3.out.2.1 hb) (below_step J3.out.2.2 hb))); clear hb hHeld J3; have J3 := JN; clear JN
    refine hK.out _ _ (⟨J3.out.1, J3.out.2.1⟩) (fun hHeld => ?_)
    clear hK K
    refine norm_ (a' := ?_) ?_ ?_; rotate_left
    · show Act.put _ (some 19) _ = _; simp only [Act.put, List.setIfInBounds_toArray, List.set_cons_zero, List.set_cons_succ, i64_w, i32_w]; rfl
    refine one_ (i := 4) (N := some 20) (V 7 31) rfl rfl (one_of HT_.out (by kernel_rfl)) (by decide) (fun K hK => ?_)
    refine value_ (w1 := ?_) (v := ?_) (by rfl) rfl ?_ ?_; rotate_left 2
    · go_simp
      constructor
      · rfl
      · rfl
    refine hK.out _ _ (⟨blk_below J3.out.1 (below_alloc (Below.refl _ _) _), blk_below J3.out.2.1 (below_alloc (Below.refl _ _) _)⟩) (fun hHeld => ?_)
    clear hK K
    refine norm_ (a' := ?_) ?_ ?_; rotate_left
    · show Act.put _ (some 20) _ = _; simp only [Act.put, List.setIfInBounds_toArray, List.set_cons_zero, List.set_cons_succ, i64_w, i32_w]; rfl
    refine pure_ (i := 5) (N := some 2) (v := ?_) (a' := ?_) (V 7 63) rfl rfl (any_of HT_.out (by kernel_rfl)) (fun _ _ _ h => h) (Or.inl ⟨by rfl, ?_⟩) ?_ ?_; rotate_left
    · intro w'; go_simp; with_reducible rfl
    rotate_left
    · simp only [Act.put, List.setIfInBounds_toArray, List.set_cons_zero, List.set_cons_succ, i64_w, i32_w]; rfl
    refine pure_ (i := 6) (N := some 3) (v := ?_) (a' := ?_) (V 7 127) rfl rfl (any_of HT_.out (by kernel_rfl)) (fun _ _ _ h => h) (Or.inl ⟨by rfl, ?_⟩) ?_ ?_; rotate_left
    · intro w'; go_simp; with_reducible rfl
    rotate_left
    · simp only [Act.put, List.setIfInBounds_toArray, List.set_cons_zero, List.set_cons_succ, i64_w, i32_w]; rfl
    refine done_ (done_of HT_.out (by kernel_rfl)) ?_
    clear hHeld HT_ HW_
    go_wp2_with fail
    go_ret2
    exact model_lit HF.out J3.out.2.2 (by rfl) rfl (by decide)
  by_cases q2 : s.toList = [66, 111, 100, 121]
  · have HF : Aside0 (modelF s = (modelBody, true)) := ⟨by unfold modelF; rw [if_neg q0, if_neg q1, if_pos q2]⟩
    replace q0 : (s.toList == [68, 111, 99, 117, 109, 101, 110, 116]) = false := beq_eq_false_iff_ne.mpr q0
    replace q1 : (s.toList == [72, 100, 114]) = false := beq_eq_false_iff_ne.mpr q1
    replace q2 : (s.toList == [66, 111, 100, 121]) = true := beq_iff_eq.mpr q2
    go_wp2_with fail; refine (kid_e _ _ _ _ _ _ _).mono ?_; rintro e w3 ⟨rfl, hb⟩; have JN := Aside0.mk (And.intro (blk_below J3.out.1 hb) (And.intro (blk_below J3.out.2.1 hb) (below_step J3.out.2.2 hb))); clear hb J3; have J3 := JN; clear JN
    go_wp2_with fail; refine (kid_e _ _ _ _ _ _ _).mono ?_; rintro e w3 ⟨rfl, hb⟩; have JN := Aside0.mk (And.intro (blk_below J3.out.1 hb) (And.intro (blk_below J3.out.2.1 hb) (below_step J3.out.2.2 hb))); clear hb J3; have J3 := JN; clear JN
    go_wp2_with fail; refine (kid_e _ _ _ _ _ _ _).mono ?_; rintro e w3 ⟨rfl, hb⟩; have JN := Aside0.mk (And.intro (blk_below J3.out.1 hb) (And.intro (blk_below J3.out.2.1 hb) (below_step J3.out.2.2 hb))); clear hb J3; have J3 := JN; clear JN
    go_wp2_with fail; refine (kid_e _ _ _ _ _ _ _).mono ?_; rintro e w3 ⟨rfl, hb⟩; have JN := Aside0.mk (And.intro (blk_below J3.out.1 hb) (And.intro (blk_below J3.out.2.1 hb) (below_step J3.out.2.2 hb))); clear hb J3; have J3 := JN; clear JN
    go_wp2_with fail; refine (kid_e _ _ _ _ _ _ _).mono ?_; rintro e w3 ⟨rfl, hb⟩; have JN := Aside0.mk (And.intro (blk_below J3.out.1 hb) (And.intro (blk_below J3.out.2.1 hb) (below_step J3.out.2.2 hb))); clear hb J3; have J3 := JN; clear JN
    go_wp2_with fail; refine (kid_e _ _ _ _ _ _ _).mono ?_; rintro e w3 ⟨rfl, hb⟩; have JN := Aside0.mk (And.intro (blk_below J3.out.1 hb) (And.intro (blk_below J3.out.2.1 hb) (below_step J3.out.2.2 hb))); clear hb J3; have J3 := JN; clear JN
    go_wp2_with fail; refine (kid_e _ _ _ _ _ _ _).mono ?_; rintro e w3 ⟨rfl, hb⟩; have JN := Aside0.mk (And.intro (blk_below J3.out.1 hb) (And.intro (blk_below J3.out.2.1 hb) (below_step J3.out.2.2 hb))); clear hb J3; have J3 := JN; clear JN
    go_wp2_with fail; refine (kid_e _ _ _ _ _ _ _).mono ?_; rintro e w3 ⟨rfl, hb⟩; have JN := Aside0.mk (And.intro (blk_below J3.out.1 hb) (And.intro (blk_below J3.out.2.1 hb) (below_step J3.out.2.2 hb))); clear hb J3; have J3 := JN; clear JN
    go_wp2_with fail; refine (kid_e _ _ _ _ _ _ _).mono ?_; rintro e w3 ⟨rfl, hb⟩; have JN := Aside0.mk (And.intro (blk_below J3.out.1 hb) (And.intro (blk_below J3.out.2.1 hb) (below_step J3.out.2.2 hb))); clear hb J3; have J3 := JN; clear JN
    go_wp2_with fail; refine (kid_e _ _ _ _ _ _ _).mono ?_; rintro e w3 ⟨rfl, hb⟩; have JN := Aside0.mk (And.intro (blk_below J3.out.1 hb) (And.intro (blk_below J3.out.2.1 hb) (below_step J3.out.2.2 hb))); clear hb J3; have J3 := JN; clear JN
    go_wp2_with fail; refine (kid_e _ _ _ _ _ _ _).mono ?_; rintro e w3 ⟨rfl, hb⟩; have JN := Aside0.mk (And.intro (blk_below J3.out.1 hb) (And.intro (blk_below J3.out.2.1 hb) (below_step J3.out.2.2 hb))); clear hb J3; have J3 := JN; clear JN
    go_wp2_with fail; refine (kid_e _ _ _ _ _ _ _).mono ?_; rintro e w3 ⟨rfl, hb⟩; have JN := Aside0.mk (And.intro (blk_below J3.out.1 hb) (And.intro (blk_below J3.out.2.1 hb) (below_step J3.out.2.2 hb))); clear hb J3; have J3 := JN; clear JN
    go_wp2_with fail; refine (kid_e _ _ _ _ _ _ _).mono ?_; rintro e w3 ⟨rfl, hb⟩; have JN := Aside0.mk (And.intro (blk_below J3.out.1 hb) (And.intro (blk_below J3.out.2.1 hb) (below_step J3.out.2.2 hb))); clear hb J3; have J3 := JN; clear JN
    go_wp2_with fail; refine (kid_e _ _ _ _ _ _ _).mono ?_; rintro e w3 ⟨rfl, hb⟩; have JN := Aside0.mk (And.intro (blk_below J3.out.1 hb) (And.intro (blk_below J3.out.2.1 hb) (below_step J3.out.2.2 hb))); clear hb J3; have J3 := JN; clear JN
    go_wp2_with fail; refine (kid_e _ _ _ _ _ _ _).mono ?_; rintro e w3 ⟨rfl, hb⟩; have JN := Aside0.mk (And.intro (blk_below J3.out.1 hb) (And.intro (blk_below J3.out.2.1 hb) (below_step J3.out.2.2 hb))); clear hb J3; have J3 := JN; clear JN
    go_wp2_with fail; refine (kid_e _ _ _ _ _ _ _).mono ?_; rintro e w3 ⟨rfl, hb⟩; have JN := Aside0.mk (And.intro (blk_below J3.out.1 hb) (And.intro (blk_below J3.out.2.1 hb) (below_step J3.out.2.2 hb))); clear hb J3; have J3 := JN; clear JN
    go_wp2_with fail
    go_ret2
    exact model_lit HF.out J3.out.2.2 (by rfl) rfl (by decide)
  by_cases q3 : s.toList = [79, 114, 103, 110, 108, 84, 120]
  · have HF : Aside0 (modelF s = (modelOrgnlTx, true)) := ⟨by unfold modelF; rw [if_neg q0, if_neg q1, if_neg q2, if_pos q3]⟩
    replace q0 : (s.toList == [68, 111, 99, 117, 109, 101, 110, 116]) = false := beq_eq_false_iff_ne.mpr q0
    replace q1 : (s.toList == [72, 100, 114]) = false := beq_eq_false_iff_ne.mpr q1
    replace q2 : (s.toList == [66, 111, 100, 121]) = false := beq_eq_false_iff_ne.mpr q2
    replace q3 : (s.toList == [79, 114, 103, 110, 108, 84, 120]) = true := beq_iff_eq.mpr q3
    go_wp2_with (first | ((with_reducible refine gate_dst (N := 42) rfl ?_); refine wpList_load_row rfl 148 (.tmp 4) rfl p rfl 148 #[.string ⟨#[88, 99, 104, 103, 73, 100]⟩, .int .i64 1, .int .i64 1, .int .i64 1, .int .i64 1, .int .i64 6] (0, 0) _ J3.out.2.1 hu148.out rfl (by kernel_rfl) ?_) | ((with_reducible refine gate_dst (N := 43) rfl ?_); refine wpList_load_row rfl 148 (.tmp 5) rfl q rfl 148 #[.string ⟨#[67, 114, 101, 68, 116, 84, 109]⟩, .int .i64 1, .int .i64 1, .int .i64 4, .int .i64 19, .int .i64 19] (0, 0) _ J3.out.1 hu148.out rfl (by kernel_rfl) ?_))
    go_ret2
    exact model_lit HF.out J3.out.2.2 (by rfl) rfl (by decide)
  by_cases q4 : s.toList = [83, 112, 108, 109, 116, 114, 121, 68, 97, 116, 97]
  · have HF : Aside0 (modelF s = (modelSplmtryData, true)) := ⟨by unfold modelF; rw [if_neg q0, if_neg q1, if_neg q2, if_neg q3, if_pos q4]⟩
    replace q0 : (s.toList == [68, 111, 99, 117, 109, 101, 110, 116]) = false := beq_eq_false_iff_ne.mpr q0
    replace q1 : (s.toList == [72, 100, 114]) = false := beq_eq_false_iff_ne.mpr q1
    replace q2 : (s.toList == [66, 111, 100, 121]) = false := beq_eq_false_iff_ne.mpr q2
    replace q3 : (s.toList == [79, 114, 103, 110, 108, 84, 120]) = false := beq_eq_false_iff_ne.mpr q3
    replace q4 : (s.toList == [83, 112, 108, 109, 116, 114, 121, 68, 97, 116, 97]) = true := beq_iff_eq.mpr q4
    go_wp2_with fail; refine (kid_e _ _ _ _ _ _ _).mono ?_; rintro e w3 ⟨rfl, hb⟩; have JN := Aside0.mk (And.intro (blk_below J3.out.1 hb) (And.intro (blk_below J3.out.2.1 hb) (below_step J3.out.2.2 hb))); clear hb J3; have J3 := JN; clear JN
    go_wp2_with fail; refine (kid_e _ _ _ _ _ _ _).mono ?_; rintro e w3 ⟨rfl, hb⟩; have JN := Aside0.mk (And.intro (blk_below J3.out.1 hb) (And.intro (blk_below J3.out.2.1 hb) (below_step J3.out.2.2 hb))); clear hb J3; have J3 := JN; clear JN
    go_wp2_with fail
    go_ret2
    exact model_lit HF.out J3.out.2.2 (by rfl) rfl (by decide)
  have HF : Aside0 (modelF s = ([], false)) := ⟨by unfold modelF; rw [if_neg q0, if_neg q1, if_neg q2, if_neg q3, if_neg q4]⟩
  replace q0 : (s.toList == [68, 111, 99, 117, 109, 101, 110, 116]) = false := beq_eq_false_iff_ne.mpr q0
  replace q1 : (s.toList == [72, 100, 114]) = false := beq_eq_false_iff_ne.mpr q1
  replace q2 : (s.toList == [66, 111, 100, 121]) = false := beq_eq_false_iff_ne.mpr q2
  replace q3 : (s.toList == [79, 114, 103, 110, 108, 84, 120]) = false := beq_eq_false_iff_ne.mpr q3
  replace q4 : (s.toList == [83, 112, 108, 109, 116, 114, 121, 68, 97, 116, 97]) = false := beq_eq_false_iff_ne.mpr q4
  go_wp2_with fail
  go_ret2
  unfold ModelEnd; rw [HF.out]
  exact ⟨_, _, rfl, Kd.C_nil k148 _, Nat.le_refl _, J3.out.2.2⟩
end Go.Proofs.YthapknnppabdaaaGreat.MQ
