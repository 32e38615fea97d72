/- ResidueBack: part 19 of its proof. -/
import Derived.Test.YthapknnppabdaaaGreatZ05
import Derived.Deep.CutBlock
import Derived.Deep.CutRange
namespace Go.Proofs.YthapknnppabdaaaGreat.MQ
open Go.RowKit Go.Proofs.YthapknnppabdaaaGreatW.PrintWords Go.Proofs.YthapknnppabdaaaGreatW.PrintLast Go.Proofs.YthapknnppabdaaaGreatW.PrintMore
set_option linter.unusedVariables false
set_option linter.unusedSimpArgs false
theorem bs_one (s : ByteArray) (i : Nat) (h : i < s.size) : bs (s.extract i (i + 1)) = [bt s (i : Int)] := by
  rw [bs_extract, bs_take s i h, List.drop_append_of_le_length (by rw [List.length_take, bs_len]; omega), List.drop_of_length_le (by rw [List.length_take, bs_len]; omega), List.nil_append]
theorem snoc_all {f : Int → Bool} {t s : ByteArray} (h : (bs t).all f = true) (i : Int) (h0 : 0 ≤ i) (hi : i < (s.size : Int)) (e : wrap64 (i + 1) = i + 1) (hf : f (bt s i) = true) : (bs (t ++ s.extract i.toNat (wrap64 (i + 1)).toNat)).all f = true := by
  have hj : (wrap64 (i + 1)).toNat = i.toNat + 1 := by omega
  rw [hj, bs_append, bs_one s i.toNat (by omega), List.all_append, h, show ((i.toNat : Nat) : Int) = i by omega]
  simp [hf]
theorem lit_all {f : Int → Bool} {t u : ByteArray} (h : (bs t).all f = true) (g : (bs u).all f = true) : (bs (t ++ u)).all f = true := by
  rw [bs_append, List.all_append, h, g]; rfl
theorem mod_is (v n : Int) (h0 : 0 < n) (h1 : n ≤ 9223372036854775807) : 0 ≤ wrap64 ((IntKind.u64.wrap v).tmod n) ∧ wrap64 ((IntKind.u64.wrap v).tmod n) < n := by
  have hu : 0 ≤ IntKind.u64.wrap v := by
    have e : (2 : Int) ^ IntKind.u64.bits = 18446744073709551616 := by decide
    simp only [IntKind.wrap, IntKind.u64]
    exact Int.emod_nonneg _ (by decide)
  rw [Int.tmod_eq_emod_of_nonneg hu]
  have a := Int.emod_nonneg (IntKind.u64.wrap v) (show n ≠ 0 by omega)
  have b := Int.emod_lt_of_pos (IntKind.u64.wrap v) h0
  unfold wrap64
  omega
/-- A number from 0 to one below. -/
def InMod (n r : Int) : Prop := 0 ≤ r ∧ r < n
theorem mod_x (v n : Int) (w : World) (h0 : 0 < n) (h1 : n ≤ 9223372036854775807) : Calls Tryz.prog 13 #[.int .i64 v, .int .i64 n] w (OutI (InMod n) w) := by
  have HN := Aside0.mk (mod_is v n h0 h1)
  go_enter Tryz.func13, Tryz.ntmps13
  go_wp2
  go_ret
  exact ⟨_, rfl, HN.out, Below.refl _ w⟩
/-- Digits alone, letters and digits alone. -/
def DigT (low top : Int) (s : ByteArray) : Prop := rightF s low top = true
def AlnT (top : Int) (s : ByteArray) : Prop := alnF s top top = true
def Digs (t : ByteArray) : Prop := (bs t).all dig = true
def Alns (t : ByteArray) : Prop := (bs t).all aln = true
theorem digs_nil : Digs ⟨#[]⟩ := rfl
theorem alns_nil : Alns ⟨#[]⟩ := rfl
theorem aln_all {s : ByteArray} {a b : Int} (h : alnF s a b = true) : (bs s).all aln = true := by
  unfold alnF at h
  simp only [Bool.and_eq_true] at h
  exact h.1.1
theorem aln_iff {s : ByteArray} {a b : Int} (h : (bs s).all aln = true) (h1 : a ≤ (s.size : Int)) (h2 : (s.size : Int) ≤ b) : alnF s a b = true := by
  unfold alnF
  rw [h, decide_eq_true h1, decide_eq_true h2]; rfl
set_option maxHeartbeats 4000000 in
set_option maxRecDepth 4000 in
theorem digits_x (s : ByteArray) (low top : Int) (w : World) (hs : s.size ≤ 140737488355328) (h0 : 0 ≤ low) (h1 : low ≤ top) (h2 : top ≤ 1000) : Calls Tryz.prog 15 #[.string s, .int .i64 low, .int .i64 top] w (OutS (DigT low top) w) := by
  have HS := Aside0.mk hs; clear hs
  go_enter Tryz.func15, Tryz.ntmps15
  go_upto_block 0 with fail
  go_cut [7] from 8 to 37 (fun s7 wc => ∃ t : ByteArray, s7 = .string t ∧ Aside0 (Digs t) ∧ (t.size : Int) ≤ top ∧ Aside0 (Below w.heap.size w wc))
  case first =>
    go_wp2_with fail
    go_loopg [7, 8] s.size (fun gg s7 s8 wr => ∃ (i : Int) (t : ByteArray), 0 ≤ i ∧ i ≤ (s.size : Int) ∧ (s.size : Int) - i ≤ gg ∧ s8 = .int .i64 i ∧ s7 = .string t ∧ Aside0 (Digs t) ∧ (t.size : Int) ≤ top ∧ Aside0 (Below w.heap.size w wr))
    case atStart => exact ⟨0, ⟨#[]⟩, by omega, by omega, by omega, rfl, rfl, ⟨digs_nil⟩, by show ((0 : Nat) : Int) ≤ top; omega, ⟨Below.refl _ w⟩⟩
    case round =>
      obtain ⟨i, t, hi0, hi1, hg, rfl, rfl, SG, ht, BW⟩ := hrel
      by_cases hlt : i < (s.size : Int)
      · have ew : wrap64 (i + 1) = i + 1 := by have := HS.out; unfold wrap64; omega
        have hx := bt_at s i
        have EW := Aside0.mk ew
        by_cases hlt2 : (t.size : Int) < top
        · have l1 : i ≤ wrap64 (i + 1) := by omega
          have l2 : wrap64 (i + 1) ≤ (s.size : Int) := by omega
          have hsz : (t ++ s.extract i.toNat (wrap64 (i + 1)).toNat).size = t.size + 1 := by rw [ByteArray.size_append, ByteArray.size_extract]; omega
          have c16 : t.size + (s.extract i.toNat (wrap64 (i + 1)).toNat).size ≤ 9223372036854775807 := by rw [ByteArray.size_append] at hsz; omega
          have c16b : decide (t.size + (s.extract i.toNat (wrap64 (i + 1)).toNat).size ≤ 9223372036854775807) = true := decide_eq_true c16
          have HX := Aside0.mk hsz
          have SN : Aside0 (48 ≤ bt s i → bt s i ≤ 57 → Digs (t ++ s.extract i.toNat (wrap64 (i + 1)).toNat)) := ⟨fun a b => snoc_all SG.out i hi0 hlt ew (by unfold dig; rw [decide_eq_true a, decide_eq_true b]; rfl)⟩
          clear ew hsz
          by_cases q1 : 48 ≤ bt s i
          · by_cases q2 : bt s i ≤ 57
            · have SM := Aside0.mk (SN.out q1 q2)
              go_wp2_with fail
              go_roundg (s.size - (i.toNat + 1))
              case measure => omega
              case rel => exact ⟨wrap64 (i + 1), _, by have := EW.out; omega, by have := EW.out; omega, by have := EW.out; omega, rfl, rfl, SM, by have := HX.out; omega, BW⟩
            · go_wp2_with fail
              go_roundg (s.size - (i.toNat + 1))
              case measure => omega
              case rel => exact ⟨wrap64 (i + 1), t, by have := EW.out; omega, by have := EW.out; omega, by have := EW.out; omega, rfl, rfl, SG, ht, BW⟩
          · go_wp2_with fail
            go_roundg (s.size - (i.toNat + 1))
            case measure => omega
            case rel => exact ⟨wrap64 (i + 1), t, by have := EW.out; omega, by have := EW.out; omega, by have := EW.out; omega, rfl, rfl, SG, ht, BW⟩
        · go_wp2_with fail
          go_meet
          exact ⟨t, rfl, SG, ht, BW⟩
      · go_wp2_with fail
        go_meet
        exact ⟨t, rfl, SG, ht, BW⟩
  case rest =>
    obtain ⟨t, rfl, SG, ht, BW⟩ := hcut
    go_wp2_with fail
    go_loopg [7] 1000 (fun gg s7 wr => ∃ t : ByteArray, s7 = .string t ∧ low - (t.size : Int) ≤ gg ∧ Aside0 (Digs t) ∧ (t.size : Int) ≤ top ∧ Aside0 (Below w.heap.size w wr))
    case atStart => exact ⟨t, rfl, by omega, SG, ht, BW⟩
    case round =>
      obtain ⟨t, rfl, hg, SG, ht, BW⟩ := hrel
      by_cases q : (t.size : Int) < low
      · have hsz : (t ++ (⟨#[55]⟩ : ByteArray)).size = t.size + 1 := by rw [ByteArray.size_append]; rfl
        have c16 : t.size + (⟨#[55]⟩ : ByteArray).size ≤ 9223372036854775807 := by rw [ByteArray.size_append] at hsz; omega
        have c16b : decide (t.size + (⟨#[55]⟩ : ByteArray).size ≤ 9223372036854775807) = true := decide_eq_true c16
        have HX := Aside0.mk hsz
        have SM : Aside0 (Digs (t ++ (⟨#[55]⟩ : ByteArray))) := ⟨lit_all SG.out rfl⟩
        clear hsz
        go_wp2_with fail
        go_roundg (low.toNat - (t.size + 1))
        case measure => omega
        case rel => exact ⟨_, rfl, by have := HX.out; omega, SM, by have := HX.out; omega, BW⟩
      · have HQ : Aside0 (DigT low top t) := ⟨right_iff.2 ⟨SG.out, by omega, ht⟩⟩
        go_wp2_with fail
        go_ret
        exact ⟨t, rfl, HQ.out, BW.out⟩
set_option maxHeartbeats 4000000 in
set_option maxRecDepth 4000 in
theorem alnum_x (s : ByteArray) (top : Int) (w : World) (hs : s.size ≤ 140737488355328) (h0 : 0 ≤ top) (h2 : top ≤ 1000) : Calls Tryz.prog 19 #[.string s, .int .i64 top] w (OutS (AlnT top) w) := by
  have HS := Aside0.mk hs; clear hs
  go_enter Tryz.func19, Tryz.ntmps19
  go_upto_block 0 with fail
  go_cut [5] from 6 to 31 (fun s5 wc => ∃ t : ByteArray, s5 = .string t ∧ Aside0 (Alns t) ∧ (t.size : Int) ≤ top ∧ Aside0 (Below w.heap.size w wc))
  case first =>
    go_wp2_with fail
    go_loopg [5, 6] s.size (fun gg s5 s6 wr => ∃ (i : Int) (t : ByteArray), 0 ≤ i ∧ i ≤ (s.size : Int) ∧ (s.size : Int) - i ≤ gg ∧ s6 = .int .i64 i ∧ s5 = .string t ∧ Aside0 (Alns t) ∧ (t.size : Int) ≤ top ∧ Aside0 (Below w.heap.size w wr))
    case atStart => exact ⟨0, ⟨#[]⟩, by omega, by omega, by omega, rfl, rfl, ⟨alns_nil⟩, by show ((0 : Nat) : Int) ≤ top; omega, ⟨Below.refl _ w⟩⟩
    case round =>
      obtain ⟨i, t, hi0, hi1, hg, rfl, rfl, SG, ht, BW⟩ := hrel
      by_cases hlt : i < (s.size : Int)
      · have ew : wrap64 (i + 1) = i + 1 := by have := HS.out; unfold wrap64; omega
        have hx := bt_at s i
        have EW := Aside0.mk ew
        by_cases hlt2 : (t.size : Int) < top
        · have l1 : i ≤ wrap64 (i + 1) := by omega
          have l2 : wrap64 (i + 1) ≤ (s.size : Int) := by omega
          have hsz : (t ++ s.extract i.toNat (wrap64 (i + 1)).toNat).size = t.size + 1 := by rw [ByteArray.size_append, ByteArray.size_extract]; omega
          have c16 : t.size + (s.extract i.toNat (wrap64 (i + 1)).toNat).size ≤ 9223372036854775807 := by rw [ByteArray.size_append] at hsz; omega
          have c16b : decide (t.size + (s.extract i.toNat (wrap64 (i + 1)).toNat).size ≤ 9223372036854775807) = true := decide_eq_true c16
          have HX := Aside0.mk hsz
          clear ew hsz
          have hn : (s.extract i.toNat (wrap64 (i + 1)).toNat).size ≤ 140737488355328 := by rw [ByteArray.size_extract]; have := HS.out; omega
          have HN := Aside0.mk hn
          clear hn
          go_wp2_with fail
          refine (aln_e _ 1 1 _ HN.out).mono ?_
          rintro e w1 ⟨rfl, nd, rfl⟩
          replace BW := Aside0.mk (pw_below_drewN BW.out nd)
          have SN : Aside0 (alnF (s.extract i.toNat (wrap64 (i + 1)).toNat) 1 1 = true → Alns (t ++ s.extract i.toNat (wrap64 (i + 1)).toNat)) := ⟨fun h => lit_all SG.out (aln_all h)⟩
          generalize wr.drewN nd = w1 at BW ⊢
          revert SN
          generalize alnF (s.extract i.toNat (wrap64 (i + 1)).toNat) 1 1 = b
          intro SN
          cases b with
          | true =>
            have SM := Aside0.mk (SN.out rfl)
            clear SN
            go_wp2_with fail
            go_roundg (s.size - (i.toNat + 1))
            case measure => omega
            case rel => exact ⟨wrap64 (i + 1), _, by have := EW.out; omega, by have := EW.out; omega, by have := EW.out; omega, rfl, rfl, SM, by have := HX.out; omega, BW⟩
          | false =>
            go_wp2_with fail
            go_roundg (s.size - (i.toNat + 1))
            case measure => omega
            case rel => exact ⟨wrap64 (i + 1), t, by have := EW.out; omega, by have := EW.out; omega, by have := EW.out; omega, rfl, rfl, SG, ht, BW⟩
        · go_wp2_with fail
          go_meet
          exact ⟨t, rfl, SG, ht, BW⟩
      · go_wp2_with fail
        go_meet
        exact ⟨t, rfl, SG, ht, BW⟩
  case rest =>
    obtain ⟨t, rfl, SG, ht, BW⟩ := hcut
    go_wp2_with fail
    go_loopg [5] 1000 (fun gg s5 wr => ∃ t : ByteArray, s5 = .string t ∧ top - (t.size : Int) ≤ gg ∧ Aside0 (Alns t) ∧ (t.size : Int) ≤ top ∧ Aside0 (Below w.heap.size w wr))
    case atStart => exact ⟨t, rfl, by omega, SG, ht, BW⟩
    case round =>
      obtain ⟨t, rfl, hg, SG, ht, BW⟩ := hrel
      by_cases q : (t.size : Int) < top
      · have hsz : (t ++ (⟨#[90]⟩ : ByteArray)).size = t.size + 1 := by rw [ByteArray.size_append]; rfl
        have c16 : t.size + (⟨#[90]⟩ : ByteArray).size ≤ 9223372036854775807 := by rw [ByteArray.size_append] at hsz; omega
        have c16b : decide (t.size + (⟨#[90]⟩ : ByteArray).size ≤ 9223372036854775807) = true := decide_eq_true c16
        have HX := Aside0.mk hsz
        have SM : Aside0 (Alns (t ++ (⟨#[90]⟩ : ByteArray))) := ⟨lit_all SG.out rfl⟩
        clear hsz
        go_wp2_with fail
        go_roundg (top.toNat - (t.size + 1))
        case measure => omega
        case rel => exact ⟨_, rfl, by have := HX.out; omega, SM, by have := HX.out; omega, BW⟩
      · have HQ : Aside0 (AlnT top t) := ⟨aln_iff SG.out (by omega) ht⟩
        go_wp2_with fail
        go_ret
        exact ⟨t, rfl, HQ.out, BW.out⟩
/-- A time. -/
def TimeT (s : ByteArray) : Prop := timeF s = true
theorem now_time : TimeT (⟨#[50, 48, 50, 54, 48, 49, 48, 49, 49, 50, 48, 48, 48, 48]⟩) := by unfold TimeT; decide +kernel
theorem playTime_x (s : ByteArray) (w : World) (hs : s.size ≤ 140737488355328) : Calls Tryz.prog 14 #[.string s] w (OutS TimeT w) := by
  go_enter Tryz.func14, Tryz.ntmps14
  go_wp2_with fail
  refine (time_e s w hs).mono ?_
  rintro e w1 ⟨rfl, nd, rfl⟩
  have BB := Aside0.mk (pw_below_drewN (Below.refl w.heap.size w) nd)
  generalize w.drewN nd = w1 at BB ⊢
  have HT : Aside0 (timeF s = true → TimeT s) := ⟨fun h => h⟩
  revert HT
  generalize timeF s = b
  intro HT
  cases b with
  | false =>
    go_wp2_with fail
    go_ret
    exact ⟨_, rfl, now_time, BB.out⟩
  | true =>
    go_wp2_with fail
    go_ret
    exact ⟨s, rfl, HT.out (by first | trivial | rfl), BB.out⟩
theorem mt_iff (t : ByteArray) : t.toList = [] ↔ t.size = 0 := by
  rw [ByteArray.toList_eq, ← List.length_eq_zero_iff]
  rfl
/-- Signs alone, no blank ahead. -/
def Inky (t : ByteArray) : Prop := (bs t).all ink = true ∧ (bs t).head? ≠ some 32
theorem inky_nil : Inky ⟨#[]⟩ := ⟨rfl, by intro h; cases h⟩
theorem bs_nil_iff (t : ByteArray) : bs t = [] ↔ t.size = 0 := by rw [← List.length_eq_zero_iff, bs_len]
theorem Inky.snoc {t s : ByteArray} (h : Inky t) (i : Int) (h0 : 0 ≤ i) (hi : i < (s.size : Int)) (e : wrap64 (i + 1) = i + 1) (hb : 32 ≤ bt s i ∧ bt s i ≤ 126) (hn : bt s i ≠ 32 ∨ t.size ≠ 0) : Inky (t ++ s.extract i.toNat (wrap64 (i + 1)).toNat) := by
  refine ⟨snoc_all h.1 i h0 hi e (by unfold ink; rw [decide_eq_true hb.1, decide_eq_true hb.2]; rfl), ?_⟩
  have hj : (wrap64 (i + 1)).toNat = i.toNat + 1 := by omega
  rw [hj, bs_append, bs_one s i.toNat (by omega), show ((i.toNat : Nat) : Int) = i by omega, List.head?_append]
  cases hq : bs t with
  | nil =>
    rcases hn with hn | hn
    · intro q; exact hn (Option.some.inj q)
    · exact absurd ((bs_nil_iff t).1 hq) hn
  | cons a l =>
    have := h.2
    rw [hq] at this
    exact this
theorem Inky.front {t : ByteArray} (h : Inky t) (n : Nat) : Inky (t.extract 0 n) := by
  unfold Inky
  rw [bs_extract, List.drop_zero]
  refine ⟨List.all_eq_true.2 fun c hc => List.all_eq_true.1 h.1 c (List.mem_of_mem_take hc), fun q => h.2 ?_⟩
  cases hb : bs t with
  | nil => rw [hb] at q; simp at q
  | cons a l =>
    rw [hb] at q
    cases n with
    | zero => simp at q
    | succ k => simpa using q
/-- No blank behind. -/
def NoTail (t : ByteArray) : Prop := 0 < t.size → bt t ((t.size - 1 : Nat) : Int) ≠ 32
theorem Inky.plain {t : ByteArray} {top : Int} (h : Inky t) (hl : NoTail t) (h1 : 1 ≤ t.size) (h2 : (t.size : Int) ≤ top) : PlainA t 1 top := by
  refine ⟨h.1, by omega, h2, fun hp => ⟨fun q => h.2 ?_, hl hp⟩⟩
  have hg := bs_get t 0 hp
  rw [List.head?_eq_getElem?, List.getElem?_eq_getElem (by rw [bs_len]; exact hp), hg]
  exact congrArg some q
/-- Something, with no blank at its ends; signs alone, but where the side takes any text. -/
def TextOf (top side : Int) (t : ByteArray) : Prop := 1 ≤ t.size ∧ (t.size : Int) ≤ 4 * top ∧ Ends32 t ∧ (side ≠ 0 → PlainA t 1 top)
theorem TextOf.of {top side : Int} {t : ByteArray} (h : PlainA t 1 top) : TextOf top side t := ⟨by have := h.2.1; omega, by have := h.2.1; have := h.2.2.1; omega, h.2.2.2, fun _ => h⟩
set_option maxHeartbeats 8000000 in
set_option maxRecDepth 4000 in
theorem text_x (s : ByteArray) (top side : Int) (w : World) (hs : s.size ≤ 140737488355328) (h1 : 1 ≤ top) (h2 : top ≤ 1000) : Calls Tryz.prog 20 #[.string s, .int .i64 top, .int .i64 side] w (OutS (TextOf top side) w) := by
  have HS := Aside0.mk hs
  go_enter Tryz.func20, Tryz.ntmps20
  go_upto_region 1 with fail
  go_cut [15] from 9 to 15 (fun s15 wc => ∃ b : Bool, s15 = .bool b ∧ Aside0 (b = true → side = 0 ∧ TextOf top side s) ∧ Aside0 (Below w.heap.size w wc))
  case first =>
    by_cases s0 : side = 0
    · subst s0
      go_wp2_with fail
      refine (plain_x s 1 top _ hs).mono ?_
      rintro e w1 ⟨b, rfl, hb, hB⟩
      have HB := Aside0.mk hB
      have HQ : Aside0 (b = true → (0 : Int) = 0 ∧ TextOf top 0 s) := ⟨fun h => ⟨rfl, by have := (hb.1 h).1; omega, (hb.1 h).2.1, (hb.1 h).2.2, fun q => absurd rfl q⟩⟩
      clear hB hb
      go_wp2_with fail
      go_meet
      exact ⟨b, rfl, HQ, HB⟩
    · have b0 : (side == 0) = false := beq_eq_false_iff_ne.mpr s0
      have HB := Aside0.mk (Below.refl w.heap.size w)
      go_wp2_with fail
      go_meet
      exact ⟨false, rfl, ⟨fun h => absurd h (by decide)⟩, HB⟩
  case rest =>
    obtain ⟨b, rfl, HQ, BW⟩ := hcut
    cases b with
    | true =>
      have HT : Aside0 (TextOf top side s) := ⟨(HQ.out rfl).2⟩
      go_wp2_with fail
      go_ret
      exact ⟨s, rfl, HT.out, BW.out⟩
    | false =>
      clear HQ
      go_upto_block 0 with fail
      go_cut [7] from 8 to 55 (fun s7 wc => ∃ t : ByteArray, s7 = .string t ∧ Aside0 (Inky t) ∧ (t.size : Int) ≤ top ∧ Aside0 (Below w.heap.size w wc))
      case first =>
        go_wp2_with fail
        go_loopg [7, 8] s.size (fun gg s7 s8 wr => ∃ (i : Int) (t : ByteArray), 0 ≤ i ∧ i ≤ (s.size : Int) ∧ (s.size : Int) - i ≤ gg ∧ s8 = .int .i64 i ∧ s7 = .string t ∧ Aside0 (Inky t) ∧ (t.size : Int) ≤ top ∧ Aside0 (Below w.heap.size w wr))
        case atStart => exact ⟨0, ⟨#[]⟩, by omega, by omega, by omega, rfl, rfl, ⟨inky_nil⟩, by show ((0 : Nat) : Int) ≤ top; omega, BW⟩
        case round =>
          obtain ⟨i, t, hi0, hi1, hg, rfl, rfl, SG, ht, BW⟩ := hrel
          clear hs
          by_cases hlt : i < (s.size : Int)
          · have ew : wrap64 (i + 1) = i + 1 := by have := HS.out; unfold wrap64; omega
            have hx := bt_at s i
            have EW := Aside0.mk ew
            by_cases hlt2 : (t.size : Int) < top
            · have l1 : i ≤ wrap64 (i + 1) := by omega
              have l2 : wrap64 (i + 1) ≤ (s.size : Int) := by omega
              have hsz : (t ++ s.extract i.toNat (wrap64 (i + 1)).toNat).size = t.size + 1 := by rw [ByteArray.size_append, ByteArray.size_extract]; omega
              have c16 : t.size + (s.extract i.toNat (wrap64 (i + 1)).toNat).size ≤ 9223372036854775807 := by rw [ByteArray.size_append] at hsz; omega
              have c16b : decide (t.size + (s.extract i.toNat (wrap64 (i + 1)).toNat).size ≤ 9223372036854775807) = true := decide_eq_true c16
              have HX := Aside0.mk hsz
              have SN := Aside0.mk (fun (h : 32 ≤ bt s i ∧ bt s i ≤ 126) (hn : bt s i ≠ 32 ∨ t.size ≠ 0) => SG.out.snoc i hi0 hlt EW.out h hn)
              clear ew hsz
              by_cases q1 : 32 < bt s i
              · by_cases q2 : bt s i < 127
                · replace SN := Aside0.mk (SN.out ⟨by omega, by omega⟩ (.inl (by omega)))
                  go_wp2_with fail
                  go_roundg (s.size - (i.toNat + 1))
                  case measure => omega
                  case rel => exact ⟨wrap64 (i + 1), _, by have := EW.out; omega, by have := EW.out; omega, by have := EW.out; omega, rfl, rfl, SN, by have := HX.out; omega, BW⟩
                · have q3 : (bt s i == 32) = false := beq_eq_false_iff_ne.mpr (by omega)
                  go_wp2_with fail
                  go_roundg (s.size - (i.toNat + 1))
                  case measure => omega
                  case rel => exact ⟨wrap64 (i + 1), t, by have := EW.out; omega, by have := EW.out; omega, by have := EW.out; omega, rfl, rfl, SG, ht, BW⟩
              · by_cases q4 : bt s i = 32
                · have q3 : (bt s i == 32) = true := beq_iff_eq.mpr q4
                  by_cases h0 : t.toList = []
                  · have m0 : (t.toList != ([] : List UInt8)) = false := bne_eq_false_iff_eq.mpr h0
                    have m1 : t.toList.isEmpty = true := List.isEmpty_iff.mpr h0
                    replace h0 := Aside0.mk h0
                    go_wp2_with fail
                    go_roundg (s.size - (i.toNat + 1))
                    case measure => omega
                    case rel => exact ⟨wrap64 (i + 1), t, by have := EW.out; omega, by have := EW.out; omega, by have := EW.out; omega, rfl, rfl, SG, ht, BW⟩
                  · have m0 : (t.toList != ([] : List UInt8)) = true := bne_iff_ne.mpr h0
                    have m1 : t.toList.isEmpty = false := List.isEmpty_eq_false_iff.mpr h0
                    replace SN := Aside0.mk (SN.out ⟨by omega, by omega⟩ (.inr (fun q => h0 ((mt_iff t).2 q))))
                    replace h0 := Aside0.mk h0
                    go_wp2_with fail
                    go_roundg (s.size - (i.toNat + 1))
                    case measure => omega
                    case rel => exact ⟨wrap64 (i + 1), _, by have := EW.out; omega, by have := EW.out; omega, by have := EW.out; omega, rfl, rfl, SN, by have := HX.out; omega, BW⟩
                · have q3 : (bt s i == 32) = false := beq_eq_false_iff_ne.mpr q4
                  replace q4 := Aside0.mk q4
                  go_wp2_with fail
                  go_roundg (s.size - (i.toNat + 1))
                  case measure => omega
                  case rel => exact ⟨wrap64 (i + 1), t, by have := EW.out; omega, by have := EW.out; omega, by have := EW.out; omega, rfl, rfl, SG, ht, BW⟩
            · go_wp2_with fail
              go_meet
              exact ⟨t, rfl, SG, ht, BW⟩
          · go_wp2_with fail
            go_meet
            exact ⟨t, rfl, SG, ht, BW⟩
      case rest =>
        obtain ⟨t, rfl, SG, ht, BW⟩ := hcut
        go_upto_block 2 with fail
        go_cut [7] from 56 to 70 (fun s7 wc => ∃ t : ByteArray, s7 = .string t ∧ Aside0 (Inky t ∧ NoTail t) ∧ (t.size : Int) ≤ top ∧ Aside0 (Below w.heap.size w wc))
        case first =>
          go_wp2_with fail
          go_loopg [7] t.size (fun gg s7 wr => ∃ t : ByteArray, s7 = .string t ∧ t.size ≤ gg ∧ Aside0 (Inky t) ∧ (t.size : Int) ≤ top ∧ Aside0 (Below w.heap.size w wr))
          case atStart => exact ⟨t, rfl, Nat.le_refl _, SG, ht, BW⟩
          case round =>
            obtain ⟨t, rfl, hg, SG, ht, BW⟩ := hrel
            by_cases h0 : t.toList = []
            · have m0 : (t.toList != ([] : List UInt8)) = false := bne_eq_false_iff_eq.mpr h0
              have m1 : t.toList.isEmpty = true := List.isEmpty_iff.mpr h0
              have SX : Aside0 (Inky t ∧ NoTail t) := ⟨SG.out, fun hp => absurd ((mt_iff t).1 h0) (by omega)⟩
              replace h0 := Aside0.mk h0
              go_wp2_with fail
              go_meet
              exact ⟨t, rfl, SX, ht, BW⟩
            · have m0 : (t.toList != ([] : List UInt8)) = true := bne_iff_ne.mpr h0
              have m1 : t.toList.isEmpty = false := List.isEmpty_eq_false_iff.mpr h0
              have hp : 0 < t.size := by
                rcases Nat.eq_zero_or_pos t.size with h | h
                · exact absurd ((mt_iff t).mpr h) h0
                · exact h
              have hx := byte_at t (t.size - 1)
              have HL : Aside0 (bt t ((t.size - 1 : Nat) : Int) ≠ 32 → NoTail t) := ⟨fun h _ => h⟩
              have e1 : wrap64 ((t.size : Int) - 1) = ((t.size - 1 : Nat) : Int) := by unfold wrap64; omega
              have e2 : (t.size : Int) - 1 = ((t.size - 1 : Nat) : Int) := by omega
              have l1 : t.size - 1 < t.size := by omega
              have l2 : ((t.size - 1 : Nat) : Int) < (t.size : Int) := by omega
              have l3 : ((t.size - 1 : Nat) : Int) ≤ (t.size : Int) := by omega
              revert HL
              generalize bt t ((t.size - 1 : Nat) : Int) = c at hx ⊢
              intro HL
              replace h0 := Aside0.mk h0
              have SF := Aside0.mk (SG.out.front (t.size - 1))
              have SZ : Aside0 ((t.extract 0 (t.size - 1)).size = t.size - 1) := ⟨by rw [ByteArray.size_extract]; omega⟩
              by_cases q : c = 32
              · have q' : (c == 32) = true := beq_iff_eq.mpr q
                go_wp2_with fail
                go_roundg (t.size - 1)
                case measure => omega
                case rel => exact ⟨_, rfl, by have := SZ.out; omega, SF, by have := SZ.out; omega, BW⟩
              · have q' : (c == 32) = false := beq_eq_false_iff_ne.mpr q
                have SX : Aside0 (Inky t ∧ NoTail t) := ⟨SG.out, HL.out q⟩
                go_wp2_with fail
                go_meet
                exact ⟨t, rfl, SX, ht, BW⟩
        case rest =>
          obtain ⟨t, rfl, SG, ht, BW⟩ := hcut
          by_cases h0 : t.toList = []
          · have m0 : (t.toList == ([] : List UInt8)) = true := beq_iff_eq.mpr h0
            replace h0 := Aside0.mk h0
            have HX : Aside0 (TextOf top side ⟨#[120]⟩) := ⟨TextOf.of ⟨by decide, by decide, by show ((1 : Nat) : Int) ≤ top; omega, fun _ => by decide⟩⟩
            go_wp2_with fail
            go_ret
            exact ⟨_, rfl, HX.out, BW.out⟩
          · have m0 : (t.toList == ([] : List UInt8)) = false := beq_eq_false_iff_ne.mpr h0
            have hp : 1 ≤ t.size := by
              rcases Nat.eq_zero_or_pos t.size with h | h
              · exact absurd ((mt_iff t).mpr h) h0
              · exact h
            replace h0 := Aside0.mk h0
            have HX : Aside0 (TextOf top side t) := ⟨TextOf.of (SG.out.1.plain SG.out.2 hp ht)⟩
            go_wp2_with fail
            go_ret
            exact ⟨_, rfl, HX.out, BW.out⟩
end Go.Proofs.YthapknnppabdaaaGreat.MQ
