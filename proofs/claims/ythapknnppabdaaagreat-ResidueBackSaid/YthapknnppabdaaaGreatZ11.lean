/- ResidueBack: part 11 of its proof. -/
import Derived.Test.YthapknnppabdaaaGreatZ09
import Derived.Test.YthapknnppabdaaaGreatZ10
import Derived.Test.YthapknnppabdaaaGreatZ02
namespace Go.Proofs.YthapknnppabdaaaGreat.MQ
open Go.RowKit Go.Proofs.YthapknnppabdaaaGreatW.PrintWords Go.Proofs.YthapknnppabdaaaGreatW.PrintLast Go.Proofs.YthapknnppabdaaaGreatW.PrintMore
set_option linter.unusedVariables false
set_option linter.unusedSimpArgs false
theorem rd_str (l : List ByteArray) (i : Nat) (h : i < l.length) : rdOf ByteArray.empty l (i : Int) = l[i] := by
  simp [rdOf, List.getD_eq_getElem?_getD, h]
/-- What is said of an action: its words, if it is one. -/
structure WordsOK (s a b : ByteArray) (c : Bool) : Prop where
  yes : c = true → capF a 4 = true ∧ capF b 4 = true ∧ rightF s 3 3 = true
  no : c = false → a = ⟨#[]⟩ ∧ b = ⟨#[]⟩
def goodRow (x : ByteArray) : Bool := decide (x.size = 11) && capF (x.extract 3 7) 4 && capF (x.extract 7 11) 4 && rightF (x.extract 0 3) 3 3
theorem words_from (s : ByteArray) (l : List ByteArray) (hl : l.length ≤ 1000) (hs : ∀ x ∈ l, goodRow x = true) : ∀ (d i k : Nat), i + d = l.length → d < k → ∃ (a b : ByteArray) (c : Bool), comptoirref07_Words.l0 k s l (i : Int) = some (a, b, c) ∧ WordsOK s a b c
  | 0, i, 0, _, hk => by omega
  | 0, i, k + 1, hi, _ => by
    simp only [comptoirref07_Words.l0]
    rw [if_neg (by omega)]
    exact ⟨_, _, _, rfl, ⟨fun h => absurd h (by decide), fun _ => ⟨rfl, rfl⟩⟩⟩
  | d + 1, i, 0, _, hk => by omega
  | d + 1, i, k + 1, hi, hk => by
    have h1 : i < l.length := by omega
    have h2 : wrap64 ((i : Int) + 1) = ((i + 1 : Nat) : Int) := by unfold wrap64; omega
    have hg := hs _ (List.getElem_mem h1)
    unfold goodRow at hg
    simp only [Bool.and_eq_true, decide_eq_true_eq] at hg
    obtain ⟨⟨⟨h11, ha⟩, hb⟩, hr⟩ := hg
    simp only [comptoirref07_Words.l0]
    rw [rd_str l i h1, if_pos (by omega), if_pos (by omega), if_pos (by omega), if_pos (by omega)]
    by_cases e : (l[i].extract 0 3).toList = s.toList
    · rw [if_pos e, if_pos (by omega), if_pos (by omega)]
      have es : l[i].extract 0 3 = s := by apply bs_inj; unfold bs; rw [← ByteArray.toList_eq, ← ByteArray.toList_eq, e]
      rw [es] at hr
      rw [h11]
      exact ⟨_, _, _, rfl, ⟨fun _ => ⟨ha, hb, hr⟩, fun h => absurd h (by decide)⟩⟩
    · rw [if_neg e, h2]
      exact words_from s l hl hs d (i + 1) k (by omega) (by omega)
def actionTable : List ByteArray := (comptoirref07_table.f).getD []
theorem table_is : comptoirref07_table.f = some actionTable := by kernel_rfl
theorem table_good : actionTable.length ≤ 1000 ∧ ∀ x ∈ actionTable, goodRow x = true := by
  have h : (decide (actionTable.length ≤ 1000) && actionTable.all goodRow) = true := by decide +kernel
  rw [Bool.and_eq_true, decide_eq_true_eq, List.all_eq_true] at h
  exact h
def wordsF (s : ByteArray) : ByteArray × ByteArray × Bool := (comptoirref07_Words.f (actionTable.length + 1) s).getD (⟨#[]⟩, ⟨#[]⟩, false)
theorem words_is (s : ByteArray) : comptoirref07_Words.f (actionTable.length + 1) s = some (wordsF s) ∧ WordsOK s (wordsF s).1 (wordsF s).2.1 (wordsF s).2.2 := by
  obtain ⟨a, b, c, h, hc⟩ := words_from s actionTable table_good.1 table_good.2 actionTable.length 0 (actionTable.length + 1) (by omega) (by omega)
  have hf : comptoirref07_Words.f (actionTable.length + 1) s = some (a, b, c) := by
    unfold comptoirref07_Words.f
    rw [table_is, Option.bind_some]
    exact h
  have e : wordsF s = (a, b, c) := by unfold wordsF; rw [hf]; rfl
  rw [e]
  exact ⟨hf, hc⟩
theorem words_e (s : ByteArray) (w : World) : Calls Tryz.prog 45 #[.string s] w fun e w' => e = .returned (.tuple #[.string (wordsF s).1, .string (wordsF s).2.1, .bool (wordsF s).2.2]) ∧ Below w.heap.size w w' := comptoirref07_Words.calls _ s _ _ _ w (words_is s).1
theorem known_e (s : ByteArray) (w : World) : Calls Tryz.prog 22 #[.string s] w fun e w' => e = .returned (.bool (wordsF s).2.2) ∧ Below w.heap.size w w' := by
  refine comptoirref07_Known.calls (actionTable.length + 1) s _ w ?_
  unfold comptoirref07_Known.f
  rw [(words_is s).1, Option.bind_some]
def rowList : List S56 := (comptoirref07_Rows.f).getD []
theorem rows_is : comptoirref07_Rows.f = some rowList := by kernel_rfl
theorem rows_len : rowList.length = 12 := by kernel_rfl
def rowOf (k : Int) : S56 := if 1 ≤ k ∧ k < 12 then rd_T56 rowList k else z56
def RowEnd (k : Int) (w : World) (e : Ending) (w' : World) : Prop := ∃ y : S56, y = rowOf k ∧ e = .returned (.agg #[.string y.f0, .string y.f1, .string y.f2, .string y.f3]) ∧ Below w.heap.size w w'
theorem row_end {k : Int} {y : S56} {w W : World} {tmps : Array Value} {p : Nat} (ht : tmps.getD 2 undef = .pointer (some ⟨p, 0, none⟩)) (hy : y = rowOf k) (hb : W.heap[p]? = some (.cells #[.string y.f0, .string y.f1, .string y.f2, .string y.f3] 56 (0, 0))) (hB : Below w.heap.size w W) : bodyPost Tryz.prog Tryz.f78 (RowEnd k w) Exit.ret { tmps := tmps, defers := [] } W :=
  bodyPost_ret (results_cell_row (fn := Tryz.f78) (p := 2) (ty := 56) (by rfl) _ _ p 56 #[.string y.f0, .string y.f1, .string y.f2, .string y.f3] (0, 0) _ ht hb Tryz.underlying56 rfl (by kernel_rfl)) rfl ⟨y, hy, rfl, hB⟩
set_option maxHeartbeats 8000000 in
set_option maxRecDepth 10000 in
theorem row_e (k : Int) (w : World) : Calls Tryz.prog 78 #[.int .i64 k] w (RowEnd k w) := by
  have hu := Tryz.underlying56
  go_enter Tryz.func78, Tryz.ntmps78
  go_wp2_with fail
  obtain ⟨p, hp⟩ : ∃ p, p = w.heap.size := ⟨_, rfl⟩
  have hb0 := blk_new w (.cells #[.string ⟨#[]⟩, .string ⟨#[]⟩, .string ⟨#[]⟩, .string ⟨#[]⟩] 56)
  have B0 : Below w.heap.size w (w.alloc (.cells #[.string ⟨#[]⟩, .string ⟨#[]⟩, .string ⟨#[]⟩, .string ⟨#[]⟩] 56)) := below_alloc (Below.refl _ w) _
  have HLO : Aside0 (w.heap.size ≤ p) := ⟨by omega⟩
  rw [← hp] at hb0 ⊢
  clear hp
  revert hb0 B0
  generalize (w.alloc (.cells #[.string ⟨#[]⟩, .string ⟨#[]⟩, .string ⟨#[]⟩, .string ⟨#[]⟩] 56)) = W0
  intro hb0 B0
  have HB0 := Aside0.mk hb0
  have BW := Aside0.mk B0
  clear hb0 B0
  refine (comptoirref07_Rows.calls rowList _ rows_is).mono ?_
  rintro e wr ⟨v0, rfl, ho, hB⟩
  obtain ⟨AR, cR, er, hrc, hrC⟩ := Kd.R_reads ho
  subst er
  rw [rows_len] at hrc hrC ⊢
  have HP := Aside0.mk (blk_below HB0.out hB)
  have BX := Aside0.mk (below_step BW.out hB)
  have HC := Aside0.mk hrC
  clear ho hB hrC HB0 BW
  have z0 := blk_frozen HP.out 0
  have z1 := blk_frozen HP.out 1
  have z2 := blk_frozen HP.out 2
  have z3 := blk_frozen HP.out 3
  have c0 : wr.cell? ⟨p, 0, none⟩ = some (.string ⟨#[]⟩) := (blk_cell HP.out 0).trans rfl
  have c1 : wr.cell? ⟨p, 1, none⟩ = some (.string ⟨#[]⟩) := (blk_cell HP.out 1).trans rfl
  have c2 : wr.cell? ⟨p, 2, none⟩ = some (.string ⟨#[]⟩) := (blk_cell HP.out 2).trans rfl
  have c3 : wr.cell? ⟨p, 3, none⟩ = some (.string ⟨#[]⟩) := (blk_cell HP.out 3).trans rfl
  have SET : Aside0 (∀ y : S56, ((((wr.setCell ⟨p, 0, none⟩ (.string y.f0)).setCell ⟨p, 1, none⟩ (.string y.f1)).setCell ⟨p, 2, none⟩ (.string y.f2)).setCell ⟨p, 3, none⟩ (.string y.f3)).heap[p]? = some (.cells #[.string y.f0, .string y.f1, .string y.f2, .string y.f3] 56 (0, 0)) ∧ Below w.heap.size w ((((wr.setCell ⟨p, 0, none⟩ (.string y.f0)).setCell ⟨p, 1, none⟩ (.string y.f1)).setCell ⟨p, 2, none⟩ (.string y.f2)).setCell ⟨p, 3, none⟩ (.string y.f3))) := ⟨fun y => ⟨blk_set (blk_set (blk_set (blk_set HP.out 0 (.string y.f0)) 1 (.string y.f1)) 2 (.string y.f2)) 3 (.string y.f3), below_set (below_set (below_set (below_set BX.out HLO.out) HLO.out) HLO.out) HLO.out⟩⟩
  by_cases q1 : k < 1
  · have HF : Aside0 (z56 = rowOf k) := ⟨by unfold rowOf; rw [if_neg (by omega)]⟩
    go_wp2_with fail
    exact row_end (y := z56) rfl HF.out (SET.out z56).1 (SET.out z56).2
  by_cases q2 : 12 ≤ k
  · have HF : Aside0 (z56 = rowOf k) := ⟨by unfold rowOf; rw [if_neg (by omega)]⟩
    go_wp2_with fail
    exact row_end (y := z56) rfl HF.out (SET.out z56).1 (SET.out z56).2
  have hk0 : 0 ≤ k := by omega
  have hk12 : k < ((12 : Nat) : Int) := by omega
  have hk12' : k < 12 := by omega
  obtain ⟨ad, ea, h0, h1, h2, h3⟩ := at_T56 HC.out k hk0 hk12
  have HA := Aside0.mk ea
  subst ea
  obtain ⟨y, HY⟩ : ∃ y, Aside0 (y = rd_T56 rowList k) := ⟨_, ⟨rfl⟩⟩
  rw [← HY.out] at h0 h1 h2 h3
  have HF : Aside0 (y = rowOf k) := ⟨by unfold rowOf; rw [if_pos (by omega), HY.out]⟩
  go_wp2_with fail
  exact row_end (y := y) rfl HF.out (SET.out y).1 (SET.out y).2
end Go.Proofs.YthapknnppabdaaaGreat.MQ
namespace Go.Proofs.YthapknnppabdaaaGreat.MQ
open Go.RowKit Go.Proofs.YthapknnppabdaaaGreatW.PrintWords Go.Proofs.YthapknnppabdaaaGreatW.PrintLast Go.Proofs.YthapknnppabdaaaGreatW.PrintMore
attribute [local go_sem] max2_int min2_int max_two min_two max_three min_three max_four min_four   -- for this text's walks alone
set_option linter.unusedVariables false
set_option linter.unusedSimpArgs false

def comptoirref07_tagged.j0 : Nat → Int → Bool → Option (Int)
  | 0, _, _ => none
  | k + 1, x0, x3 => if x3 = true then (some 1) else (if x0 > 255 then (if (x0 / 256) < 255 then (if (Go.bits .and .i64 (x0 / 256) 31) = 31 then (if (Go.bits .and .i64 x0 255) < 128 then (some 2) else (some 0)) else (some 0)) else (some 0)) else (some 0))
def comptoirref07_tagged.f (k : Nat) (a0 : Int) : Option (Int) := if a0 > 0 then (if a0 < 255 then (comptoirref07_tagged.j0 k a0 ((Go.bits .and .i64 a0 31) != 31)) else (comptoirref07_tagged.j0 k a0 false)) else (comptoirref07_tagged.j0 k a0 false)
set_option maxHeartbeats 8000000 in
set_option maxRecDepth 100000 in
theorem comptoirref07_tagged.calls (k : Nat) (a0 : Int) (r : Int) (w : World) (h : comptoirref07_tagged.f k a0 = some r) :
    Calls Tryz.prog 70 #[.int .i64 a0] w fun e w' => e = .returned (.int .i64 r) ∧ Drawn0 w w' := by
  have H : (if a0 > 0 then (if a0 < 255 then (comptoirref07_tagged.j0 k a0 ((Go.bits .and .i64 a0 31) != 31)) else (comptoirref07_tagged.j0 k a0 false)) else (comptoirref07_tagged.j0 k a0 false)) = some r := h
  clear h
  have HC2 := Aside0.mk H
  clear H
  go_enter Tryz.func70, Tryz.ntmps70
  go_upto_region 1 with (fail)
  go_cut [3] (fun v3 wc => ∃ (kq : Nat) (x3_1 : Bool), v3 = .bool x3_1 ∧ Aside0 (comptoirref07_tagged.j0 kq a0 x3_1 = some r) ∧ Aside0 (kq ≤ k) ∧ Drawn0 w wc)
  case first =>
    have H := HC2.out
    clear HC2
    by_cases c3 : a0 > 0
    · rw [if_pos c3] at H
      have c3b0 : decide (0 < a0) = true := decide_eq_true c3
      clear c3
      (first | rw [c3b0] | (simp only [i64_w, i32_w]; rw [c3b0]) | skip)
      by_cases c4 : a0 < 255
      · rw [if_pos c4] at H
        have c4b0 : decide (a0 < 255) = true := decide_eq_true c4
        clear c4
        have H' := Aside0.mk H
        clear H
        go_wp2
        go_meet
        case rel => exact ⟨_, (((Go.bits .and .i64 a0 31) != 31)), (by first | rfl | (simp; done) | (simp [*]; done)), H', ⟨by first | omega | exact Nat.le_refl _⟩, by repeat (first | exact Drawn0.refl _ | apply Drawn0.step)⟩
      · rw [if_neg c4] at H
        have c4b0 : decide (a0 < 255) = false := decide_eq_false c4
        clear c4
        have H' := Aside0.mk H
        clear H
        go_wp2
        go_meet
        case rel => exact ⟨_, (false), (by first | rfl | (simp; done) | (simp [*]; done)), H', ⟨by first | omega | exact Nat.le_refl _⟩, by repeat (first | exact Drawn0.refl _ | apply Drawn0.step)⟩
    · rw [if_neg c3] at H
      have c3b0 : decide (0 < a0) = false := decide_eq_false c3
      clear c3
      (first | rw [c3b0] | (simp only [i64_w, i32_w]; rw [c3b0]) | skip)
      have H' := Aside0.mk H
      clear H
      go_wp2
      go_meet
      case rel => exact ⟨_, (false), (by first | rfl | (simp; done) | (simp [*]; done)), H', ⟨by first | omega | exact Nat.le_refl _⟩, by repeat (first | exact Drawn0.refl _ | apply Drawn0.step)⟩
  case rest =>
    clear HC2
    try clear p2
    try clear c3
    try clear c3b0
    try clear c4
    try clear c4b0
    obtain ⟨kq, x3_1, rfl, HA, HJ1, ⟨mc1, rfl⟩⟩ := hcut
    cases kq with
    | zero => exact absurd HA.out (by simp [comptoirref07_tagged.j0])
    | succ kj1 =>
      have H := HA.out
      clear HA
      simp only [comptoirref07_tagged.j0] at H
      by_cases c5 : x3_1 = true
      · subst c5
        have H1 : (some 1) = some r := by rw [if_pos rfl] at H; exact H
        clear H
        have H := H1
        clear H1
        obtain rfl := Option.some.inj H
        simp only [Option.some.injEq, Prod.mk.injEq] at H
        obtain ⟨rfl⟩ := H
        go_wp2
        go_ret
        exact ⟨by first | rfl | (simp; done) | (simp [*]; done), by repeat (first | exact Drawn0.refl _ | apply Drawn0.step)⟩
      · replace c5 := Bool.eq_false_iff.mpr c5
        subst c5
        have H1 : (if a0 > 255 then (if (a0 / 256) < 255 then (if (Go.bits .and .i64 (a0 / 256) 31) = 31 then (if (Go.bits .and .i64 a0 255) < 128 then (some 2) else (some 0)) else (some 0)) else (some 0)) else (some 0)) = some r := by rw [if_neg (show ¬ (false = true) by decide)] at H; exact H
        clear H
        have H := H1
        clear H1
        by_cases c6 : a0 > 255
        · rw [if_pos c6] at H
          have c6b0 : decide (255 < a0) = true := decide_eq_true c6
          clear c6
          by_cases c7 : (a0 / 256) < 255
          · rw [if_pos c7] at H
            have c7b0 : decide ((a0 / 256) < 255) = true := decide_eq_true c7
            clear c7
            by_cases c8 : (Go.bits .and .i64 (a0 / 256) 31) = 31
            · rw [if_pos c8] at H
              have c8b0 : ((Go.bits .and .i64 (a0 / 256) 31) == 31) = true := beq_iff_eq.mpr c8
              have c8b1 : ((Go.bits .and .i64 (a0 / 256) 31) != 31) = false := bne_eq_false_iff_eq.mpr c8
              clear c8
              by_cases c9 : (Go.bits .and .i64 a0 255) < 128
              · rw [if_pos c9] at H
                have c9b0 : decide ((Go.bits .and .i64 a0 255) < 128) = true := decide_eq_true c9
                clear c9
                obtain rfl := Option.some.inj H
                simp only [Option.some.injEq, Prod.mk.injEq] at H
                obtain ⟨rfl⟩ := H
                go_wp2
                go_ret
                exact ⟨by first | rfl | (simp; done) | (simp [*]; done), by repeat (first | exact Drawn0.refl _ | apply Drawn0.step)⟩
              · rw [if_neg c9] at H
                have c9b0 : decide ((Go.bits .and .i64 a0 255) < 128) = false := decide_eq_false c9
                clear c9
                obtain rfl := Option.some.inj H
                simp only [Option.some.injEq, Prod.mk.injEq] at H
                obtain ⟨rfl⟩ := H
                go_wp2
                go_ret
                exact ⟨by first | rfl | (simp; done) | (simp [*]; done), by repeat (first | exact Drawn0.refl _ | apply Drawn0.step)⟩
            · rw [if_neg c8] at H
              have c8b0 : ((Go.bits .and .i64 (a0 / 256) 31) == 31) = false := beq_eq_false_iff_ne.mpr c8
              have c8b1 : ((Go.bits .and .i64 (a0 / 256) 31) != 31) = true := bne_iff_ne.mpr c8
              obtain rfl := Option.some.inj H
              simp only [Option.some.injEq, Prod.mk.injEq] at H
              obtain ⟨rfl⟩ := H
              go_wp2
              go_ret
              exact ⟨by first | rfl | (simp; done) | (simp [*]; done), by repeat (first | exact Drawn0.refl _ | apply Drawn0.step)⟩
          · rw [if_neg c7] at H
            have c7b0 : decide ((a0 / 256) < 255) = false := decide_eq_false c7
            clear c7
            obtain rfl := Option.some.inj H
            simp only [Option.some.injEq, Prod.mk.injEq] at H
            obtain ⟨rfl⟩ := H
            go_wp2
            go_ret
            exact ⟨by first | rfl | (simp; done) | (simp [*]; done), by repeat (first | exact Drawn0.refl _ | apply Drawn0.step)⟩
        · rw [if_neg c6] at H
          have c6b0 : decide (255 < a0) = false := decide_eq_false c6
          clear c6
          obtain rfl := Option.some.inj H
          simp only [Option.some.injEq, Prod.mk.injEq] at H
          obtain ⟨rfl⟩ := H
          go_wp2
          go_ret
          exact ⟨by first | rfl | (simp; done) | (simp [*]; done), by repeat (first | exact Drawn0.refl _ | apply Drawn0.step)⟩

def comptoirref07_known.l0 : Nat → List (S46) → Int → Int → Option (Bool)
  | 0, _, _, _ => none
  | k + 1, x0, x1, x5 => if x5 < (x0.length : Int) then (if 0 ≤ x5 then (if ((rd_T46 x0 x5).f0) = x1 then (some true) else (comptoirref07_known.l0 k x0 x1 (wrap64 (x5 + 1)))) else (none)) else (some false)
def comptoirref07_known.f (k : Nat) (l0 : List (S46)) (a1 : Int) : Option (Bool) := comptoirref07_known.l0 k l0 a1 0
set_option maxHeartbeats 8000000 in
set_option maxRecDepth 100000 in
theorem comptoirref07_known.calls (k : Nat) (A0 : Option Addr) (c0 : Nat) (l0 : List (S46)) (a1 : Int) (r : Bool) (w : World) (hr0 : Kd.C k46 w A0 l0.length l0) (hc0 : l0.length ≤ c0) (h : comptoirref07_known.f k l0 a1 = some r) :
    Calls Tryz.prog 71 #[.slice A0 l0.length c0, .int .i64 a1] w fun e w' => e = .returned (.bool r) ∧ Drawn0 w w' := by
  have hu46 := Tryz.underlying46
  have HR0 := Aside0.mk hr0
  have HC0 := Aside0.mk hc0
  clear hr0 hc0
  have H : (comptoirref07_known.l0 k l0 a1 0) = some r := h
  clear h
  have H' := Aside0.mk H
  clear H
  go_enter Tryz.func71, Tryz.ntmps71
  go_wp2
  go_loopg [5] k (fun kq v5 w' => ∃ (x5_1 : Int), v5 = .int .i64 x5_1 ∧ Aside0 (comptoirref07_known.l0 kq l0 a1 x5_1 = some r) ∧ Aside0 (kq ≤ k) ∧ Drawn0 w w')
  case atStart => exact ⟨(0), (by first | rfl | (simp; done) | (simp [*]; done)), H', ⟨Nat.le_refl _⟩, by repeat (first | exact Drawn0.refl _ | apply Drawn0.step)⟩
  case round =>
    clear H'
    try clear p2
    obtain ⟨x5_1, rfl, HA, HK1, ⟨m1, rfl⟩⟩ := hrel
    cases gk with
    | zero => exact absurd HA.out (by simp [comptoirref07_known.l0])
    | succ k1 =>
      have H := HA.out
      clear HA
      simp only [comptoirref07_known.l0] at H
      by_cases c3 : x5_1 < (l0.length : Int)
      · rw [if_pos c3] at H
        have c3b0 : decide (x5_1 < (l0.length : Int)) = true := decide_eq_true c3
        clear c3
        by_cases c4 : 0 ≤ x5_1
        · rw [if_pos c4] at H
          have c4b0 : decide (0 ≤ x5_1) = true := decide_eq_true c4
          clear c4
          by_cases c5 : ((rd_T46 l0 x5_1).f0) = a1
          · rw [if_pos c5] at H
            have c5b0 : (((rd_T46 l0 x5_1).f0) == a1) = true := beq_iff_eq.mpr c5
            have c5b1 : (((rd_T46 l0 x5_1).f0) != a1) = false := bne_eq_false_iff_eq.mpr c5
            clear c5
            obtain rfl := Option.some.inj H
            simp only [Option.some.injEq, Prod.mk.injEq] at H
            obtain ⟨rfl⟩ := H
            have p320 : 0 ≤ (x5_1 : Int) := of_decide_eq_true (by first | (with_reducible assumption) | assumption)
            have q320 : x5_1 < (l0.length : Int) := of_decide_eq_true (by first | (with_reducible assumption) | assumption)
            obtain ⟨ad320, A320_1, c320_1, e320, hx320_0, hx320_1, hl320_1, hi320_1⟩ := at_T46 HR0.out x5_1 p320 q320
            cases e320
            have HR320_1 := Aside0.mk hi320_1
            have HC320_1 := Aside0.mk hl320_1
            clear hi320_1 hl320_1
            replace p320 := eq_true p320
            replace q320 := eq_true q320
            go_wp2
            go_ret
            exact ⟨by first | rfl | (simp; done) | (simp [*]; done), by repeat (first | exact Drawn0.refl _ | apply Drawn0.step)⟩
          · rw [if_neg c5] at H
            have c5b0 : (((rd_T46 l0 x5_1).f0) == a1) = false := beq_eq_false_iff_ne.mpr c5
            have c5b1 : (((rd_T46 l0 x5_1).f0) != a1) = true := bne_iff_ne.mpr c5
            have H' := Aside0.mk H
            clear H
            have p320 : 0 ≤ (x5_1 : Int) := of_decide_eq_true (by first | (with_reducible assumption) | assumption)
            have q320 : x5_1 < (l0.length : Int) := of_decide_eq_true (by first | (with_reducible assumption) | assumption)
            obtain ⟨ad320, A320_1, c320_1, e320, hx320_0, hx320_1, hl320_1, hi320_1⟩ := at_T46 HR0.out x5_1 p320 q320
            cases e320
            have HR320_1 := Aside0.mk hi320_1
            have HC320_1 := Aside0.mk hl320_1
            clear hi320_1 hl320_1
            replace p320 := eq_true p320
            replace q320 := eq_true q320
            go_wp2
            go_roundg k1
            case measure => have := HK1.out; omega
            case rel => exact ⟨(wrap64 (x5_1 + 1)), (by first | rfl | (simp; done) | (simp [*]; done)), H', ⟨by have := HK1.out; omega⟩, by repeat (first | exact Drawn0.refl _ | apply Drawn0.step)⟩
        · rw [if_neg c4] at H
          exact absurd H (by simp)
      · rw [if_neg c3] at H
        have c3b0 : decide (x5_1 < (l0.length : Int)) = false := decide_eq_false c3
        clear c3
        obtain rfl := Option.some.inj H
        simp only [Option.some.injEq, Prod.mk.injEq] at H
        obtain ⟨rfl⟩ := H
        go_wp2
        go_ret
        exact ⟨by first | rfl | (simp; done) | (simp [*]; done), by repeat (first | exact Drawn0.refl _ | apply Drawn0.step)⟩

def comptoirref01_Put.l0 : Nat → Int → List Int → Int → Option (List Int)
  | 0, _, _, _ => none
  | k + 1, x1, x7, x8 => if x8 ≥ 0 then (if 0 ≤ (IntKind.u64.wrap (wrap64 (8 * x8))) then (if x7.length < 140737488355328 then (comptoirref01_Put.l0 k x1 (x7 ++ [(shr .u64 x1 (IntKind.u64.wrap (wrap64 (8 * x8)))) % 256]) (wrap64 (x8 - 1))) else (none)) else (none)) else (some x7)
def comptoirref01_Put.f (k : Nat) (l0 : List Int) (a1 : Int) (a2 : Int) : Option (List Int) := if ([] : List Int).length + l0.length < 140737488355328 then (comptoirref01_Put.l0 k a1 (([] : List Int) ++ l0) ((mx 0 (mn a2 8)) - 1)) else (none)
set_option maxHeartbeats 8000000 in
set_option maxRecDepth 100000 in
theorem comptoirref01_Put.calls (k : Nat) (A0 : Option Addr) (c0 : Nat) (l0 : List Int) (a1 : Int) (a2 : Int) (r : List Int) (w : World) (hr0 : Kd.C (Kd.int .u8) w A0 l0.length l0) (hc0 : l0.length ≤ c0) (h : comptoirref01_Put.f k l0 a1 a2 = some r) :
    Calls Tryz.prog 72 #[.slice A0 l0.length c0, .int .u64 a1, .int .i64 a2] w fun e w' => ∃ v0_ : Value, e = .returned (v0_) ∧ Kd.R (Kd.int .u8) 5 w' w.heap.size (fun _ => True) v0_ r ∧ Below w.heap.size w w' := by
  have HR0 := Aside0.mk hr0
  have HC0 := Aside0.mk hc0
  clear hr0 hc0
  have HB := Aside0.mk (Below.refl w.heap.size w)
  have H : (if ([] : List Int).length + l0.length < 140737488355328 then (comptoirref01_Put.l0 k a1 (([] : List Int) ++ l0) ((mx 0 (mn a2 8)) - 1)) else (none)) = some r := h
  clear h
  by_cases c4 : ([] : List Int).length + l0.length < 140737488355328
  · rw [if_pos c4] at H
    have LMc4 := Aside0.mk c4
    clear c4
    obtain ⟨y321, hy321⟩ : ∃ y_ : List Int, y_ = (([] : List Int) ++ l0) := ⟨_, rfl⟩
    replace H : (comptoirref01_Put.l0 k a1 y321 ((mx 0 (mn a2 8)) - 1)) = some r := by first | (rw [hy321]; with_reducible exact H) | (have H2_ := (Option.bind_some _ _).symm.trans H; rw [hy321]; with_reducible exact H2_) | (have H2_ := (Option.bind_some _ _).symm.trans H; with_reducible exact H2_) | with_reducible exact H | (rw [hy321]; exact H) | exact H
    have Ny321 := Aside0.mk hy321
    clear hy321
    obtain ⟨ji5, hji5⟩ : ∃ j_ : Int, (mn a2 8) = j_ := ⟨_, rfl⟩
    replace H : (comptoirref01_Put.l0 k a1 y321 ((mx 0 (ji5)) - 1)) = some r := by first | (rw [hji5] at H; exact H) | (simp only [hji5] at H ⊢; exact H)
    (try (have hji5h : ji5 ≤ 8 := by (rw [← hji5]; unfold mn; (repeat' split) <;> omega)))
    (try (have hji5g : ji5 ≤ 64 := by omega))
    have hji5_ : (if 8 < a2 then 8 else a2) = ji5 := hji5
    obtain ⟨ji6, hji6⟩ : ∃ j_ : Int, (mx 0 (ji5)) = j_ := ⟨_, rfl⟩
    replace H : (comptoirref01_Put.l0 k a1 y321 ((ji6) - 1)) = some r := by first | (rw [hji6] at H; exact H) | (simp only [hji6] at H ⊢; exact H)
    have hji6_ : (if 0 < (ji5) then (ji5) else 0) = ji6 := hji6
    have H' := Aside0.mk H
    clear H
    go_enter Tryz.func72, Tryz.ntmps72
    go_wp2_with (first | ((with_reducible refine gate_builtin (b := .append) (xs := #[.const (.slice none 0 0), .tmp 9]) rfl ?_); at_builtin; refine Kd.R_append_rows (Kd.int .u8) (w0 := w) w.heap.size rfl (.const (.slice none 0 0)) (.tmp 9) 38 5 (.int .u8 0) 1 rfl Tryz.underlying38 info5 rfl (by decide) (by omega) (.slice none 0 0) ([] : List Int) l0 _ _ _ (fun _ => True) (fun _ => False) rfl rfl ?aO ?aR (fun _ _ h => h) (fun _ h => h.elim) ?aF ?aB ?aS ?aL ?_; (case aR => repeat (first | exact HR0.out | (with_reducible refine Kd.C_alloc ?_ _) | (with_reducible refine Kd.C_drewN ?_ _) | (with_reducible refine Kd.C_drew ?_))); (case aB => exact (by repeat (first | (with_reducible first | exact HB.out | apply below_alloc | apply pw_below_drewN | apply below_drew1) | exact HB.out))); (case aF => exact (fun _ _ => trivial)); (case aO => exact ((Kd.R_nil _ _ _ _ (fun _ => True)))); (case aS => exact (below_size (by repeat (first | (with_reducible first | exact HB.out | apply below_alloc | apply pw_below_drewN | apply below_drew1) | exact HB.out)))); (case aL => have := LMc4.out; omega); intro v322 w7 ho hb hg hat; rw [← Ny321.out] at ho; have n0_ := Aside0.mk (hb); have n1_ := Aside0.mk (ho); clear HB; have HB := n0_; have HO323 := n1_; clear n0_ n1_; clear ho hb hg hat))
    go_loopg [7, 8] k (fun kq v7 v8 w' => ∃ (x7_1 : List Int) (x8_1 : Int), v8 = .int .i64 x8_1 ∧ Aside0 (comptoirref01_Put.l0 kq a1 x7_1 x8_1 = some r) ∧ Aside0 (kq ≤ k) ∧ Aside0 (Kd.R (Kd.int .u8) 5 w' w.heap.size (fun _ => True) v7 x7_1) ∧ Aside0 (Below w.heap.size w w'))
    case atStart => exact ⟨(y321), ((ji6) - 1), (by first | rfl | (simp; done) | (simp only [← hji6] <;> (first | rfl | simp)) | (simp [*]; done)), H', ⟨Nat.le_refl _⟩, ⟨by (with_reducible repeat (first | apply Kd.R_alloc | apply Kd.R_drewN | apply Kd.R_drew)); exact HO323.out⟩, ⟨by repeat (first | (with_reducible first | exact HB.out | apply below_alloc | apply pw_below_drewN | apply below_drew1) | exact HB.out)⟩⟩
    case round =>
      clear H'
      try clear p2
      try clear c4
      try clear c7
      obtain ⟨x7_1, x8_1, rfl, HA, HK1, HO_7, HB⟩ := hrel
      cases gk with
      | zero => exact absurd HA.out (by simp [comptoirref01_Put.l0])
      | succ k1 =>
        have H := HA.out
        clear HA
        simp only [comptoirref01_Put.l0] at H
        by_cases c8 : x8_1 ≥ 0
        · rw [if_pos c8] at H
          have c8b0 : decide (0 ≤ x8_1) = true := decide_eq_true c8
          clear c8
          obtain ⟨ji9, hji9⟩ : ∃ j_ : Int, (IntKind.u64.wrap (wrap64 (8 * x8_1))) = j_ := ⟨_, rfl⟩
          replace H : (if 0 ≤ (ji9) then (if x7_1.length < 140737488355328 then (comptoirref01_Put.l0 k1 a1 (x7_1 ++ [(shr .u64 a1 (ji9)) % 256]) (wrap64 (x8_1 - 1))) else (none)) else (none)) = some r := by first | (rw [hji9] at H; exact H) | (simp only [hji9] at H ⊢; exact H)
          by_cases c10 : 0 ≤ (ji9)
          · rw [if_pos c10] at H
            have c10b0 := eq_true c10
            have c10b1 : decide (0 ≤ (ji9)) = true := decide_eq_true c10
            clear c10
            obtain ⟨ji11, hji11⟩ : ∃ j_ : Int, (shr .u64 a1 (ji9)) = j_ := ⟨_, rfl⟩
            replace H : (if x7_1.length < 140737488355328 then (comptoirref01_Put.l0 k1 a1 (x7_1 ++ [(ji11) % 256]) (wrap64 (x8_1 - 1))) else (none)) = some r := by first | (rw [hji11] at H; exact H) | (simp only [hji11] at H ⊢; exact H)
            have hji11_ : (a1 / 2 ^ min (ji9).toNat 64) = ji11 := hji11
            have hji11z : (ji9) ≤ 64 → (a1 / 2 ^ (ji9).toNat) = ji11 := shr_small hji11
            by_cases c12 : x7_1.length < 140737488355328
            · rw [if_pos c12] at H
              have LMc12 := Aside0.mk c12
              clear c12
              obtain ⟨y324, hy324⟩ : ∃ y_ : List Int, y_ = (x7_1 ++ [(ji11) % 256]) := ⟨_, rfl⟩
              replace H : (comptoirref01_Put.l0 k1 a1 y324 (wrap64 (x8_1 - 1))) = some r := by first | (rw [hy324]; with_reducible exact H) | (have H2_ := (Option.bind_some _ _).symm.trans H; rw [hy324]; with_reducible exact H2_) | (have H2_ := (Option.bind_some _ _).symm.trans H; with_reducible exact H2_) | with_reducible exact H | (rw [hy324]; exact H) | exact H
              have Ny324 := Aside0.mk hy324
              clear hy324
              have H' := Aside0.mk H
              clear H
              go_wp2_with (first | ((with_reducible refine gate_builtin (b := .append) (xs := #[.tmp 19, .tmp 26]) rfl ?_); at_builtin; refine Kd.R_append (Kd.int .u8) (w0 := w) w.heap.size rfl (.tmp 19) (.tmp 26) 38 5 (.int .u8 0) 1 rfl Tryz.underlying38 info5 rfl (by decide) (by omega) u7 x7_1 ((ji11) % 256) [.int .u8 ((ji11) % 256)] (fun _ => True) (fun _ => False) rfl rfl ?aP (fun _ hk => hk.elim) ?aF ?aO ?aB ?aS ?aL ?_; (case aP => exact rfl); (case aB => exact (by repeat (first | (with_reducible first | exact HB.out | apply below_alloc | apply pw_below_drewN | apply below_drew1) | exact HB.out))); (case aF => exact (fun _ _ => trivial)); (case aO => exact (by (with_reducible repeat (first | apply Kd.R_alloc | apply Kd.R_drewN | apply Kd.R_drew)); exact HO_7.out)); (case aS => exact (below_size (by repeat (first | (with_reducible first | exact HB.out | apply below_alloc | apply pw_below_drewN | apply below_drew1) | exact HB.out)))); (case aL => have := LMc12.out; omega); intro v325 w13 ho hb hg hat; rw [← Ny324.out] at ho; have n0_ := Aside0.mk (hb); have n1_ := Aside0.mk (ho); clear HB; clear HO_7; have HB := n0_; have HO326 := n1_; clear n0_ n1_; clear ho hb hg hat))
              go_roundg k1
              case measure => have := HK1.out; omega
              case rel => exact ⟨(y324), (wrap64 (x8_1 - 1)), (by first | rfl | (simp; done) | (simp [*]; done)), H', ⟨by have := HK1.out; omega⟩, ⟨by (with_reducible repeat (first | apply Kd.R_alloc | apply Kd.R_drewN | apply Kd.R_drew)); exact HO326.out⟩, ⟨by repeat (first | (with_reducible first | exact HB.out | apply below_alloc | apply pw_below_drewN | apply below_drew1) | exact HB.out)⟩⟩
            · rw [if_neg c12] at H
              exact absurd H (by simp)
          · rw [if_neg c10] at H
            exact absurd H (by simp)
        · rw [if_neg c8] at H
          have c8b0 : decide (0 ≤ x8_1) = false := decide_eq_false c8
          clear c8
          obtain rfl := Option.some.inj H
          simp only [Option.some.injEq, Prod.mk.injEq] at H
          obtain ⟨rfl⟩ := H
          go_wp2
          go_ret
          exact ⟨_, by first | rfl | (simp [errW_none, errW_some] <;> rfl) | (simp only [← hji5, ← hji6]; first | rfl | (simp [errW_none, errW_some] <;> rfl)) | (simp [*, errW_none, errW_some] <;> rfl), by (with_reducible repeat (first | apply Kd.R_alloc | apply Kd.R_drewN | apply Kd.R_drew)); exact HO_7.out, by repeat (first | (with_reducible first | exact HB.out | apply below_alloc | apply pw_below_drewN | apply below_drew1) | exact HB.out)⟩
  · rw [if_neg c4] at H
    exact absurd H (by simp)

end Go.Proofs.YthapknnppabdaaaGreat.MQ
namespace Go.Proofs.YthapknnppabdaaaGreat.MQ
open Go.RowKit Go.Proofs.YthapknnppabdaaaGreatW.PrintWords Go.Proofs.YthapknnppabdaaaGreatW.PrintLast Go.Proofs.YthapknnppabdaaaGreatW.PrintMore
set_option linter.unusedVariables false
set_option linter.unusedSimpArgs false
theorem tagged_some (t : Int) : ∃ r, comptoirref07_tagged.f 3 t = some r ∧ 0 ≤ r ∧ r ≤ 2 := by
  unfold comptoirref07_tagged.f
  simp only [comptoirref07_tagged.j0]
  repeat' split
  all_goals exact ⟨_, rfl, by omega, by omega⟩
theorem known_from (l : List S46) (t : Int) (hl : l.length ≤ 1000) : ∀ (d i k : Nat), i + d = l.length → d < k → ∃ b, comptoirref07_known.l0 k l t (i : Int) = some b
  | 0, i, 0, _, hk => by omega
  | 0, i, k + 1, hi, _ => by
    simp only [comptoirref07_known.l0]
    rw [if_neg (by omega)]
    exact ⟨_, rfl⟩
  | d + 1, i, 0, _, hk => by omega
  | d + 1, i, k + 1, hi, hk => by
    have h2 : wrap64 ((i : Int) + 1) = ((i + 1 : Nat) : Int) := by unfold wrap64; omega
    simp only [comptoirref07_known.l0]
    rw [if_pos (by omega), if_pos (by omega), h2]
    by_cases e : (rd_T46 l (i : Int)).f0 = t
    · rw [if_pos e]; exact ⟨_, rfl⟩
    · rw [if_neg e]; exact known_from l t hl d (i + 1) k (by omega) (by omega)
theorem known_some (l : List S46) (t : Int) (hl : l.length ≤ 1000) : ∃ b, comptoirref07_known.f 1002 l t = some b := known_from l t hl l.length 0 1002 (by omega) (by omega)
/-- Bytes that are some. -/
def ByIn (l : List Int) : Prop := ∀ x ∈ l, 0 ≤ x ∧ x < 256
theorem ByIn.app {l m : List Int} (h : ByIn l) (g : ByIn m) : ByIn (l ++ m) := fun x hx => by
  rcases List.mem_append.1 hx with hx | hx
  · exact h x hx
  · exact g x hx
theorem ByIn.snoc {l : List Int} {c : Int} (h : ByIn l) (h0 : 0 ≤ c) (h1 : c < 256) : ByIn (l ++ [c]) := h.app (fun x hx => by rw [List.mem_singleton] at hx; subst hx; exact ⟨h0, h1⟩)
def TagsIn (l : List S46) : Prop := ∀ k : Nat, k < l.length → ByIn (rd_T46 l (k : Int)).f1
theorem put_from (v : Int) : ∀ (d k : Nat) (x : List Int), d < k → d ≤ 8 → x.length + d ≤ 100000 → ∃ r, comptoirref01_Put.l0 (k + 1) v x ((d : Int) - 1) = some r ∧ r.length = x.length + d ∧ (ByIn x → ByIn r)
  | 0, k, x, _, _, _ => by
    simp only [comptoirref01_Put.l0]
    rw [if_neg (by omega)]
    exact ⟨_, rfl, rfl, id⟩
  | d + 1, 0, x, hk, _, _ => by omega
  | d + 1, k + 1, x, hk, h8, hx => by
    rw [comptoirref01_Put.l0]
    rw [if_pos (by omega), if_pos (by simp only [IntKind.wrap, IntKind.u64]; exact Int.emod_nonneg _ (by decide)), if_pos (by omega)]
    have h2 : wrap64 (((d + 1 : Nat) : Int) - 1 - 1) = (d : Int) - 1 := by unfold wrap64; omega
    rw [h2]
    obtain ⟨r, h, hl, hi⟩ := put_from v d k (x ++ [(shr .u64 v (IntKind.u64.wrap (wrap64 (8 * (((d + 1 : Nat) : Int) - 1))))) % 256]) (by omega) (by omega) (by rw [List.length_append]; show x.length + 1 + d ≤ 100000; omega)
    exact ⟨r, h, by rw [hl, List.length_append]; show x.length + 1 + d = _; omega, fun hx => hi (ByIn.snoc hx (Int.emod_nonneg _ (by decide)) (Int.emod_lt_of_pos _ (by decide)))⟩
theorem put_some (v n : Int) (x : List Int) (h0 : 0 ≤ n) (h1 : n ≤ 2) (hx : x.length ≤ 90000) : ∃ r, comptoirref01_Put.f 12 x v n = some r ∧ r.length = x.length + n.toNat ∧ (ByIn x → ByIn r) := by
  obtain ⟨d, rfl⟩ := Int.eq_ofNat_of_zero_le h0
  obtain ⟨r, h, hl, hi⟩ := put_from v d 11 x (by omega) (by omega) (by omega)
  refine ⟨r, ?_, by rw [hl]; omega, hi⟩
  unfold comptoirref01_Put.f
  have e : mx 0 (mn (d : Int) 8) - 1 = (d : Int) - 1 := by unfold mx mn; split <;> split <;> omega
  rw [if_pos (by show 0 + x.length < _; omega), List.nil_append, e]
  exact h
theorem C_take {A : Option Addr} {n m : Nat} {w : World} {xs : List S46} (h : k46.C w A n xs) (hm : m ≤ n) : k46.C w A (xs.take m).length (xs.take m) := by
  obtain ⟨h1, h2, h3⟩ := h
  have hl : (xs.take m).length = m := by rw [List.length_take]; omega
  rw [hl]
  refine ⟨hl, by omega, fun hp => ?_⟩
  obtain ⟨ad, e, hc⟩ := h3 (by omega)
  refine ⟨ad, e, fun j p hj => hc j p ?_⟩
  rw [List.getElem?_take] at hj
  split at hj
  · exact hj
  · cases hj

def T58_15 : Bool × List (List Nat × List Nat) := (true, [([], []), ([], []), ([], []), ([1, 2], [1, 2]), ([3], [3]), ([4], [4]), ([5], [5]), ([6], [6]), ([7], [7]), ([0, 8], [0, 8]), ([], []), ([], []), ([10, 11], [10, 11]), ([12], [12]), ([13], [13]), ([9, 14, 9], [9, 14]), ([15, 15, 0, 1, 2, 3, 4, 5, 6, 7, 8, 9, 10, 11, 12, 13, 14, 15], [0, 15])])
def B58_15 : List Nat := [0, 0, 0, 6, 14, 30, 62, 126, 254, 511, 0, 0, 3072, 7168, 15360, 32767, 65535]
theorem tab58_15 : rtab .any (opsOf Tryz.f46 15) = T58_15 := by kernel_rfl
theorem bits58_15 : waitsOk T58_15.2 B58_15 = true := by kernel_rfl

def tgF (t : Int) : Int := (comptoirref07_tagged.f 3 t).getD 0
def knF (l : List S46) (t : Int) : Bool := (comptoirref07_known.f 1002 l t).getD false
/-- A tag that may stand behind those ahead of it. -/
def TagAt (l : List S46) (k : Nat) : Prop := tgF (rd_T46 l (k : Int)).f0 ≠ 0 ∧ knF (l.take k) (rd_T46 l (k : Int)).f0 = false ∧ (rd_T46 l (k : Int)).f1.length ≤ 255
def TagsOK (l : List S46) : Prop := l.length ≤ 20 ∧ ∀ k : Nat, k < l.length → TagAt l k
def tagsLen (l : List S46) : Nat := (l.map fun t => t.f1.length + 4).sum
theorem tagsLen_succ {l : List S46} {k : Nat} (h : k < l.length) : tagsLen (l.take (k + 1)) = tagsLen (l.take k) + (rd_T46 l (k : Int)).f1.length + 4 := by
  have e : rd_T46 l (k : Int) = l[k] := by unfold rd_T46; rw [Int.toNat_natCast, List.getD_eq_getElem?_getD, List.getElem?_eq_getElem h, Option.getD_some]
  unfold tagsLen
  rw [List.take_add_one, List.getElem?_eq_getElem h, Option.toList_some, List.map_append, List.sum_append, e]
  simp; omega
def TagsEnd (l : List S46) (w : World) (e : Ending) (w' : World) : Prop := ∃ (A : Option Addr) (b : List Int) (c : Nat) (r : Int), e = .returned (.tuple #[.slice A b.length c, .int .i64 r]) ∧ (r = 0 ↔ TagsOK l) ∧ (r = 0 → b.length ≤ tagsLen l ∧ l.length ≤ b.length) ∧ (TagsIn l → ByIn b) ∧ b.length ≤ c ∧ Kd.C (Kd.int .u8) w' A b.length b ∧ Below w.heap.size w w'
theorem tags_no {l : List S46} {w W : World} {r : Int} (hr : r ≠ 0) (hn : ¬ TagsOK l) (hb : Below w.heap.size w W) : TagsEnd l w (.returned (.tuple #[.slice none 0 0, .int .i64 r])) W :=
  ⟨none, [], 0, r, rfl, ⟨fun h => absurd h hr, fun h => absurd h hn⟩, fun h => absurd h hr, fun _ x hx => absurd hx (List.not_mem_nil), Nat.le_refl _, Kd.C_nil _ _, hb⟩
set_option maxHeartbeats 8000000 in
set_option maxRecDepth 100000 in
theorem writeTags_e (A : Option Addr) (c : Nat) (l : List S46) (w : World) (hr : k46.C w A l.length l) (hc : l.length ≤ c) : Calls Tryz.prog 46 #[.slice A l.length c] w (TagsEnd l w) := by
  have hu46 := Tryz.underlying46
  have HR := Aside0.mk hr
  have HC := Aside0.mk hc
  have BW := Aside0.mk (Below.refl w.heap.size w)
  have hm : l.length ≤ 9223372036854775807 := hr.2.1
  clear hr hc
  by_cases h20 : 20 < (l.length : Int)
  · have h20' : 20 < l.length := by omega
    go_enter Tryz.func46, Tryz.ntmps46
    go_wp2_with fail
    go_ret2
    exact tags_no (by decide) (fun h => by have := h.1; omega) BW.out
  have h20' : l.length ≤ 20 := by omega
  clear hm
  go_enter Tryz.func46, Tryz.ntmps46
  go_wp2_with fail
  go_loopg [4, 5, 6] l.length (fun gg s4 s5 s6 wr => ∃ (kk : Nat) (b : List Int), kk ≤ l.length ∧ l.length - kk ≤ gg ∧ s5 = .int .i64 kk ∧ Aside0 (b.length ≤ 300 * kk ∧ b.length ≤ tagsLen (l.take kk) ∧ kk ≤ b.length ∧ (TagsIn l → ByIn b) ∧ ∀ j : Nat, j < kk → TagAt l j) ∧ Aside0 (Kd.R (Kd.int .u8) 5 wr w.heap.size (fun _ => True) s4 b) ∧ Aside0 (Below w.heap.size w wr))
  case atStart => exact ⟨0, [], by omega, by omega, rfl, ⟨by simp, by simp, Nat.le_refl _, fun _ x hx => absurd hx (List.not_mem_nil), fun j hj => absurd hj (Nat.not_lt_zero _)⟩, ⟨Kd.R_nil _ _ _ _ _⟩, BW⟩
  case round =>
    obtain ⟨kk, b, hkk, hg, rfl, HM, HO, BW⟩ := hrel
    by_cases hlt : kk < l.length
    rotate_left
    · have hltz : ¬ (kk : Int) < (l.length : Int) := by omega
      obtain ⟨Ab, cb, e⟩ := Kd.R_slice HO.out
      subst e
      have HEND : Aside0 (TagsEnd l w (.returned (.tuple #[.slice Ab b.length cb, .int .i64 0])) wr) := ⟨by
        have e : kk = l.length := by omega
        have hm := HM.out
        rw [e, List.take_of_length_le (Nat.le_refl _)] at hm
        exact ⟨Ab, b, cb, 0, rfl, ⟨fun _ => ⟨h20', hm.2.2.2.2⟩, fun _ => rfl⟩, fun _ => ⟨hm.2.1, hm.2.2.1⟩, hm.2.2.2.1, (Kd.R_reads' HO.out).2.1, (Kd.R_reads' HO.out).2.2, BW.out⟩⟩
      generalize b.length = n at HM HEND
      go_wp2_with fail
      go_ret2
      exact HEND.out
    have hltz : (kk : Int) < (l.length : Int) := by omega
    obtain ⟨ad, A1, c1, e1, h0, h1, hl1, hi1⟩ := at_T46 HR.out (kk : Int) (by omega) (by omega)
    subst e1
    rw [Int.toNat_natCast] at h0 h1
    have HT := Aside0.mk (C_take HR.out (show kk ≤ l.length by omega))
    have hlt' : (l.take kk).length = kk := by rw [List.length_take]; omega
    have HLT := Aside0.mk hlt'
    rw [hlt'] at HT
    obtain ⟨lt, hlt2⟩ : ∃ t, t = l.take kk := ⟨_, rfl⟩
    rw [← hlt2] at HT HLT
    have HLQ := Aside0.mk hlt2
    clear hlt2 hlt'
    obtain ⟨y, hy⟩ : ∃ y, y = rd_T46 l (kk : Int) := ⟨_, rfl⟩
    rw [← hy] at h0 h1 hl1 hi1
    obtain ⟨yn, yd⟩ := y
    have HYQ := Aside0.mk hy
    clear hy
    change w.cell? _ = some (.int .i64 yn) at h0
    change w.cell? _ = some (.slice A1 yd.length c1) at h1
    change yd.length ≤ c1 at hl1
    change Kd.C (Kd.int .u8) w A1 yd.length yd at hi1
    have H0 := Aside0.mk h0
    have H1 := Aside0.mk h1
    have HI := Aside0.mk (And.intro hl1 hi1)
    clear h0 h1 hl1 hi1
    have h0 := (BW.out.cell (World.block_lt_of_cell? w _ H0.out)).trans H0.out
    have h1 := (BW.out.cell (World.block_lt_of_cell? w _ H1.out)).trans H1.out
    obtain ⟨tg, htg, ht0, ht2⟩ := tagged_some yn
    have HTG := Aside0.mk htg
    have HTF : Aside0 (tgF yn = tg) := ⟨by unfold tgF; rw [htg]; rfl⟩
    clear htg
    go_upto_region 8 with (first | ((with_reducible refine gate_callee (f := 70) rfl ?_); refine goesL_ (some 21) rfl rfl Tryz.func70 (by kernel_rfl) rfl #[.int .i64 yn] rfl (by (try simp only [List.map_toArray, List.map_cons, List.map_nil]); first | done | rfl) ?_; (with_reducible refine (comptoirref07_tagged.calls 3 yn tg _ HTG.out).mono ?_); rintro e w' ⟨rfl, ⟨nd, rfl⟩⟩; refine ⟨_, rfl, ?_⟩))
    have BX := Aside0.mk (pw_below_drewN BW.out nd)
    have HX : Aside0 (Kd.R (Kd.int .u8) 5 (wr.drewN nd) w.heap.size (fun _ => True) u4 b) := ⟨Kd.R_drewN HO.out nd⟩
    clear BW HO h0 h1
    generalize wr.drewN nd = W1 at BX HX ⊢
    by_cases t0 : tg = 0
    · have t0b : (tg == 0) = true := beq_iff_eq.mpr t0
      have NT : Aside0 (¬ TagsOK l) := ⟨fun h => (h.2 kk hlt).1 (by rw [← HYQ.out]; exact HTF.out.trans t0)⟩
      replace t0 := Aside0.mk t0
      repeat (go_quiet (fail))
      go_wp2_with fail
      go_ret2
      exact tags_no (by decide) NT.out (pw_below_drewN BX.out _)
    have t0b : (tg == 0) = false := beq_eq_false_iff_ne.mpr t0
    replace t0 := Aside0.mk t0
    obtain ⟨kb, hkb⟩ := known_some lt yn (by have := HLT.out; omega)
    have HKF : Aside0 (knF lt yn = kb) := ⟨by unfold knF; rw [hkb]; rfl⟩
    have HT0 : Aside0 (tg ≠ 0) := t0
    have HK : Aside0 (∀ W, Below w.heap.size w W → Calls Tryz.prog 71 #[.slice (some ad) kk c, .int .i64 yn] W fun e w' => e = .returned (.bool kb) ∧ Drawn0 W w') := ⟨fun W hB => by
      have h := comptoirref07_known.calls 1002 (some ad) c lt yn kb W (by rw [HLT.out]; exact Kd.C_below HT.out hB) (by have := HLT.out; have := HC.out; omega) hkb
      rw [HLT.out] at h
      exact h⟩
    clear hkb
    have h0 := (BX.out.cell (World.block_lt_of_cell? w _ H0.out)).trans H0.out
    have h1 := (BX.out.cell (World.block_lt_of_cell? w _ H1.out)).trans H1.out
    have hkz : (kk : Int) ≤ (l.length : Int) := by omega
    have hkc : (kk : Int) ≤ (c : Int) := by have := HC.out; omega
    repeat (go_quiet (first | (go_at_call 71; (with_reducible refine (HK.out _ ?side1).mono ?_); (case side1 => repeat (first | exact BX.out | apply pw_below_drewN)); rintro e w' ⟨rfl, ⟨nd, rfl⟩⟩; (try first | exact ⟨rfl, _, World.drewN_drewN _ _ _⟩ | exact ⟨rfl, _, Eq.trans (World.drewN_drewN _ _ _) (congrArg (World.drewN _) (Nat.add_assoc _ _ _))⟩))))
    have BY := Aside0.mk (pw_below_drewN BX.out nq)
    have HY : Aside0 (Kd.R (Kd.int .u8) 5 (W1.drewN nq) w.heap.size (fun _ => True) u4 b) := ⟨Kd.R_drewN HX.out nq⟩
    clear BX HX h0 h1 HK
    generalize W1.drewN nq = W2 at BY HY ⊢
    have h0 := (BY.out.cell (World.block_lt_of_cell? w _ H0.out)).trans H0.out
    have h1 := (BY.out.cell (World.block_lt_of_cell? w _ H1.out)).trans H1.out
    cases kb with
    | true =>
      have NT : Aside0 (¬ TagsOK l) := ⟨fun h => by have := (h.2 kk hlt).2.1; rw [← HYQ.out, ← HLQ.out] at this; exact absurd (HKF.out.symm.trans this) (by decide)⟩
      go_wp2_with fail
      go_ret2
      exact tags_no (by decide) NT.out BY.out
    | false =>
    by_cases g255 : 255 < (yd.length : Int)
    · have g255' : 255 < yd.length := by omega
      have NT : Aside0 (¬ TagsOK l) := ⟨fun h => by have := (h.2 kk hlt).2.2; rw [← HYQ.out] at this; have : yd.length ≤ 255 := this; omega⟩
      go_wp2_with fail
      go_ret2
      exact tags_no (by decide) NT.out BY.out
    have g255' : yd.length ≤ 255 := by omega
    have HYD := Aside0.mk g255'
    have HTAT : Aside0 (TagAt l kk) := ⟨by unfold TagAt; rw [← HYQ.out, ← HLQ.out]; exact ⟨by show tgF yn ≠ 0; rw [HTF.out]; exact HT0.out, HKF.out, g255'⟩⟩
    obtain ⟨Ab, cb, e⟩ := Kd.R_slice HY.out
    subst e
    obtain ⟨r, hr, hrl, hri⟩ := put_some (IntKind.u64.wrap yn) tg b ht0 ht2 (by have := HM.out.1; omega)
    have HPT := Aside0.mk (comptoirref01_Put.calls 12 Ab cb b (IntKind.u64.wrap yn) tg r W2 (Kd.R_reads' HY.out).2.2 (Kd.R_reads' HY.out).2.1 hr)
    have HRL : Aside0 (r.length ≤ 300 * kk + 2 ∧ r.length ≤ tagsLen (l.take kk) + 2 ∧ kk ≤ r.length ∧ (TagsIn l → ByIn r)) := ⟨by have := HM.out.1; omega, by have := HM.out.2.1; omega, by have := HM.out.2.2.1; omega, fun h => hri (HM.out.2.2.2.1 h)⟩
    have HMA : Aside0 (∀ j : Nat, j < kk + 1 → TagAt l j) := ⟨fun j hj => by
      by_cases e : j = kk
      · subst e; exact HTAT.out
      · exact HM.out.2.2.2.2 j (by omega)⟩
    clear hr hrl hri HM
    go_wp2_with fail
    refine HPT.out.mono ?_
    rintro e w3 ⟨v3, rfl, ho0, hb⟩
    have H3 := Aside0.mk (Kd.R_lower ho0 (below_size BY.out))
    have B3 := Aside0.mk (below_step BY.out hb)
    clear ho0 hb HY BY HPT h0 h1
    have h0 := (B3.out.cell (World.block_lt_of_cell? w _ H0.out)).trans H0.out
    have h1 := (B3.out.cell (World.block_lt_of_cell? w _ H1.out)).trans H1.out
    go_upto_if 57 with fail
    go_cut [4] from 51 to 60 (fun s4 wc => ∃ (A4 : Option Addr) (c4 : Nat) (b4 : List Int), s4 = .slice A4 b4.length c4 ∧ Aside0 (b4.length ≤ 300 * kk + 3 ∧ b4.length ≤ tagsLen (l.take kk) + 3 ∧ kk ≤ b4.length ∧ (TagsIn l → ByIn b4)) ∧ Aside0 (Kd.R (Kd.int .u8) 5 wc w.heap.size (fun _ => True) (.slice A4 b4.length c4) b4) ∧ Aside0 (Below w.heap.size w wc))
    case first =>
      by_cases g127 : 127 < (yd.length : Int)
      · have g127' : 127 < yd.length := by omega
        have HZ : Aside0 ((r.length + 1) * 1 ≤ 140737488355328) := ⟨by have := HRL.out.1; omega⟩
        go_wp2_with (first | ((with_reducible refine gate_builtin (b := .append) (xs := #[.tmp 58, .tmp 59]) rfl ?_); at_builtin; refine Kd.R_append (Kd.int .u8) (w0 := w) w.heap.size rfl (.tmp 58) (.tmp 59) 38 5 (.int .u8 0) 1 rfl Tryz.underlying38 info5 rfl (by decide) (by omega) v3 r 129 [.int .u8 129] (fun _ => True) (fun _ => False) rfl rfl ?aP (fun _ hk => hk.elim) ?aF ?aO ?aB ?aS ?aL ?_; (case aP => exact rfl); (case aB => exact B3.out); (case aF => exact (fun _ _ => trivial)); (case aO => exact H3.out); (case aS => exact below_size B3.out); (case aL => exact HZ.out); intro v1 w2 ho hb hg hat; have HO2 := Aside0.mk ho; have B4 := Aside0.mk hb; clear ho hb hg hat))
        obtain ⟨A4, c4, e⟩ := Kd.R_slice HO2.out
        subst e
        have HL4 : Aside0 ((r ++ [129]).length ≤ 300 * kk + 3 ∧ (r ++ [129]).length ≤ tagsLen (l.take kk) + 3 ∧ kk ≤ (r ++ [129]).length ∧ (TagsIn l → ByIn (r ++ [129]))) := ⟨by
          rw [List.length_append]; have h1 := HRL.out.1; have h2 := HRL.out.2.1; have h3 := HRL.out.2.2.1
          show r.length + 1 ≤ _ ∧ r.length + 1 ≤ _ ∧ _ ≤ r.length + 1 ∧ _
          exact ⟨by omega, by omega, by omega, fun h => (HRL.out.2.2.2 h).snoc (by decide) (by decide)⟩⟩
        go_meet
        exact ⟨A4, c4, _, rfl, HL4, HO2, B4⟩
      · have g127' : ¬ 127 < yd.length := by omega
        obtain ⟨A4, c4, e⟩ := Kd.R_slice H3.out
        subst e
        have HL4 : Aside0 (r.length ≤ 300 * kk + 3 ∧ r.length ≤ tagsLen (l.take kk) + 3 ∧ kk ≤ r.length ∧ (TagsIn l → ByIn r)) := ⟨by have := HRL.out.1; omega, by have := HRL.out.2.1; omega, by have := HRL.out.2.2.1; omega, HRL.out.2.2.2⟩
        go_wp2_with fail
        go_meet
        exact ⟨A4, c4, _, rfl, HL4, H3, B3⟩
    case rest =>
      obtain ⟨A4, c4, b4, rfl, HL4, HO4, B4⟩ := hcut
      clear H3 B3 HRL h0 h1
      have h0 := (B4.out.cell (World.block_lt_of_cell? w _ H0.out)).trans H0.out
      have h1 := (B4.out.cell (World.block_lt_of_cell? w _ H1.out)).trans H1.out
      go_upto_region 15 with fail

      have BZ := Aside0.mk (below_drew1 B4.out)
      have HZ := Aside0.mk (Kd.R_drew HO4.out)
      clear B4 HO4 h0 h1
      refine start_ (n := 17) (ds := []) (S := fun w' => w'.cell? (ad.add (kk * 2)) = some (.int .i64 yn) ∧ w'.cell? ⟨(ad.add (kk * 2)).block, (ad.add (kk * 2)).off + 1, none⟩ = some (.slice A1 yd.length c1)) (V 17 0) (by rfl) (by rfl) (by kernel_rfl) (⟨(BZ.out.cell (World.block_lt_of_cell? w _ H0.out)).trans H0.out, (BZ.out.cell (World.block_lt_of_cell? w _ H1.out)).trans H1.out⟩) (fun hHeld => ?_); refine with_tabW tab58_15 bits58_15 (fun HT_ HW_ => ?_)
      generalize wc.drew = wd at BZ HZ hHeld ⊢
      refine pure_ (i := 0) (N := some 61) (v := ?_) (a' := ?_) (V 17 1) rfl rfl (any_of HT_.out (by kernel_rfl)) (fun _ _ _ h => h) (Or.inl ⟨by rfl, ?_⟩) ?_ ?_; rotate_left
      · intro w'; go_simp; with_reducible rfl
      rotate_left
      · simp only [Act.put, List.setIfInBounds_toArray, List.set_cons_zero, List.set_cons_succ, i64_w, i32_w]; rfl
      refine pure_ (i := 1) (N := some 62) (v := ?_) (a' := ?_) (V 17 3) rfl rfl (any_of HT_.out (by kernel_rfl)) (fun _ _ _ h => h) (Or.inl ⟨by rfl, ?_⟩) ?_ ?_; rotate_left
      · intro w'; go_simp; with_reducible rfl
      rotate_left
      · simp only [Act.put, List.setIfInBounds_toArray, List.set_cons_zero, List.set_cons_succ, i64_w, i32_w]; rfl
      refine pure_ (i := 2) (N := some 63) (v := ?_) (a' := ?_) (V 17 7) rfl rfl (any_of HT_.out (by kernel_rfl)) (fun _ _ _ h => h) (Or.inl ⟨by rfl, ?_⟩) ?_ ?_; rotate_left
      · intro w'; go_simp; with_reducible rfl
      rotate_left
      · simp only [Act.put, List.setIfInBounds_toArray, List.set_cons_zero, List.set_cons_succ, i64_w, i32_w]; rfl
      refine pure_ (i := 3) (N := some 64) (v := ?_) (a' := ?_) (V 17 15) rfl rfl (any_of HT_.out (by kernel_rfl)) (fun _ _ _ h => h) (Or.inl ⟨by rfl, ?_⟩) ?_ ?_; rotate_left
      · intro w'; go_simp; with_reducible rfl
      rotate_left
      · simp only [Act.put, List.setIfInBounds_toArray, List.set_cons_zero, List.set_cons_succ, i64_w, i32_w]; rfl
      refine pure_ (i := 4) (N := some 65) (v := ?_) (a' := ?_) (V 17 31) rfl rfl (any_of HT_.out (by kernel_rfl)) (fun _ _ _ h => h) (Or.inl ⟨by rfl, ?_⟩) ?_ ?_; rotate_left
      · intro w'; go_simp; with_reducible rfl
      rotate_left
      · simp only [Act.put, List.setIfInBounds_toArray, List.set_cons_zero, List.set_cons_succ, i64_w, i32_w]; rfl
      refine take_ (i := 5) (N := some 66) (v := ?_) (a' := ?_) (V 17 63) rfl rfl (take_ofW HT_.out HW_.out (by kernel_rfl)) (fun _ _ _ h => h) (Or.inl ⟨by rfl, ?_⟩) hHeld ?_ ?_; rotate_left
      · rintro w' ⟨s0, s1⟩; go_simp; with_reducible rfl
      rotate_left
      · simp only [Act.put, List.setIfInBounds_toArray, List.set_cons_zero, List.set_cons_succ, i64_w, i32_w]; rfl
      refine pure_ (i := 6) (N := some 67) (v := ?_) (a' := ?_) (V 17 127) rfl rfl (any_of HT_.out (by kernel_rfl)) (fun _ _ _ h => h) (Or.inl ⟨by rfl, ?_⟩) ?_ ?_; rotate_left
      · intro w'; go_simp; with_reducible rfl
      rotate_left
      · simp only [Act.put, List.setIfInBounds_toArray, List.set_cons_zero, List.set_cons_succ, i64_w, i32_w]; rfl
      refine pure_ (i := 7) (N := some 68) (v := ?_) (a' := ?_) (V 17 255) rfl rfl (any_of HT_.out (by kernel_rfl)) (fun _ _ _ h => h) (Or.inl ⟨by rfl, ?_⟩) ?_ ?_; rotate_left
      · intro w'; go_simp; with_reducible rfl
      rotate_left
      · simp only [Act.put, List.setIfInBounds_toArray, List.set_cons_zero, List.set_cons_succ, i64_w, i32_w]; rfl
      refine pure_ (i := 10) (N := some 71) (v := ?_) (a' := ?_) (V 17 1279) rfl rfl (any_of HT_.out (by kernel_rfl)) (fun _ _ _ h => h) (Or.inl ⟨by rfl, ?_⟩) ?_ ?_; rotate_left
      · intro w'; go_simp; with_reducible rfl
      rotate_left
      · simp only [Act.put, List.setIfInBounds_toArray, List.set_cons_zero, List.set_cons_succ, i64_w, i32_w]; rfl
      refine pure_ (i := 11) (N := some 72) (v := ?_) (a' := ?_) (V 17 3327) rfl rfl (any_of HT_.out (by kernel_rfl)) (fun _ _ _ h => h) (Or.inl ⟨by rfl, ?_⟩) ?_ ?_; rotate_left
      · intro w'; go_simp; with_reducible rfl
      rotate_left
      · simp only [Act.put, List.setIfInBounds_toArray, List.set_cons_zero, List.set_cons_succ, i64_w, i32_w]; rfl
      refine pure_ (i := 12) (N := some 73) (v := ?_) (a' := ?_) (V 17 7423) rfl rfl (any_of HT_.out (by kernel_rfl)) (fun _ _ _ h => h) (Or.inl ⟨by rfl, ?_⟩) ?_ ?_; rotate_left
      · intro w'; go_simp; with_reducible rfl
      rotate_left
      · simp only [Act.put, List.setIfInBounds_toArray, List.set_cons_zero, List.set_cons_succ, i64_w, i32_w]; rfl
      refine pure_ (i := 13) (N := some 74) (v := ?_) (a' := ?_) (V 17 15615) rfl rfl (any_of HT_.out (by kernel_rfl)) (fun _ _ _ h => h) (Or.inl ⟨by rfl, ?_⟩) ?_ ?_; rotate_left
      · intro w'; go_simp; with_reducible rfl
      rotate_left
      · simp only [Act.put, List.setIfInBounds_toArray, List.set_cons_zero, List.set_cons_succ, i64_w, i32_w]; rfl
      refine take_ (i := 14) (N := some 75) (v := ?_) (a' := ?_) (V 17 31999) rfl rfl (take_ofW HT_.out HW_.out (by kernel_rfl)) (fun _ _ _ h => h) (Or.inl ⟨by rfl, ?_⟩) hHeld ?_ ?_; rotate_left
      · rintro w' ⟨s0, s1⟩; go_simp; with_reducible rfl
      rotate_left
      · simp only [Act.put, List.setIfInBounds_toArray, List.set_cons_zero, List.set_cons_succ, i64_w, i32_w]; rfl
      refine one_ (i := 8) (N := some 69) (V 17 32255) rfl rfl (one_of HT_.out (by kernel_rfl)) (by decide) (fun K hK => ?_)
      refine value_ (w1 := ?_) (v := ?_) (by rfl) rfl ?_ ?_; rotate_left 2
      · go_simp
        constructor
        · rfl
        · rfl
      refine hK.out _ _ (⟨((below_alloc BZ.out _).cell (World.block_lt_of_cell? w _ H0.out)).trans H0.out, ((below_alloc BZ.out _).cell (World.block_lt_of_cell? w _ H1.out)).trans H1.out⟩) (fun hHeld => ?_)
      clear hK K
      refine norm_ (a' := ?_) ?_ ?_; rotate_left
      · show Act.put _ (some 69) _ = _; simp only [Act.put, List.setIfInBounds_toArray, List.set_cons_zero, List.set_cons_succ, i64_w, i32_w]; rfl
      refine one_ (i := 9) (N := some 70) (V 17 32767) rfl rfl (one_of HT_.out (by kernel_rfl)) (by decide) (fun K hK => ?_)
      refine Kd.R_append_step (Kd.int .u8) (w0 := w) w.heap.size (by rfl) (.tmp 61) (.tmp 69) 38 5 (.int .u8 0) 1 rfl Tryz.underlying38 info5 rfl (by decide) (by omega) (.slice A4 b4.length c4) b4 ((yd.length : Int) % 256) [.int .u8 ((yd.length : Int) % 256)] (fun _ => True) (fun _ => False) rfl rfl ?aP (fun _ hk => hk.elim) ?aF ?aO ?aB ?aS ?aL ?_
      (case aP => exact rfl)
      (case aB => exact BZ.out)
      (case aF => exact (fun _ _ => trivial))
      (case aO => exact HZ.out)
      (case aS => exact below_size BZ.out)
      (case aL => exact (by have := HL4.out.1; omega))
      intro v5 w5 ho hb hg hat
      have HZ2 := Aside0.mk ho; replace BZ := Aside0.mk hb; clear ho hb hg hat HZ
      refine hK.out _ _ (⟨(BZ.out.cell (World.block_lt_of_cell? w _ H0.out)).trans H0.out, (BZ.out.cell (World.block_lt_of_cell? w _ H1.out)).trans H1.out⟩) (fun hHeld => ?_)
      clear hK K
      refine norm_ (a' := ?_) ?_ ?_; rotate_left
      · show Act.put _ (some 70) _ = _; simp only [Act.put, List.setIfInBounds_toArray, List.set_cons_zero, List.set_cons_succ, i64_w, i32_w]; rfl
      refine one_ (i := 15) (N := some 76) (V 17 65535) rfl rfl (one_of HT_.out (by kernel_rfl)) (by decide) (fun K hK => ?_)
      refine Kd.R_append_rows_step (Kd.int .u8) (w0 := w) w.heap.size (by rfl) (.tmp 70) (.tmp 75) 38 5 (.int .u8 0) 1 rfl Tryz.underlying38 info5 rfl (by decide) (by omega) v5 (b4 ++ [(yd.length : Int) % 256]) yd _ _ _ (fun _ => True) (fun _ => False) rfl rfl ?aO ?aR (fun _ _ h => h) (fun _ h => h.elim) ?aF ?aB ?aS ?aL ?_
      (case aR => exact Kd.C_below HI.out.2 BZ.out)
      (case aB => exact BZ.out)
      (case aF => exact (fun _ _ => trivial))
      (case aO => exact HZ2.out)
      (case aS => exact below_size BZ.out)
      (case aL => exact (by have := HL4.out.1; have := HYD.out; rw [List.length_append]; show (b4.length + 1 + yd.length) * 1 ≤ _; omega))
      intro v6 w6 ho hb hg hat
      have HZ3 := Aside0.mk ho; replace BZ := Aside0.mk hb; clear ho hb hg hat HZ2
      refine hK.out _ _ (⟨(BZ.out.cell (World.block_lt_of_cell? w _ H0.out)).trans H0.out, (BZ.out.cell (World.block_lt_of_cell? w _ H1.out)).trans H1.out⟩) (fun hHeld => ?_)
      clear hK K
      refine norm_ (a' := ?_) ?_ ?_; rotate_left
      · show Act.put _ (some 76) _ = _; simp only [Act.put, List.setIfInBounds_toArray, List.set_cons_zero, List.set_cons_succ, i64_w, i32_w]; rfl
      refine pure_ (i := 16) (N := some 4) (v := ?_) (a' := ?_) (V 17 131071) rfl rfl (any_of HT_.out (by kernel_rfl)) (fun _ _ _ h => h) (Or.inl ⟨by rfl, ?_⟩) ?_ ?_; rotate_left
      · intro w'; go_simp; with_reducible rfl
      rotate_left
      · simp only [Act.put, List.setIfInBounds_toArray, List.set_cons_zero, List.set_cons_succ, i64_w, i32_w]; rfl
      refine done_ (done_of HT_.out (by kernel_rfl)) ?_
      try go_wp2
      have HE : Aside0 ((b4 ++ [(yd.length : Int) % 256] ++ yd).length ≤ 300 * (kk + 1) ∧ (b4 ++ [(yd.length : Int) % 256] ++ yd).length ≤ tagsLen (l.take (kk + 1)) ∧ kk + 1 ≤ (b4 ++ [(yd.length : Int) % 256] ++ yd).length ∧ (TagsIn l → ByIn (b4 ++ [(yd.length : Int) % 256] ++ yd)) ∧ ∀ j : Nat, j < kk + 1 → TagAt l j) := ⟨by
        rw [List.length_append, List.length_append, tagsLen_succ hlt, ← HYQ.out]
        have := HL4.out; have := HYD.out
        show b4.length + 1 + yd.length ≤ _ ∧ b4.length + 1 + yd.length ≤ _ + yd.length + 4 ∧ _ ≤ b4.length + 1 + yd.length ∧ _ ∧ _
        have h1 := this; obtain ⟨q1, q2, q3, q4⟩ := HL4.out
        exact ⟨by omega, by omega, by omega, fun h => ((q4 h).snoc (Int.emod_nonneg _ (by decide)) (Int.emod_lt_of_pos _ (by decide))).app (by have := h kk hlt; rw [← HYQ.out] at this; exact this), HMA.out⟩⟩
      go_roundg (l.length - (kk + 1))
      case measure => omega
      case rel => exact ⟨kk + 1, _, by omega, by omega, by go_num, HE, HZ3, BZ⟩
end Go.Proofs.YthapknnppabdaaaGreat.MQ
