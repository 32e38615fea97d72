/- TimersOrder walked: the walk itself. -/
import Derived.Test.YthjcdjanadeobaaHOrdW
import Derived.Laws.OwnMore
import Derived.Deep.CutBlock
import Derived.Deep.CutRange
namespace Go.Proofs.Ythjcdjanadeobaa.MH
open Go.RowKit Go.Proofs.YthjcdjanadeobaaW.PrintWords Go.Proofs.YthjcdjanadeobaaW.PrintLast Go.Proofs.YthjcdjanadeobaaW.PrintMore Go.Proofs.Ythjcdjanadeobaa.Heap
set_option linter.unusedVariables false
set_option linter.unusedSimpArgs false

theorem made_row {w : World} (n : Nat) (hn : n ≤ 60) : ∃ w', (Instr.makeSlice 26 (.int .i64 (n : Int)) (.int .i64 (n : Int))).run Try.prog w = .ok (.slice (some ⟨w.heap.size, 0, none⟩) n n) w' ∧ RowL w' w.heap.size (List.replicate n 0) ∧ Below w.heap.size w w' := by
  obtain ⟨w', hr, ho, hg⟩ := run_make_full (P := Try.prog) w w.heap.size 26 3 _ (.int .i64 0) 1 Try.underlying26 (by rfl) (by rfl) (by rfl) .i64 .i64 n (by show 8 * n ≤ _; omega) (by unfold Go.maxLen; omega) (Nat.le_refl _)
  refine ⟨w', hr, ?_, ⟨hg.os, hg.tape, hg.output, hg.size, fun b hb => hg.block b hb (by simp)⟩⟩
  rcases ho.2 with ⟨e, _⟩ | ⟨g2, c2, cur, e, _, hgg, _, _, _, ht⟩
  · cases e
  · injection e with e1 _ e2
    injection e1 with e1
    injection e1 with e1
    subst e1
    refine ⟨cur, hgg, fun j hj => ?_⟩
    rw [List.length_replicate] at hj
    have h1 : (madeCells (Value.int .i64 0).cells (n * 1)).toList[j]? = some (.int .i64 0) := by
      rw [Array.getElem?_toList]
      unfold madeCells
      rw [Array.getElem?_map, Array.getElem?_range, if_pos (by omega)]
      have e1 : j % 1 = 0 := Nat.mod_one j
      simp [Value.cells, e1]
    rw [← ht, List.getElem?_take, if_pos (by omega), Array.getElem?_toList] at h1
    rw [h1]
    simp [List.getD_eq_getElem?_getD, List.getElem?_replicate, hj]
set_option maxHeartbeats 8000000 in
set_option maxRecDepth 100000 in
theorem order_walk (A0 : Option Addr) (c0 : Nat) (l0 : List Int) (A1 : Option Addr) (c1 : Nat) (l1 : List Int) (w : World) (h60 : l0.length ≤ 60)
    (hr0 : Kd.C (Kd.int .u64) w A0 l0.length l0) (hc0 : l0.length ≤ c0) (hwf : ∀ x ∈ l0, (Lit.int .u64 x).wf = true) (hr1 : Kd.C (Kd.int .i64) w A1 l1.length l1) (hc1 : l1.length ≤ c1) :
    Calls Try.prog 6 #[.slice A0 l0.length c0, .slice A1 l1.length c1] w fun e w' => e = .returned (.bool true) ∧ Below w.heap.size w w' := by
  have r0 : decide ((l0.length : Int) > 60) = false := decide_eq_false (by omega)
  have HR0 := Aside0.mk hr0
  have HR1 := Aside0.mk hr1
  have HWF := Aside0.mk hwf
  have hl1 := hr1.2.1
  obtain ⟨n, hn⟩ : ∃ n, n = l0.length := ⟨_, rfl⟩
  rw [← hn] at h60 r0 hc0 ⊢
  have HN := Aside0.mk hn
  clear hr0 hr1 hwf hn
  go_enter Try.func6, Try.ntmps6
  go_wp2_with fail
  refine (new7 w).mono ?_
  rintro e w1 ⟨ha, rfl, hp, hf⟩
  have HA1 := Aside0.mk hp
  have HN1 := Aside0.mk (Now.foot hf (S := fun b => w.heap.size ≤ b ∧ b < w1.heap.size) (fun b hb => hb.1))
  clear hp hf
  go_wp2_with fail
  refine (new7 w1).mono ?_
  rintro e w2 ⟨hb, rfl, hp, hf⟩
  have hbel1 : Below w1.heap.size w1 w2 := ⟨hf.1, hf.2.1, hf.2.2.1, hf.2.2.2.1, fun b hb => hf.2.2.2.2 b hb (fun h => h)⟩
  have HA2 := Aside0.mk (HA1.out.still hbel1)
  have HB2 := Aside0.mk hp
  have HN2 := Aside0.mk (HN1.out.below hbel1)
  have HM2 : Aside0 (Now w w2 (fun b => w1.heap.size ≤ b ∧ b < w2.heap.size)) := ⟨⟨HN2.out.bel, fun b hb => Nat.le_trans HN1.out.bel.size hb.1⟩⟩
  have HA := Aside0.mk (awake8 w2)
  clear hp hf hbel1
  go_wp2_with fail
  refine HA.out.mono ?_
  rintro e w3 ⟨rfl, hbel⟩
  obtain ⟨w4, E4, hrow, hbel4⟩ := made_row (w := w3) n h60
  have htw : Tw w w4 ha hb (fun b => w.heap.size ≤ b ∧ b < w1.heap.size) (fun b => w1.heap.size ≤ b ∧ b < w2.heap.size) [] [] w3.heap.size (List.replicate n 0) := by
    have q1 := HN2.out.bel.size
    have q2 := hbel.size
    have q3 := HN1.out.bel.size
    refine ⟨(HA2.out.still hbel).still hbel4, (HB2.out.still hbel).still hbel4, (HN2.out.below hbel).below hbel4, (HM2.out.below hbel).below hbel4, fun x h1 h2 => by omega, hrow, fun h => by have := (HA2.out.still hbel).lt _ h; omega, fun h => by have := (HB2.out.still hbel).lt _ h; omega, by omega⟩
  obtain ⟨g, hg⟩ : ∃ g, g = w3.heap.size := ⟨_, rfl⟩
  rw [← hg] at htw E4
  have HT := Aside0.mk htw
  clear htw hrow hbel4 hbel HA1 HA2 HB2 HN1 HN2 HM2 HA hg
  go_wp2_with fail
  clear E4 r0
  have q0 : (0 : Int) ≤ (n : Int) := by omega
  go_loopg [48] n (fun gg s48 wr => ∃ (i : Nat) (S R : Nat → Prop) (ol : List Nat), s48 = .int .i64 i ∧ i ≤ n ∧ i + gg = n ∧ ol.length = n ∧ Aside0 (∀ j, j < i → ol.getD j 0 = j) ∧ Aside0 (Tw w wr ha hb S R (itemsOf (fun j => l0.getD j 0) (List.range i)) [] g ol))
  case atStart => exact ⟨0, _, _, _, rfl, by omega, by omega, by simp, ⟨fun j hj => by omega⟩, HT⟩
  case round =>
    obtain ⟨i, S, R, ol, rfl, hi, hgg, hol, HO, HTw⟩ := hrel
    by_cases hin : i < n
    · obtain ⟨ad, rfl, hc⟩ := num_at (Kd.C_below HR0.out HTw.out.na.bel) i (by have := HN.out; omega)
      obtain ⟨f1, f2⟩ := HTw.out.row.cell i (by omega)
      have ht2 := HTw.out.set (i := i) (by omega) i
      obtain ⟨ad', e', hc2⟩ := num_at (Kd.C_below HR0.out ht2.na.bel) i (by have := HN.out; omega)
      injection e' with e'
      subst e'
      have hadd := itemsOf_add (fun j => l0.getD j 0) (List.range i) i (by simp)
      rw [← List.range_succ] at hadd
      have h14 := set14 ha S _ _ (i : Int) (l0.getD i 0) ht2.a (lit_nat i (by omega)) (by rw [itemsOf_length, List.length_range]; omega)
      rw [hadd] at h14
      have H14 := Aside0.mk h14
      have HT2 := Aside0.mk ht2
      have HO2 : Aside0 (∀ j, j < i + 1 → (ol.set i i).getD j 0 = j) := ⟨fun j hj => by
        rw [getD_set ol i j i (by omega)]
        by_cases c : j = i
        · rw [if_pos c, c]
        · rw [if_neg c]; exact HO.out j (by omega)⟩
      have hol2 : (ol.set i i).length = n := by rw [List.length_set]; exact hol
      have r1 : (i : Int) < (n : Int) := by omega
      generalize l0.getD i 0 = x at hc hc2 H14
      clear h14 ht2 hadd
      go_wp2_with fail
      refine H14.out.mono ?_
      rintro e w5 ⟨rfl, S5, hp5, ht5⟩
      have HT5 := Aside0.mk (HT2.out.turnA hp5 ht5)
      clear hp5 ht5 hc hc2 f1 f2
      go_wp2_with fail
      go_roundg (n - (i + 1))
      case measure => omega
      case rel => exact ⟨i + 1, S5, R, ol.set i i, rfl, by omega, by omega, hol2, HO2, HT5⟩
    · obtain rfl : n = i := by omega
      obtain rfl := range_of ol n hol HO.out
      have r1 : ¬ (n : Int) < (n : Int) := by omega
      have HTs : Aside0 (∀ ol, ol = List.range n → ol.Perm (List.range n) ∧ ol.length = n) := ⟨fun ol h => by subst h; exact ⟨List.Perm.refl _, List.length_range⟩⟩
      clear HO hol
      go_upto_block 2 with fail
      go_cut [9] from 63 to 107 (fun s9 wc => ∃ (S R : Nat → Prop) (ol : List Nat), ol.length = n ∧ Aside0 (ol.Perm (List.range n)) ∧ Aside0 (Tw w wc ha hb S R (itemsOf (fun j => l0.getD j 0) (List.range n)) [] g ol))
      case first =>
        go_wp2_with fail
        go_loopg [9] 40 (fun gg s9 wr => ∃ (i : Nat) (S R : Nat → Prop) (ol : List Nat), s9 = .int .i64 i ∧ i ≤ 40 ∧ i ≤ l1.length ∧ i + gg = 40 ∧ ol.length = n ∧ Aside0 (ol.Perm (List.range n)) ∧ Aside0 (Tw w wr ha hb S R (itemsOf (fun j => l0.getD j 0) (List.range n)) [] g ol))
        case atStart => exact ⟨0, S, R, List.range n, rfl, by omega, by omega, by omega, List.length_range, ⟨List.Perm.refl _⟩, HTw⟩
        case round =>
          obtain ⟨i, S, R, ol, rfl, hi, hi1, hgg, hol, HPm, HTw⟩ := hrel
          by_cases hgo : i < l1.length ∧ i < 40 ∧ 0 < n
          · obtain ⟨ad1, rfl, hc⟩ := num_at (Kd.C_below HR1.out HTw.out.na.bel) i hgo.1
            have r1 : (i : Int) < (l1.length : Int) := by have := hgo.1; omega
            have r2 : (i : Int) < 40 := by have := hgo.2.1; omega
            have r3 : (0 : Int) < (n : Int) := by have := hgo.2.2; omega
            have h0n := hgo.2.2
            generalize l1.getD i 0 = x at hc
            obtain ⟨kk, hkk, hkn⟩ : ∃ kk : Nat, wrap64 ((IntKind.u64.wrap x).tmod (n : Int)) = (kk : Int) ∧ kk < n := by
              have h1 : 0 ≤ IntKind.u64.wrap x := by
                have e : IntKind.u64.wrap x = x % 18446744073709551616 := by simp [IntKind.wrap, IntKind.bits, IntKind.signed]
                rw [e]; omega
              rw [Int.tmod_eq_emod_of_nonneg h1]
              have h2 := Int.emod_nonneg (IntKind.u64.wrap x) (b := (n : Int)) (by omega)
              have h3 := Int.emod_lt_of_pos (IntKind.u64.wrap x) (b := (n : Int)) (by omega)
              exact ⟨(IntKind.u64.wrap x % (n : Int)).toNat, by rw [w64_in _ ⟨by omega, by omega⟩]; omega, by omega⟩
            obtain ⟨ii, hii, hin⟩ : ∃ ii : Nat, Int.tmod (i : Int) (n : Int) = (ii : Int) ∧ ii < n := by
              have h3 := Nat.mod_lt i h0n
              exact ⟨i % n, by rw [Int.tmod_eq_emod_of_nonneg (by omega)]; omega, h3⟩
            have s1 : (kk : Int) < (n : Int) := by omega
            have s2 : (ii : Int) < (n : Int) := by omega
            obtain ⟨f1, f2⟩ := HTw.out.row.cell ii (by omega)
            obtain ⟨f3, f4⟩ := HTw.out.row.cell kk (by omega)
            have ht2 := (HTw.out.set (i := ii) (by omega) (ol.getD kk 0)).set (i := kk) (by rw [List.length_set]; omega) (ol.getD ii 0)
            have hpm := (swap_perm_nat ol ii kk (by omega) (by omega)).trans HPm.out
            have hol2 : ((ol.set ii (ol.getD kk 0)).set kk (ol.getD ii 0)).length = n := by rw [List.length_set, List.length_set]; exact hol
            generalize hy : ol.getD ii 0 = y at f1 ht2 hpm hol2
            generalize hz : ol.getD kk 0 = z at f3 ht2 hpm hol2
            generalize (ol.set ii z).set kk y = ol2 at ht2 hpm hol2
            have HT2 := Aside0.mk ht2
            have HP2 := Aside0.mk hpm
            have HX := Aside0.mk (And.intro hgg (And.intro hgo hol2))
            by_cases c : ii = kk
            · subst c
              have hyz : z = y := by rw [← hz, hy]
              subst hyz
              clear hpm ht2 hy hz hgo hgg hol hol2
              go_wp2_with fail
              go_region
              go_wp2
              obtain ⟨x1, x2, x3⟩ := HX.out
              go_roundg (40 - (i + 1))
              case measure => omega
              case rel => exact ⟨i + 1, S, R, ol2, rfl, by omega, by omega, by omega, x3, HP2, ⟨HT2.out.below (below_drew1 (Below.refl _ _))⟩⟩
            · have c' : kk ≠ ii := fun e => c e.symm
              clear hpm ht2 hy hz hgo hgg hol hol2
              go_wp2_with fail
              go_region
              go_wp2
              obtain ⟨x1, x2, x3⟩ := HX.out
              go_roundg (40 - (i + 1))
              case measure => omega
              case rel => exact ⟨i + 1, S, R, ol2, rfl, by omega, by omega, by omega, x3, HP2, ⟨HT2.out.below (below_drew1 (Below.refl _ _))⟩⟩
          · have hout : ¬ ((i : Int) < (l1.length : Int) ∧ (i : Int) < 40 ∧ (0 : Int) < (n : Int)) := fun h => hgo ⟨by omega, by omega, by omega⟩
            by_cases e1 : i < l1.length
            · have r1 : (i : Int) < (l1.length : Int) := by omega
              by_cases e2 : i < 40
              · have e3 : n = 0 := by omega
                subst e3
                have r2 : (i : Int) < 40 := by omega
                clear hout
                go_wp2_with fail
                go_meet
                case rel => exact ⟨S, R, ol, hol, HPm, HTw⟩
              · have r2 : ¬ (i : Int) < 40 := by omega
                clear hout
                go_wp2_with fail
                go_meet
                case rel => exact ⟨S, R, ol, hol, HPm, HTw⟩
            · have r1 : ¬ (i : Int) < (l1.length : Int) := by omega
              clear hout
              go_wp2_with fail
              go_meet
              case rel => exact ⟨S, R, ol, hol, HPm, HTw⟩
      case rest =>
        obtain ⟨S', R', ol, hol, HPm, HTw'⟩ := hcut
        have HOL : Aside0 (ol.Nodup ∧ ∀ o ∈ ol, o < n) := ⟨HPm.out.symm.nodup List.nodup_range, fun o ho => List.mem_range.1 (HPm.out.mem_iff.1 ho)⟩
        have hstart : Aside0 (Tw w wc ha hb S' R' (itemsOf (fun j => l0.getD j 0) (List.range n)) (itemsOf (fun j => l0.getD j 0) (ol.take 0)) g ol) := HTw'
        clear HTw HTs r1 HTw'
        go_wp2_with fail
        go_loopg [11] n (fun gg s11 wr => ∃ (i : Nat) (S R : Nat → Prop), s11 = .int .i64 i ∧ i ≤ n ∧ i + gg = n ∧ Aside0 (Tw w wr ha hb S R (itemsOf (fun j => l0.getD j 0) (List.range n)) (itemsOf (fun j => l0.getD j 0) (ol.take i)) g ol))
        case atStart => exact ⟨0, S', R', rfl, by omega, by omega, hstart⟩
        case round =>
          obtain ⟨i, S, R, rfl, hi, hgg, HTw⟩ := hrel
          by_cases hin : i < n
          · obtain ⟨f1, f2⟩ := HTw.out.row.cell i (by omega)
            have hoi : ol[i]'(by omega) ∈ ol := List.getElem_mem (by omega)
            have hgd : ol.getD i 0 = ol[i]'(by omega) := by rw [List.getD_eq_getElem?_getD, List.getElem?_eq_getElem (by omega)]; rfl
            have hon : ol.getD i 0 < n := by rw [hgd]; exact HOL.out.2 _ hoi
            have htake : ol.take i ++ [ol.getD i 0] = ol.take (i + 1) := by rw [hgd, List.take_append_getElem]
            have hnot : ol.getD i 0 ∉ ol.take i := by
              have hnd : (ol.take i ++ [ol.getD i 0]).Nodup := by
                rw [htake]
                exact HOL.out.1.sublist (List.take_sublist _ _)
              rw [List.nodup_append] at hnd
              exact fun h => hnd.2.2 _ h _ (by simp) rfl
            obtain ⟨ad, rfl, hc⟩ := num_at (Kd.C_below HR0.out HTw.out.na.bel) (ol.getD i 0) (by have := HN.out; omega)
            have hadd := itemsOf_add (fun j => l0.getD j 0) (ol.take i) (ol.getD i 0) hnot
            rw [htake] at hadd
            have ht2 := HTw.out.below (below_drew1 (Below.refl wr.heap.size wr))
            have h14 := set14 hb R _ _ ((ol.getD i 0 : Nat) : Int) (l0.getD (ol.getD i 0) 0) ht2.b (lit_nat _ (by omega)) (by rw [itemsOf_length, List.length_take]; omega)
            rw [hadd] at h14
            have H14 := Aside0.mk h14
            have HT2 := Aside0.mk ht2
            have r1 : (i : Int) < (n : Int) := by omega
            have r2 : ((ol.getD i 0 : Nat) : Int) < (n : Int) := by omega
            generalize l0.getD (ol.getD i 0) 0 = x at hc H14
            generalize ol.getD i 0 = o at f1 hc H14 r2 hon
            clear h14 ht2 hadd hoi hgd htake hnot
            go_wp2_with fail
            go_still_tail 12, (by kernel_rfl)
            change wpList _ _ _ _ _ wr.drew
            clear f1 f2 hc
            go_wp2_with fail
            refine H14.out.mono ?_
            rintro e w5 ⟨rfl, S5, hp5, ht5⟩
            have HT5 := Aside0.mk (HT2.out.turnB hp5 ht5)
            clear hp5 ht5
            go_wp2_with fail
            go_roundg (n - (i + 1))
            case measure => omega
            case rel => exact ⟨i + 1, S, S5, rfl, by omega, by omega, HT5⟩
          · obtain rfl : n = i := by omega
            have htn : ol.take n = ol := List.take_of_length_le (by omega)
            have HT6 : Aside0 (Tw w wr ha hb S R (itemsOf (fun j => l0.getD j 0) (List.range n)) (itemsOf (fun j => l0.getD j 0) (List.range n)) g ol) := ⟨by
              have := HTw.out
              rw [htn] at this
              exact this.permB (itemsOf_perm _ HPm.out)⟩
            have HSub : Aside0 (∀ x ∈ itemsOf (fun j => l0.getD j 0) (List.range n), (∃ j : Nat, j < n ∧ x.1 = (j : Int)) ∧ ((0 : Int) < x.2 ∨ ((0 : Int) = x.2 ∧ (-1 : Int) < x.1))) := ⟨fun x hx => by
              obtain ⟨j, hj, rfl⟩ := List.mem_map.1 hx
              have hjn := List.mem_range.1 hj
              have hlen := HN.out
              have hg : l0.getD j 0 = l0[j]'(by omega) := by rw [List.getD_eq_getElem?_getD, List.getElem?_eq_getElem (by omega)]; rfl
              have hw := HWF.out (l0[j]'(by omega)) (List.getElem_mem (by omega))
              rw [← hg] at hw
              have h0 : 0 ≤ l0.getD j 0 := by
                have e1 : IntKind.u64.min = 0 := by decide
                simp [Lit.wf, e1] at hw
                exact hw.1
              refine ⟨⟨j, hjn, rfl⟩, ?_⟩
              simp only
              omega⟩
            have hmlen : (itemsOf (fun j => l0.getD j 0) (List.range n)).length = n := by rw [itemsOf_length, List.length_range]
            generalize itemsOf (fun j => l0.getD j 0) (List.range n) = mm at HT6 HSub hmlen
            have r1 : ¬ (n : Int) < (n : Int) := by omega
            clear HTw hstart htn
            go_wp2_with fail
            go_loopg [12, 13, 14] n (fun gg s12 s13 s14 wr => ∃ (i : Nat) (S R : Nat → Prop) (m : List Heap.Item) (last ta : Int), s12 = .int .i64 last ∧ s13 = .int .u64 ta ∧ s14 = .int .i64 i ∧ i ≤ n ∧ i + gg = n ∧ m.length = gg ∧ Aside0 (Tw w wr ha hb S R m m g ol) ∧ Aside0 (∀ x ∈ m, (∃ j : Nat, j < n ∧ x.1 = (j : Int)) ∧ (ta < x.2 ∨ (ta = x.2 ∧ last < x.1))))
            case atStart => exact ⟨0, S, R, mm, -1, 0, rfl, rfl, rfl, by omega, by omega, hmlen, HT6, HSub⟩
            case round =>
              obtain ⟨i, S, R, m, last, ta, rfl, rfl, rfl, hi, hgg, hml, HT, HS⟩ := hrel
              by_cases hin : i < n
              · have hne : m ≠ [] := by rintro rfl; simp at hml; omega
                obtain ⟨x, hx⟩ : ∃ x, soonest m = some x := by
                  cases hq : soonest m with
                  | none => exact absurd ((soonest_none m).1 hq) hne
                  | some x => exact ⟨x, rfl⟩
                obtain ⟨hxm, hleast⟩ := soonest_spec m x hx
                obtain ⟨⟨j, hj, hxj⟩, hcase⟩ := HS.out x hxm
                obtain ⟨x1, y⟩ := x
                simp only at hxj hcase
                subst hxj
                obtain ⟨k', hk'⟩ : ∃ k', gk = k' + 1 := ⟨gk - 1, by omega⟩
                have h16 := next16 ha S m wr HT.out.a
                have hnv := nextVal_some hx
                rw [hnv] at h16
                have H16 := Aside0.mk h16
                have HNV := Aside0.mk hnv
                have hwl := without_length HT.out.a.uniq hxm
                have hhas : has m (j : Int) = true := (has_iff m _).2 ⟨_, hxm, rfl⟩
                have HWL : Aside0 ((without m (j : Int)).length = k') := ⟨by simp only at hwl; omega⟩
                have HHS := Aside0.mk hhas
                have HS2 : Aside0 (∀ z ∈ without m (j : Int), (∃ q : Nat, q < n ∧ z.1 = (q : Int)) ∧ (y < z.2 ∨ (y = z.2 ∧ (j : Int) < z.1))) := ⟨fun z hz => by
                  obtain ⟨hz1, hz2⟩ := (mem_without m _ z).1 hz
                  refine ⟨(HS.out z hz1).1, ?_⟩
                  have := hleast z hz1
                  rw [nless_iff] at this
                  simp only at this
                  omega⟩
                have HK' := Aside0.mk (And.intro hk' (And.intro hgg hi))
                have r2 : (i : Int) < (n : Int) := by omega
                clear hnv hleast hk'
                rcases hcase with hcase | ⟨hcase, hcase2⟩
                · have q1 : decide (y < ta) = false := decide_eq_false (by omega)
                  have q2 : (y == ta) = false := beq_eq_false_iff_ne.2 (by omega)
                  clear hx hxm h16 hwl hhas hne HSub HT6 hmlen hml hcase
                  go_wp2_with fail
                  refine H16.out.mono ?_
                  rintro e w5 ⟨rfl, hbel5⟩
                  have HT5 := Aside0.mk (HT.out.below hbel5)
                  have h17 := next16 hb R m w5 HT5.out.b
                  rw [HNV.out] at h17
                  have H17 := Aside0.mk h17
                  clear hbel5 h17
                  go_wp2_with fail
                  refine H17.out.mono ?_
                  rintro e w6 ⟨rfl, hbel6⟩
                  have HT6' := Aside0.mk (HT5.out.below hbel6)
                  have h9 := drop9 ha S m w6 (j : Int) HT6'.out.a (lit_nat j (by omega))
                  rw [HHS.out] at h9
                  have H9 := Aside0.mk h9
                  clear hbel6 h9
                  go_upto_region 26 with fail
                  try simp only [List.append_eq, List.cons_append, List.nil_append]
                  go_wp2_with fail
                  refine H9.out.mono ?_
                  rintro e w7 ⟨rfl, S7, hp7, ht7⟩
                  have HT7 := Aside0.mk (HT6'.out.turnA hp7 ht7)
                  have h92 := drop9 hb R m w7 (j : Int) HT7.out.b (lit_nat j (by omega))
                  rw [HHS.out] at h92
                  have H92 := Aside0.mk h92
                  clear hp7 ht7 h92
                  go_wp2_with fail
                  refine H92.out.mono ?_
                  rintro e w8 ⟨rfl, S8, hp8, ht8⟩
                  have HT8 := Aside0.mk (HT7.out.turnB hp8 ht8)
                  clear hp8 ht8
                  go_wp2_with fail
                  have hkk := HK'.out
                  go_roundg k'
                  case measure => omega
                  case rel => exact ⟨i + 1, S7, S8, _, (j : Int), y, rfl, rfl, rfl, by omega, by omega, HWL.out, HT8, HS2⟩
                · subst hcase
                  have q1 : decide ((j : Int) ≤ last) = false := decide_eq_false (by omega)
                  clear hx hxm h16 hwl hhas hne HSub HT6 hmlen hml hcase2
                  go_wp2_with fail
                  refine H16.out.mono ?_
                  rintro e w5 ⟨rfl, hbel5⟩
                  have HT5 := Aside0.mk (HT.out.below hbel5)
                  have h17 := next16 hb R m w5 HT5.out.b
                  rw [HNV.out] at h17
                  have H17 := Aside0.mk h17
                  clear hbel5 h17
                  go_wp2_with fail
                  refine H17.out.mono ?_
                  rintro e w6 ⟨rfl, hbel6⟩
                  have HT6' := Aside0.mk (HT5.out.below hbel6)
                  have h9 := drop9 ha S m w6 (j : Int) HT6'.out.a (lit_nat j (by omega))
                  rw [HHS.out] at h9
                  have H9 := Aside0.mk h9
                  clear hbel6 h9
                  go_upto_region 26 with fail
                  try simp only [List.append_eq, List.cons_append, List.nil_append]
                  go_wp2_with fail
                  refine H9.out.mono ?_
                  rintro e w7 ⟨rfl, S7, hp7, ht7⟩
                  have HT7 := Aside0.mk (HT6'.out.turnA hp7 ht7)
                  have h92 := drop9 hb R m w7 (j : Int) HT7.out.b (lit_nat j (by omega))
                  rw [HHS.out] at h92
                  have H92 := Aside0.mk h92
                  clear hp7 ht7 h92
                  go_wp2_with fail
                  refine H92.out.mono ?_
                  rintro e w8 ⟨rfl, S8, hp8, ht8⟩
                  have HT8 := Aside0.mk (HT7.out.turnB hp8 ht8)
                  clear hp8 ht8
                  go_wp2_with fail
                  have hkk := HK'.out
                  go_roundg k'
                  case measure => omega
                  case rel => exact ⟨i + 1, S7, S8, _, (j : Int), ta, rfl, rfl, rfl, by omega, by omega, HWL.out, HT8, HS2⟩
              · obtain rfl : n = i := by omega
                obtain rfl : m = [] := List.eq_nil_of_length_eq_zero (by omega)
                have HL1 := Aside0.mk (len18 ha S [] wr HT.out.a)
                have HL2 := Aside0.mk (len18 hb R [] wr HT.out.b)
                simp only [List.length_nil, Int.natCast_zero] at HL1 HL2
                clear HSub HT6 hmlen
                go_wp2_with fail
                refine HL1.out.mono ?_
                rintro e w5 ⟨rfl, hw5⟩
                rw [hw5]
                go_wp2_with fail
                refine HL2.out.mono ?_
                rintro e w6 ⟨rfl, hw6⟩
                rw [hw6]
                go_wp2_with fail
                go_ret
                exact ⟨rfl, HT.out.na.bel⟩
theorem order_all (A0 : Option Addr) (c0 : Nat) (l0 : List Int) (A1 : Option Addr) (c1 : Nat) (l1 : List Int) (w : World)
    (hr0 : Kd.C (Kd.int .u64) w A0 l0.length l0) (hc0 : l0.length ≤ c0) (h : l0.length ≤ maxLen ∧ l0.length * 8 ≤ 140737488351232 ∧ ∀ x ∈ l0, (fun x : Int => (Lit.int .u64 x).wf = true) x)
    (hr1 : Kd.C (Kd.int .i64) w A1 l1.length l1) (hc1 : l1.length ≤ c1) (_ : l1.length ≤ maxLen ∧ l1.length * 8 ≤ 140737488351232 ∧ ∀ x ∈ l1, (fun x : Int => (Lit.int .i64 x).wf = true) x) :
    Calls Try.prog 6 #[.slice A0 l0.length c0, .slice A1 l1.length c1] w fun e w' => e = .returned (.bool true) ∧ Below w.heap.size w w' := by
  by_cases c : l0.length ≤ 60
  · exact order_walk A0 c0 l0 A1 c1 l1 w c hr0 hc0 h.2.2 hr1 hc1
  · exact order_gone A0 c0 l0.length A1 c1 l1.length w (by omega) hr0.2.1
end Go.Proofs.Ythjcdjanadeobaa.MH
