/- TimersDue walked: each is due once, by when, then by id; what is due later stays. -/
import Derived.Test.YthjcdjanadeobaaHOrdW
import Derived.Test.YthjcdjanadeobaaHDueP
import Derived.Test.YthjcdjanadeobaaHRefDue
import Derived.Deep.CutBlock
import Derived.Deep.CutRange
namespace Go.Proofs.Ythjcdjanadeobaa.MH
open Go.RowKit Go.Proofs.YthjcdjanadeobaaW.PrintWords Go.Proofs.YthjcdjanadeobaaW.PrintLast Go.Proofs.YthjcdjanadeobaaW.PrintMore Go.Proofs.Ythjcdjanadeobaa.Heap
set_option linter.unusedVariables false
set_option linter.unusedSimpArgs false

/-- How many of the first i are due. -/
def dueCnt (V : Nat → Int) (now : Int) (i : Nat) : Nat := (List.range i).countP (fun j => decide (V j ≤ now))
theorem dueCnt_le (V : Nat → Int) (now : Int) (i : Nat) : dueCnt V now i ≤ i := by
  unfold dueCnt
  refine Nat.le_trans List.countP_le_length ?_
  rw [List.length_range]; exact Nat.le_refl _
theorem dueCnt_yes (V : Nat → Int) (now : Int) (i : Nat) (h : V i ≤ now) : dueCnt V now (i + 1) = dueCnt V now i + 1 := by
  unfold dueCnt
  rw [List.range_succ, List.countP_append]
  simp [h]
theorem dueCnt_no (V : Nat → Int) (now : Int) (i : Nat) (h : ¬ V i ≤ now) : dueCnt V now (i + 1) = dueCnt V now i := by
  unfold dueCnt
  rw [List.range_succ, List.countP_append]
  simp [h]
theorem items_count (V : Nat → Int) (now : Int) (n : Nat) : (itemsOf V (List.range n)).countP (fun x => decide (x.2 ≤ now)) = dueCnt V now n := by
  unfold itemsOf dueCnt
  rw [List.countP_map]
  rfl
/-- Set to something else first. -/
theorem items_twice (V : Nat → Int) (i : Nat) (h : Int) : without (itemsOf V (List.range i) ++ [((i : Int), h)]) (i : Int) ++ [((i : Int), V i)] = itemsOf V (List.range (i + 1)) := by
  have e1 := itemsOf_add V (List.range i) i (by simp)
  have e2 : without (itemsOf V (List.range i)) (i : Int) = itemsOf V (List.range i) := without_none (fun x hx ex => by
    obtain ⟨j, hj, rfl⟩ := List.mem_map.1 hx
    have := List.mem_range.1 hj
    simp only at ex
    omega)
  rw [without_append, e2]
  have e3 : without [((i : Int), h)] (i : Int) = [] := by simp [without]
  rw [e3, List.append_nil, List.range_succ]
  simp [itemsOf]
theorem items_once (V : Nat → Int) (i : Nat) (h : Int) : without (itemsOf V (List.range i)) (i : Int) ++ [((i : Int), h)] = itemsOf V (List.range i) ++ [((i : Int), h)] := by
  have e2 : without (itemsOf V (List.range i)) (i : Int) = itemsOf V (List.range i) := without_none (fun x hx ex => by
    obtain ⟨j, hj, rfl⟩ := List.mem_map.1 hx
    have := List.mem_range.1 hj
    simp only at ex
    omega)
  rw [e2]
/-- What is due, number by number. -/
structure DueIs (V : Nat → Int) (n : Nat) (now : Int) (D : List Int) : Prop where
  one : ∀ i, i < D.length → ∃ q : Nat, q < n ∧ D.getD i 0 = (q : Int) ∧ V q ≤ now
  two : ∀ i, i + 1 < D.length → ∃ p q : Nat, p < n ∧ q < n ∧ D.getD i 0 = (p : Int) ∧ D.getD (i + 1) 0 = (q : Int) ∧ (V p < V q ∨ (V p = V q ∧ p < q))
theorem dueIs (V : Nat → Int) (n : Nat) (now : Int) (f : Nat) : DueIs V n now (dueOf f (itemsOf V (List.range n)) now) := by
  have hlen : (dueOf f (itemsOf V (List.range n)) now).length = (dueItems f (itemsOf V (List.range n)) now).length := by rw [dueItems_fst, List.length_map]
  have hget : ∀ i (h : i < (dueItems f (itemsOf V (List.range n)) now).length), ∃ q : Nat, q < n ∧ (dueItems f (itemsOf V (List.range n)) now)[i] = ((q : Int), V q) ∧ (dueOf f (itemsOf V (List.range n)) now).getD i 0 = (q : Int) ∧ V q ≤ now := by
    intro i h
    obtain ⟨a, b⟩ := dueItems_mem f (itemsOf V (List.range n)) now _ (List.getElem_mem h)
    obtain ⟨q, hq, e⟩ := List.mem_map.1 a
    refine ⟨q, List.mem_range.1 hq, e.symm, ?_, ?_⟩
    · rw [dueItems_fst, List.getD_eq_getElem?_getD, List.getElem?_map, List.getElem?_eq_getElem h, ← e]; rfl
    · rw [← e] at b; exact b
  refine ⟨fun i hi => ?_, fun i hi => ?_⟩
  · rw [hlen] at hi
    obtain ⟨q, a, _, b, c⟩ := hget i hi
    exact ⟨q, a, b, c⟩
  · rw [hlen] at hi
    obtain ⟨p, a1, b1, c1, d1⟩ := hget i (by omega)
    obtain ⟨q, a2, b2, c2, d2⟩ := hget (i + 1) hi
    refine ⟨p, q, a1, a2, c1, c2, ?_⟩
    have := List.pairwise_iff_getElem.1 (dueItems_sorted f (itemsOf V (List.range n)) now) i (i + 1) (by omega) hi (by omega)
    rw [b1, b2, less_iff] at this
    simp only at this
    omega
set_option maxHeartbeats 8000000 in
set_option maxRecDepth 100000 in
theorem due_walk (A0 : Option Addr) (c0 : Nat) (l0 : List Int) (now : Int) (w : World)
    (hr0 : Kd.C (Kd.int .u64) w A0 l0.length l0) (hc0 : l0.length ≤ c0) (hwf : ∀ x ∈ l0, (Lit.int .u64 x).wf = true) :
    Calls Try.prog 4 #[.slice A0 l0.length c0, .int .u64 now] w fun e w' => e = .returned (.bool true) ∧ Below w.heap.size w w' := by
  obtain ⟨n, hn⟩ : ∃ n, n = min l0.length 200 := ⟨_, rfl⟩
  have hnl : n ≤ l0.length := by omega
  have hn200 : n ≤ 200 := by omega
  have HR0 := Aside0.mk hr0
  have HWF := Aside0.mk hwf
  have hl0 := hr0.2.1
  clear hr0 hwf
  go_enter Try.func4, Try.ntmps4
  go_wp2_with fail
  refine (new7 w).mono ?_
  rintro e w1 ⟨hb, rfl, hp, hf⟩
  have HP1 := Aside0.mk hp
  have HN1 := Aside0.mk (Now.foot hf (S := fun b => w.heap.size ≤ b ∧ b < w1.heap.size) (fun b hb => hb.1))
  have HA := Aside0.mk (awake8 w1)
  clear hp hf
  go_wp2_with fail
  refine HA.out.mono ?_
  rintro e w2 ⟨rfl, hbel⟩
  have HP2 := Aside0.mk (HP1.out.still hbel)
  have HN2 := Aside0.mk (HN1.out.below hbel)
  clear hbel HP1 HN1 HA
  go_upto_region 4 with fail
  go_cut [6, 7] from 22 to 24 (fun s6 s7 wc => s6 = .int .i64 n ∧ s7 = .int .i64 0 ∧ wc = w2)
  case first =>
    go_wp2
    all_goals go_meet
    all_goals (case rel => exact ⟨by congr 1; omega, rfl, rfl⟩)
  case rest =>
    obtain ⟨rfl, rfl, hw⟩ := hcut
    rw [hw]
    clear hw wc
    have HNN := Aside0.mk hn
    clear hn
    go_wp2_with fail
    go_loopg [7, 8] n (fun gg s7 s8 wr => ∃ (i k : Nat) (S : Nat → Prop), s8 = .int .i64 i ∧ s7 = .int .i64 k ∧ i ≤ n ∧ i + gg = n ∧ k ≤ i ∧ Aside0 (k = dueCnt (fun j => l0.getD j 0) now i) ∧ Aside0 (Hp wr hb S (itemsOf (fun j => l0.getD j 0) (List.range i)) ∧ Now w wr S))
    case atStart => exact ⟨0, 0, _, rfl, rfl, by omega, by omega, by omega, ⟨rfl⟩, ⟨HP2.out, HN2.out⟩⟩
    case round =>
      obtain ⟨i, k, S, rfl, rfl, hi, hgg, hki, HK, HG⟩ := hrel
      by_cases hin : i < n
      · obtain ⟨ad, rfl, hc⟩ := num_at (Kd.C_below HR0.out HG.out.2.bel) i (by omega)
        have r1 : (i : Int) < (n : Int) := by omega
        have r2 : (i : Int) < (l0.length : Int) := by omega
        have h14 := fun h => set14 hb S _ _ (i : Int) h HG.out.1 (lit_nat i (by omega)) (by rw [itemsOf_length, List.length_range]; omega)
        simp only [items_once] at h14
        have H14 := Aside0.mk h14
        have HX := Aside0.mk (And.intro hin (And.intro hgg (And.intro hki hnl)))
        clear h14
        have HV : Aside0 (∀ h, without (itemsOf (fun j => l0.getD j 0) (List.range i) ++ [((i : Int), h)]) (i : Int) ++ [((i : Int), l0.getD i 0)] = itemsOf (fun j => l0.getD j 0) (List.range (i + 1))) := ⟨fun h => items_twice (fun j => l0.getD j 0) i h⟩
        have HC2 : Aside0 (∀ wr', Now w wr' S → True) := ⟨fun _ _ => trivial⟩
        have HCell : Aside0 (∀ (w' : World), Below w.heap.size w w' → w'.cell? (ad.add i) = some (.int .u64 (l0.getD i 0))) := ⟨fun w' hb' => by
          obtain ⟨ad', e', hc'⟩ := num_at (Kd.C_below HR0.out hb') i (by omega)
          injection e' with e'
          subst e'
          exact hc'⟩
        have HCnt : Aside0 ((l0.getD i 0 ≤ now → k + 1 = dueCnt (fun j => l0.getD j 0) now (i + 1)) ∧ (¬ l0.getD i 0 ≤ now → k = dueCnt (fun j => l0.getD j 0) now (i + 1))) := ⟨fun h => by rw [dueCnt_yes (fun j => l0.getD j 0) now i h, HK.out], fun h => by rw [dueCnt_no (fun j => l0.getD j 0) now i h, HK.out]⟩
        generalize l0.getD i 0 = x at hc HV HCell HCnt
        go_wp2_with fail
        refine (H14.out _).mono ?_
        rintro e w5 ⟨rfl, S5, hp5, ht5⟩
        have HN5 := Aside0.mk (HG.out.2.turn ht5)
        have h15 := set14 hb S5 _ _ (i : Int) x hp5 (lit_nat i (by omega)) (by rw [List.length_append, itemsOf_length, List.length_range]; simp; omega)
        rw [HV.out] at h15
        have H15 := Aside0.mk h15
        have hc5 := HCell.out w5 HN5.out.bel
        clear hp5 ht5 hc h15
        go_wp2_with fail
        refine H15.out.mono ?_
        rintro e w6 ⟨rfl, S6, hp6, ht6⟩
        have HN6 := Aside0.mk (HN5.out.turn ht6)
        have HP6 := Aside0.mk hp6
        have hc6 := HCell.out w6 HN6.out.bel
        clear hp6 ht6 hc5
        have hkb : k ≤ 1000 := by omega
        by_cases hle : x ≤ now
        · have HC3 := Aside0.mk (HCnt.out.1 hle)
          go_wp2_with fail
          have := HX.out
          go_roundg (n - (i + 1))
          case measure => omega
          case rel => exact ⟨i + 1, k + 1, S6, rfl, rfl, by omega, by omega, by omega, HC3, ⟨HP6.out, HN6.out⟩⟩
        · have HC3 := Aside0.mk (HCnt.out.2 (by omega))
          go_wp2_with fail
          have := HX.out
          go_roundg (n - (i + 1))
          case measure => omega
          case rel => exact ⟨i + 1, k, S6, rfl, rfl, by omega, by omega, by omega, HC3, ⟨HP6.out, HN6.out⟩⟩
      · obtain rfl : n = i := by omega
        have r1 : ¬ (n : Int) < (n : Int) := by omega
        have huq := HG.out.1.uniq
        have hml : (itemsOf (fun j => l0.getD j 0) (List.range n)).length = n := by rw [itemsOf_length, List.length_range]
        obtain ⟨hd1, hd2⟩ := due_count n _ now huq (by omega)
        rw [items_count, ← HK.out] at hd1 hd2
        rw [hml] at hd2
        have h12 := due12 hb S _ now wr HG.out.1
        rw [hml] at h12
        have hDI := dueIs (fun j => l0.getD j 0) n now n
        have hsub := dueRest_sub n (itemsOf (fun j => l0.getD j 0) (List.range n)) now
        have hmax : ∀ x ∈ dueRest n (itemsOf (fun j => l0.getD j 0) (List.range n)) now, x.2 ≤ 18446744073709551615 := fun x hx => by
          obtain ⟨j, hj, rfl⟩ := List.mem_map.1 (hsub x hx)
          have hjn := List.mem_range.1 hj
          have hg : l0.getD j 0 = l0[j]'(by omega) := by rw [List.getD_eq_getElem?_getD, List.getElem?_eq_getElem (by omega)]; rfl
          have hw := HWF.out (l0[j]'(by omega)) (List.getElem_mem (by omega))
          rw [← hg] at hw
          have e1 : IntKind.u64.max = 18446744073709551615 := by decide
          simp [Lit.wf, e1] at hw
          exact hw.2
        have huR := dueRest_uniq n now huq
        generalize dueOf n (itemsOf (fun j => l0.getD j 0) (List.range n)) now = D at hd1 h12 hDI
        generalize dueRest n (itemsOf (fun j => l0.getD j 0) (List.range n)) now = R at hd2 h12 hmax huR
        have H12 := Aside0.mk h12
        have HDI := Aside0.mk hDI
        have HMx := Aside0.mk (And.intro hmax (And.intro huR (And.intro hd1 hd2)))
        clear h12 hDI hsub hmax huR huq hml hd1 hd2 hki hgg
        go_wp2_with fail
        refine H12.out.mono ?_
        rintro e w5 ⟨v, rfl, ho, S5, hp5, ht5, hn5⟩
        have HN5 := Aside0.mk (HG.out.2.turn ht5)
        have HP5 := Aside0.mk hp5
        obtain ⟨A, c, rfl, hcc, hC⟩ := own_C ho (by have := HMx.out; have := dueCnt_le (fun j => l0.getD j 0) now n; have := HK.out; omega)
        have hdk := HMx.out.2.2.1
        rw [hdk] at hcc ⊢
        obtain ⟨rl, hrl⟩ : ∃ rl, rl = R.length := ⟨_, rfl⟩
        have hl18 := len18 hb S5 R w5 hp5
        rw [← hrl] at hl18
        have HL18 := Aside0.mk hl18
        have hkn : k ≤ n := by have := dueCnt_le (fun j => l0.getD j 0) now n; have := HK.out; omega
        have e1 : (n : Int) - (k : Int) = (rl : Int) := by have := HMx.out.2.2.2; omega
        have e2 : wrap64 ((n : Int) - (k : Int)) = (rl : Int) := by rw [w64_in _ ⟨by omega, by omega⟩]; exact e1
        have e3 : wrap64 (rl : Int) = (rl : Int) := w64_in _ ⟨by omega, by omega⟩
        have HRL := Aside0.mk hrl
        have HC5 := Aside0.mk hC
        have HKN := Aside0.mk hkn
        clear ho hp5 ht5 hn5 hC hl18 hrl hdk
        go_wp2_with fail
        refine HL18.out.mono ?_
        rintro e w6 ⟨rfl, hw6⟩
        rw [hw6]
        clear hw6 w6
        go_wp2_with fail
        go_loopg [10] k (fun gg s10 wr => ∃ i : Nat, s10 = .int .i64 i ∧ i ≤ k ∧ i + gg = k ∧ Aside0 (Below w5.heap.size w5 wr))
        case atStart => exact ⟨0, rfl, by omega, by omega, ⟨Below.refl _ _⟩⟩
        case round =>
          obtain ⟨i, rfl, hik, hgg, HB⟩ := hrel
          by_cases hlt : i < k
          · obtain ⟨q, hqn, hDq, hVq⟩ := HDI.out.one i (by have := HMx.out; omega)
            have hb2 := HN5.out.below HB.out
            have HB2 := Aside0.mk (below_drew1 HB.out)
            obtain ⟨ad2, rfl, hc1⟩ := num_at (Kd.C_below HC5.out HB.out) i (by have := HMx.out; omega)
            rw [hDq] at hc1
            obtain ⟨ad, rfl, hc2⟩ := num_at (Kd.C_below HR0.out hb2.bel) q (by omega)
            have HX2 := Aside0.mk (And.intro hlt hgg)
            have r1 : (i : Int) < (k : Int) := by omega
            have r2 : (q : Int) < (l0.length : Int) := by omega
            have r3 : decide ((q : Int) < 0) = false := decide_eq_false (by omega)
            have r4 : decide ((q : Int) ≥ (n : Int)) = false := decide_eq_false (by omega)
            have r5 : decide ((n : Int) ≤ (q : Int)) = false := decide_eq_false (by omega)
            have r4n : decide (n ≤ q) = false := decide_eq_false (by omega)
            have r4m : ¬ n ≤ q := by omega
            rcases Nat.eq_zero_or_pos i with hi0 | hi0
            · subst hi0
              try simp only at hVq
              generalize l0.getD q 0 = vq at hc2 hVq
              have r6 : decide (vq > now) = false := decide_eq_false (by omega)
              have r7 : decide (now < vq) = false := decide_eq_false (by omega)
              have hc1' : wr.cell? ad2 = some (.int .i64 (q : Int)) := by simpa [Addr.add] using hc1
              clear hb2 hDq hgg e1 e2 e3
              go_upto_region 18 with fail
              try simp only [List.append_eq, List.cons_append, List.nil_append]
              refine wp_region_still_lit (by kernel_rfl) (by kernel_rfl) ?_
              iterate 28 (with_reducible (refine wpStill_go (v := ?_) (by kernel_rfl) ?_ ?_); rotate_left; (go_simp; with_reducible rfl); simp only [Act.put, List.setIfInBounds_toArray, List.set_cons_succ, List.set_cons_zero])
              iterate 46 (with_reducible (refine wpStill_skip (by kernel_rfl) ?_); simp only [Act.put, List.setIfInBounds_toArray, List.set_cons_succ, List.set_cons_zero])
              iterate 2 (with_reducible (refine wpStill_go (v := ?_) (by kernel_rfl) ?_ ?_); rotate_left; (go_simp; with_reducible rfl); simp only [Act.put, List.setIfInBounds_toArray, List.set_cons_succ, List.set_cons_zero])
              with_reducible (refine wpStill_nil ?_)
              change Exit.then _ _ _ _ wr.drew
              go_wp2_with fail
              obtain ⟨x1, x2⟩ := HX2.out
              go_roundg (k - (0 + 1))
              case measure => omega
              case rel => exact ⟨0 + 1, rfl, by omega, by omega, HB2⟩
            · obtain ⟨ip, hip⟩ : ∃ ip, i = ip + 1 := ⟨i - 1, by omega⟩
              obtain ⟨p, q', hpn, hqn', hDp, hDq', hlq⟩ := HDI.out.two ip (by have := HMx.out; omega)
              have hqq : q' = q := by rw [← hip, hDq] at hDq'; omega
              subst hqq
              obtain ⟨ad3, e3', hc3⟩ := num_at (Kd.C_below HC5.out HB.out) ip (by have := HMx.out; omega)
              injection e3' with e3'
              subst e3'
              rw [hDp] at hc3
              obtain ⟨ad4, e4, hc4⟩ := num_at (Kd.C_below HR0.out hb2.bel) p (by omega)
              injection e4 with e4
              subst e4
              try simp only at hVq hlq
              clear e1 e2 e3
              have r8 : decide ((i : Int) > 0) = true := decide_eq_true (by omega)
              have r9 : decide ((0 : Int) < (i : Int)) = true := decide_eq_true (by omega)
              have r8n : decide (0 < i) = true := decide_eq_true hi0
              have s1 : (i : Int) - 1 = (ip : Int) := by omega
              have s3 : IntKind.i64.wrap (ip : Int) = (ip : Int) := by rw [IntKind.wrap_i64]; omega
              have s4 : (ip : Int) < (k : Int) := by omega
              have s5 : (p : Int) < (l0.length : Int) := by omega
              generalize l0.getD q' 0 = vq at hc2 hVq hlq
              generalize l0.getD p 0 = vp at hc4 hlq
              have r6 : decide (vq > now) = false := decide_eq_false (by omega)
              have r7 : decide (now < vq) = false := decide_eq_false (by omega)
              have t1 : decide (vq < vp) = false := decide_eq_false (by omega)
              clear hb2 hDq hDq' hDp hgg hip
              rcases hlq with hlq | ⟨hlq, hlq2⟩
              · have t2 : (vq == vp) = false := beq_eq_false_iff_ne.2 (by omega)
                clear hlq
                go_upto_region 18 with fail
                try simp only [List.append_eq, List.cons_append, List.nil_append]
                refine wp_region_still_lit (by kernel_rfl) (by kernel_rfl) ?_
                iterate 62 (with_reducible (refine wpStill_go (v := ?_) (by kernel_rfl) ?_ ?_); rotate_left; (go_simp; with_reducible rfl); simp only [Act.put, List.setIfInBounds_toArray, List.set_cons_succ, List.set_cons_zero])
                iterate 10 (with_reducible (refine wpStill_skip (by kernel_rfl) ?_); simp only [Act.put, List.setIfInBounds_toArray, List.set_cons_succ, List.set_cons_zero])
                iterate 4 (with_reducible (refine wpStill_go (v := ?_) (by kernel_rfl) ?_ ?_); rotate_left; (go_simp; with_reducible rfl); simp only [Act.put, List.setIfInBounds_toArray, List.set_cons_succ, List.set_cons_zero])
                with_reducible (refine wpStill_nil ?_)
                change Exit.then _ _ _ _ wr.drew
                go_wp2_with fail
                obtain ⟨x1, x2⟩ := HX2.out
                go_roundg (k - (i + 1))
                case measure => omega
                case rel => exact ⟨i + 1, rfl, by omega, by omega, HB2⟩
              · subst hlq
                have t3 : decide ((q' : Int) ≤ (p : Int)) = false := decide_eq_false (by omega)
                have t4 : decide (q' ≤ p) = false := decide_eq_false (by omega)
                have t5 : ¬ q' ≤ p := by omega
                go_upto_region 18 with fail
                try simp only [List.append_eq, List.cons_append, List.nil_append]
                refine wp_region_still_lit (by kernel_rfl) (by kernel_rfl) ?_
                iterate 76 (with_reducible (refine wpStill_go (v := ?_) (by kernel_rfl) ?_ ?_); rotate_left; (go_simp; with_reducible rfl); simp only [Act.put, List.setIfInBounds_toArray, List.set_cons_succ, List.set_cons_zero])
                with_reducible (refine wpStill_nil ?_)
                change Exit.then _ _ _ _ wr.drew
                go_wp2_with fail
                obtain ⟨x1, x2⟩ := HX2.out
                go_roundg (k - (i + 1))
                case measure => omega
                case rel => exact ⟨i + 1, rfl, by omega, by omega, HB2⟩
          · obtain rfl : k = i := by omega
            have r2 : ¬ (k : Int) < (k : Int) := by omega
            have H14n := fun w => Aside0.mk (set14_nil w 1 1)
            have H16n := fun w => Aside0.mk (next16_nil w)
            have hnv : nextVal [] = .tuple #[.int .i64 0, .int .u64 0, .bool false] := rfl
            rw [hnv] at H16n
            have H9n := fun w => Aside0.mk (drop9_nil w 1)
            have H12n := fun w => Aside0.mk (due12_nil 9 w)
            have H18n := fun w => Aside0.mk (len18_nil w)
            have hp6 := HP5.out.still HB.out
            have hd := due_count R.length R 18446744073709551615 HMx.out.2.1 (Nat.le_refl _)
            rw [countP_all HMx.out.1] at hd
            have h12 := due12 hb S5 R 18446744073709551615 wr hp6
            have hrest : dueRest R.length R 18446744073709551615 = [] := List.eq_nil_of_length_eq_zero (by omega)
            rw [hrest, hd.1, ← HRL.out] at h12
            have H12' := Aside0.mk h12
            have HDl := Aside0.mk hd.1
            have HN6 := Aside0.mk (HN5.out.below HB.out)
            clear h12 hd hrest hp6 hnv
            go_wp2_with fail
            refine (H14n _).out.mono ?_
            rintro e w7 ⟨rfl, hw7⟩
            rw [hw7]
            go_wp2_with fail
            refine (H16n _).out.mono ?_
            rintro e w8 ⟨rfl, hw8⟩
            rw [hw8]
            go_wp2_with fail
            refine H12'.out.mono ?_
            rintro e w9 ⟨v2, rfl, ho2, S9, hp9, ht9, hn9⟩
            obtain ⟨A2, c2, rfl⟩ := own_any ho2
            have HN9 := Aside0.mk (HN6.out.turn ht9)
            have hl9 := len18 hb S9 [] w9 hp9
            simp only [List.length_nil, Int.natCast_zero] at hl9
            have HL9 := Aside0.mk hl9
            clear ho2 hp9 ht9 hn9 hl9
            go_wp2_with fail
            refine HL9.out.mono ?_
            rintro e w10 ⟨rfl, hw10⟩
            rw [hw10]
            go_wp2_with fail
            refine (H9n _).out.mono ?_
            rintro e w11 ⟨rfl, hw11⟩
            rw [hw11]
            go_wp2_with fail
            refine (H12n _).out.mono ?_
            rintro e w12 ⟨rfl, hw12⟩
            rw [hw12]
            go_wp2_with fail
            refine (H18n _).out.mono ?_
            rintro e w13 ⟨rfl, hw13⟩
            rw [hw13]
            go_wp2_with fail
            go_ret
            exact ⟨rfl, HN9.out.bel⟩
theorem due_all (A0 : Option Addr) (c0 : Nat) (l0 : List Int) (now : Int) (w : World)
    (hr0 : Kd.C (Kd.int .u64) w A0 l0.length l0) (hc0 : l0.length ≤ c0) (h : l0.length ≤ maxLen ∧ l0.length * 8 ≤ 140737488351232 ∧ ∀ x ∈ l0, (fun x : Int => (Lit.int .u64 x).wf = true) x) :
    Calls Try.prog 4 #[.slice A0 l0.length c0, .int .u64 now] w fun e w' => e = .returned (.bool true) ∧ Below w.heap.size w w' :=
  due_walk A0 c0 l0 now w hr0 hc0 h.2.2
end Go.Proofs.Ythjcdjanadeobaa.MH
