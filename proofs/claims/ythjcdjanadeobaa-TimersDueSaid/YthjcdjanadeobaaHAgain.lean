/- TimersAgain walked: set again it is due when it was set to last, and once; dropped it is not due. -/
import Derived.Test.YthjcdjanadeobaaHAwake
import Derived.Test.YthjcdjanadeobaaHTab
import Derived.Deep.CutBlock
import Derived.Deep.CutRange
namespace Go.Proofs.Ythjcdjanadeobaa.MH
open Go.RowKit Go.Proofs.YthjcdjanadeobaaW.PrintWords Go.Proofs.YthjcdjanadeobaaW.PrintLast Go.Proofs.YthjcdjanadeobaaW.PrintMore Go.Proofs.Ythjcdjanadeobaa.Heap
set_option linter.unusedVariables false
set_option linter.unusedSimpArgs false

theorem num_at {k : IntKind} {w : World} {A : Option Addr} {l : List Int} (h : Kd.C (Kd.int k) w A l.length l) (i : Nat) (hi : i < l.length) : ∃ ad, A = some ad ∧ w.cell? (ad.add i) = some (.int k (l.getD i 0)) := by
  obtain ⟨ad, e, hc⟩ := h.2.2 (by omega)
  obtain ⟨c, hs, hr, hcell⟩ := hc i _ (List.getElem?_eq_getElem hi)
  simp only [Kd.int, Kd.scalar] at hr
  subst hr
  have := hcell 0 _ rfl
  refine ⟨ad, e, ?_⟩
  rw [List.getD_eq_getElem?_getD, List.getElem?_eq_getElem hi]
  simpa [Kd.int, Kd.scalar] using this
theorem bool_at {w : World} {A : Option Addr} {l : List Bool} (h : Kd.C Kd.bool w A l.length l) (i : Nat) (hi : i < l.length) : ∃ ad, A = some ad ∧ w.cell? (ad.add i) = some (.bool (l.getD i false)) := by
  obtain ⟨ad, e, hc⟩ := h.2.2 (by omega)
  obtain ⟨c, hs, hr, hcell⟩ := hc i _ (List.getElem?_eq_getElem hi)
  simp only [Kd.bool, Kd.scalar] at hr
  subst hr
  have := hcell 0 _ rfl
  refine ⟨ad, e, ?_⟩
  rw [List.getD_eq_getElem?_getD, List.getElem?_eq_getElem hi]
  simpa [Kd.bool, Kd.scalar] using this
/-- To what an id is set before round i of the second loop; whether it is let stay. -/
def endOf (l t : List Int) (i j : Nat) : Int := if j < i ∧ j < t.length then t.getD j 0 else l.getD j 0
def keeps (g : List Bool) (j : Nat) : Bool := !(decide (j < g.length) && g.getD j false)
def stays (g : List Bool) (i j : Nat) : Bool := decide (i ≤ j) || keeps g j
theorem endOf_zero (l t : List Int) : endOf l t 0 = fun j => l.getD j 0 := by
  funext j
  unfold endOf
  rw [if_neg (by omega)]
theorem endOf_other (l t : List Int) (i j : Nat) (h : j ≠ i) : endOf l t (i + 1) j = endOf l t i j := by
  unfold endOf
  have : (j < i + 1 ∧ j < t.length) ↔ (j < i ∧ j < t.length) := by omega
  simp only [this]
theorem endOf_set (l t : List Int) (i : Nat) (h : i < t.length) : endOf l t (i + 1) i = t.getD i 0 := by
  unfold endOf
  rw [if_pos ⟨by omega, h⟩]
theorem endOf_keep (l t : List Int) (i : Nat) (h : ¬ i < t.length) : endOf l t (i + 1) = endOf l t i := by
  funext j
  by_cases c : j = i
  · subst c
    unfold endOf
    rw [if_neg (by omega), if_neg (by omega)]
  · exact endOf_other l t i j c
theorem stays_self (g : List Bool) (i : Nat) : stays g i i = true := by simp [stays]
theorem stays_other (g : List Bool) (i j : Nat) (h : j ≠ i) : stays g (i + 1) j = stays g i j := by
  unfold stays
  have : decide (i + 1 ≤ j) = decide (i ≤ j) := by rw [decide_eq_decide]; omega
  rw [this]
theorem stays_next (g : List Bool) (i : Nat) : stays g (i + 1) i = keeps g i := by
  unfold stays
  rw [decide_eq_false (by omega), Bool.false_or]
theorem again_set (n i : Nat) (hi : i < n) (l t : List Int) (g : List Bool) (h : i < t.length) : (without (tab n (stays g i) (endOf l t i)) (i : Int) ++ [((i : Int), t.getD i 0)]).Perm (tab n (stays g i) (endOf l t (i + 1))) := by
  rw [tab_without, ← endOf_set l t i h]
  refine tab_add hi (by simp) (stays_self g i) (fun j _ hj => by simp [hj]) (fun j _ hj => ?_)
  have : j ≠ i := by
    rintro rfl
    simp at hj
  exact endOf_other l t i j this
theorem again_drop (n i : Nat) (V : Nat → Int) (g : List Bool) (hk : keeps g i = false) : without (tab n (stays g i) V) (i : Int) = tab n (stays g (i + 1)) V := by
  rw [tab_without]
  refine tab_congr (fun j _ => ?_) (fun _ _ _ => rfl)
  by_cases c : j = i
  · subst c; rw [stays_next, hk]; simp
  · rw [stays_other g i j c]; simp [c]
theorem again_keep (n i : Nat) (V : Nat → Int) (g : List Bool) (hk : keeps g i = true) : tab n (stays g i) V = tab n (stays g (i + 1)) V := by
  refine tab_congr (fun j _ => ?_) (fun _ _ _ => rfl)
  by_cases c : j = i
  · subst c; rw [stays_next, hk, stays_self]
  · rw [stays_other g i j c]
theorem again_end (n : Nat) (V : Nat → Int) (g : List Bool) : (tab n (stays g n) V).length = (List.range n).countP (keeps g) := by
  rw [tab_length]
  apply List.countP_congr
  intro j hj
  rw [List.mem_range] at hj
  unfold stays
  rw [decide_eq_false (by omega), Bool.false_or]
/-- The first loop's state; one more. -/
theorem fill_start (n : Nat) (V : Nat → Int) : tab n (fun j => decide (j < 0)) V = [] := tab_none V (fun j _ => by simp)
theorem fill_step (n i : Nat) (hi : i < n) (V : Nat → Int) : (without (tab n (fun j => decide (j < i)) V) (i : Int) ++ [((i : Int), V i)]).Perm (tab n (fun j => decide (j < i + 1)) V) := by
  rw [tab_without]
  refine tab_add hi (by simp) (by simp) (fun j _ hj => ?_) (fun _ _ _ => rfl)
  rw [Bool.eq_iff_iff]
  simp
  omega
theorem fill_end (n : Nat) (V : Nat → Int) (P : Nat → Bool) (hP : ∀ j, j < n → P j = true) : tab n (fun j => decide (j < n)) V = tab n P V := tab_congr (fun j hj => by rw [hP j hj]; simp [hj]) (fun _ _ _ => rfl)
/-- Numbers in a row of one's own. -/
def RowU (w : World) (g n : Nat) (V : Nat → Int) : Prop := ∃ cur : Array Value, w.heap[g]? = some (.cells cur 31 (0, 0)) ∧ ∀ j, j < n → cur[j]? = some (.int .u64 (V j))
theorem RowU.cell {w : World} {g n : Nat} {V : Nat → Int} (h : RowU w g n V) (j : Nat) (hj : j < n) : w.cell? ⟨g, j, none⟩ = some (.int .u64 (V j)) ∧ w.frozen? ⟨g, j, none⟩ = false := by
  obtain ⟨cur, a, b⟩ := h
  exact ⟨(blk_cell a j).trans (b j hj), blk_frozen a j⟩
theorem RowU.lt {w : World} {g n : Nat} {V : Nat → Int} (h : RowU w g n V) : g < w.heap.size := by
  obtain ⟨cur, a, b⟩ := h
  exact blk_lt a
theorem RowU.keep {w w' : World} {g n : Nat} {V : Nat → Int} {S : Nat → Prop} (h : RowU w g n V) (hf : Foot S w w') (hS : ¬ S g) : RowU w' g n V := by
  obtain ⟨cur, a, b⟩ := h
  exact ⟨cur, hf.blk a hS, b⟩
theorem RowU.set {w : World} {g n : Nat} {V U : Nat → Int} (h : RowU w g n V) {i : Nat} (hi : i < n) (hU : ∀ j, j ≠ i → U j = V j) : RowU (w.setCell ⟨g, i, none⟩ (.int .u64 (U i))) g n U := by
  obtain ⟨cur, a, b⟩ := h
  refine ⟨_, blk_set a _ _, fun j hj => ?_⟩
  rw [Array.getElem?_setIfInBounds]
  by_cases c : i = j
  · subst c
    have : i < cur.size := (Array.getElem?_eq_some_iff.1 (b i hi)).1
    rw [if_pos rfl, if_pos this]
  · rw [if_neg c, hU j (fun e => c e.symm)]
    exact b j hj
theorem rowU_own {w : World} {base g n cap : Nat} {xs : List Value} {V : Nat → Int} (h : w.ownsRow base 31 1 (.slice (some ⟨g, 0, none⟩) n cap) n xs) (hx : ∀ j, j < n → xs[j]? = some (.int .u64 (V j))) : RowU w g n V := by
  rcases h.2 with ⟨e, _⟩ | ⟨g2, c2, cur, e, _, hg, _, _, _, ht⟩
  · cases e
  · injection e with e1 _ e2
    injection e1 with e1
    injection e1 with e1
    subst e1
    refine ⟨cur, hg, fun j hj => ?_⟩
    have := hx j hj
    rw [← ht, List.getElem?_take, if_pos (by omega), Array.getElem?_toList] at this
    exact this
def nums64 (l : List Int) (n : Nat) : List Value := (l.take n).map (.int .u64 ·)
theorem nums64_at (l : List Int) (n j : Nat) (hj : j < n) (hn : n ≤ l.length) : (nums64 l n)[j]? = some (.int .u64 (l.getD j 0)) := by
  unfold nums64
  rw [List.getElem?_map, List.getElem?_take, if_pos hj, List.getElem?_eq_getElem (by omega), List.getD_eq_getElem?_getD, List.getElem?_eq_getElem (by omega)]
  rfl
theorem nums64_length (l : List Int) (n : Nat) (hn : n ≤ l.length) : (nums64 l n).length = n := by
  unfold nums64
  rw [List.length_map, List.length_take]; omega
theorem nums64_cells {w : World} {ad : Addr} {l : List Int} {n : Nat} (h : Kd.C (Kd.int .u64) w (some ad) l.length l) (hn : n ≤ l.length) : ∀ j u, (nums64 l n)[j]? = some u → w.cell? (ad.add j) = some u := fun j u hu => by
  have hj : j < n := by
    have := (List.getElem?_eq_some_iff.1 hu).1
    rwa [nums64_length l n hn] at this
  rw [nums64_at l n j hj hn] at hu
  injection hu with hu
  subst hu
  obtain ⟨ad', e, hc⟩ := num_at h j (by omega)
  injection e with e
  subst e
  exact hc
theorem nums64_one (l : List Int) (n : Nat) : ∀ u ∈ nums64 l n, u.oneCell' = true := fun u hu => by
  obtain ⟨x, _, rfl⟩ := List.mem_map.1 hu; rfl
/-- The heap and the row beside it. -/
structure Ag (w0 w : World) (hb g n : Nat) (S : Nat → Prop) (m : List Heap.Item) (V : Nat → Int) : Prop where
  hp : Hp w hb S m
  now : Now w0 w S
  row : RowU w g n V
  off : ¬ S g
  new : w0.heap.size ≤ g
theorem Ag.turn {w0 w w' : World} {hb g n : Nat} {S S' : Nat → Prop} {m m' : List Heap.Item} {V : Nat → Int} (h : Ag w0 w hb g n S m V) (k : Hp w' hb S' m') (t : Turn w w' S S') : Ag w0 w' hb g n S' m' V :=
  ⟨k, h.now.turn t, h.row.keep t.foot h.off, fun hs => by
    rcases t.new g hs with h1 | h1
    · exact h.off h1
    · have := h.row.lt; omega, h.new⟩
theorem Ag.perm {w0 w : World} {hb g n : Nat} {S : Nat → Prop} {m m' : List Heap.Item} {V : Nat → Int} (h : Ag w0 w hb g n S m V) (hp : m.Perm m') : Ag w0 w hb g n S m' V := ⟨h.hp.perm hp, h.now, h.row, h.off, h.new⟩
theorem Ag.below {w0 w w' : World} {hb g n : Nat} {S : Nat → Prop} {m : List Heap.Item} {V : Nat → Int} (h : Ag w0 w hb g n S m V) (k : Below w.heap.size w w') : Ag w0 w' hb g n S m V := h.turn (h.hp.still k) (Turn.below k)
theorem Ag.set {w0 w : World} {hb g n : Nat} {S : Nat → Prop} {m : List Heap.Item} {V U : Nat → Int} (h : Ag w0 w hb g n S m V) {i : Nat} (hi : i < n) (hU : ∀ j, j ≠ i → U j = V j) : Ag w0 (w.setCell ⟨g, i, none⟩ (.int .u64 (U i))) hb g n S m U := by
  have hF : Foot (fun b => b = g) w (w.setCell ⟨g, i, none⟩ (.int .u64 (U i))) := ⟨rfl, rfl, rfl, by simp [World.setCell], fun b hb hn => Below.heap_setCell _ _ _ _ hn⟩
  refine ⟨h.hp.keep hF (fun b _ hs e => h.off (e ▸ hs)), ⟨⟨h.now.bel.os, h.now.bel.tape, h.now.bel.output, Nat.le_trans h.now.bel.size hF.2.2.2.1, fun b hb => (hF.2.2.2.2 b (Nat.lt_of_lt_of_le hb h.now.bel.size) (fun e => ?_)).trans (h.now.bel.block b hb)⟩, h.now.new⟩, h.row.set hi hU, h.off, h.new⟩
  have := h.new
  omega
theorem lit_nat (i : Nat) (h : i ≤ 1000000) : (Lit.int .i64 (i : Int)).wf = true := by
  have e1 : IntKind.i64.min = -9223372036854775808 := by decide
  simp [Lit.wf, e1]
  omega
set_option maxHeartbeats 8000000 in
set_option maxRecDepth 100000 in
theorem again_walk (ad : Addr) (c0 : Nat) (l0 : List Int) (A1 : Option Addr) (c1 : Nat) (l1 : List Int) (A2 : Option Addr) (c2 : Nat) (l2 : List Bool) (w : World) (h0 : 0 < l0.length)
    (hr0 : Kd.C (Kd.int .u64) w (some ad) l0.length l0) (hc0 : l0.length ≤ c0) (hr1 : Kd.C (Kd.int .u64) w A1 l1.length l1) (hc1 : l1.length ≤ c1) (hr2 : Kd.C Kd.bool w A2 l2.length l2) (hc2 : l2.length ≤ c2) :
    Calls Try.prog 5 #[.slice (some ad) l0.length c0, .slice A1 l1.length c1, .slice A2 l2.length c2] w fun e w' => e = .returned (.bool true) ∧ Below w.heap.size w w' := by
  obtain ⟨n, hn⟩ : ∃ n, n = min l0.length 60 := ⟨_, rfl⟩
  have hnl : n ≤ l0.length := by omega
  have hn60 : n ≤ 60 := by omega
  have hn0 : 0 < n := by omega
  have hmin : min (l0.length : Int) 60 = (n : Int) := by omega
  have HR0 := Aside0.mk hr0
  have HR1 := Aside0.mk hr1
  have HR2 := Aside0.mk hr2
  have hl1 := hr1.2.1
  have hl2 := hr2.2.1
  clear hr0 hr1 hr2
  go_enter Try.func5, Try.ntmps5
  go_wp2_with fail
  refine (new7 w).mono ?_
  rintro e w1 ⟨hb, rfl, hp, hf⟩
  have HP1 := Aside0.mk hp
  have HN1 := Aside0.mk (Now.foot hf (S := fun b => w.heap.size ≤ b ∧ b < w1.heap.size) (fun b hb => hb.1))
  have HA := Aside0.mk (awake8 w1)
  clear hp hf
  go_wp2_with fail
  refine HA.out.mono ?_
  rintro e w2 ⟨rfl, hbel⟩
  have HP2 := Aside0.mk (HP1.out.still hbel)
  have HN2 := Aside0.mk (HN1.out.below hbel)
  clear hbel
  go_upto_region 4 with fail
  go_cut [8] from 23 to 25 (fun s8 wc => s8 = .int .i64 n ∧ wc = w2)
  case first =>
    go_wp2
    all_goals go_meet
    all_goals (case rel => exact ⟨by congr 1; omega, rfl⟩)
  case rest =>
    obtain ⟨rfl, hw⟩ := hcut
    rw [hw]
    clear hw wc
    have HNN := Aside0.mk hn
    have HC2 := Aside0.mk (nums64_cells (n := n) (Kd.C_below HR0.out HN2.out.bel) hnl)
    have HL2 := Aside0.mk (nums64_length l0 n hnl)
    have HM : Aside0 (0 + n ≤ Go.maxLen ∧ (0 + n) * 8 ≤ 140737488355328) := ⟨by unfold Go.maxLen; omega, by omega⟩
    have hs2 : n ≤ c0 := by omega
    have q1 : (n : Int) ≤ (c0 : Int) := by omega
    have q2 : (0 : Int) ≤ (n : Int) := by omega
    clear hn hmin
    go_wp2_with (at_builtin; refine wpList_append_own_at _ rfl (.const (.slice none 0 0)) (.tmp 28) 27 rfl w2.heap.size 31 _ (.int .u64 0) 1 8 Try.underlying27 (by rfl) (by rfl) (by rfl) (by rfl) (by rfl) (by decide) (.slice none 0 0) 0 [] rfl (World.ownsRow_nil _ _ 31 1) ad n c0 (nums64 l0 n) rfl (HL2.out.trans (Nat.mul_one n).symm) HC2.out (nums64_one l0 n) HM.out.1 HM.out.2 (Nat.le_refl _) ?_; intro v1 w3 hown hgrow hnil hat; have HO := Aside0.mk (And.intro hown hgrow); clear hown hgrow hnil hat)
    obtain ⟨g, cap, hv, hgb, hglt⟩ := HO.out.1.form (by omega)
    have hown := HO.out.1
    rw [hv] at hown
    simp only [Nat.zero_add, List.nil_append] at hown hv
    subst hv
    have hf3 : Below w2.heap.size w2 w3 := ⟨HO.out.2.os, HO.out.2.tape, HO.out.2.output, HO.out.2.size, fun b hb => HO.out.2.block b hb (by simp [Value.ownBlock])⟩
    have hag : Ag w w3 hb g n (fun b => w.heap.size ≤ b ∧ b < w1.heap.size) (tab n (fun j => decide (j < 0)) (fun j => l0.getD j 0)) (endOf l0 l1 0) := by
      rw [fill_start]
      refine ⟨HP2.out.still hf3, HN2.out.below hf3, rowU_own hown (fun j hj => ?_), fun hs => ?_, ?_⟩
      · rw [endOf_zero]; exact nums64_at l0 n j hj hnl
      · have := HP2.out.lt g hs
        omega
      · have := HN2.out.bel.size
        omega
    have HG0 := Aside0.mk hag
    have HCC := Aside0.mk hc0
    clear hown hf3 hag hc0 hgb hglt HO HC2 HL2 HM HP1 HP2 HN1 HN2 HA
    go_loopg [11] n (fun gg s11 wr => ∃ (i : Nat) (S : Nat → Prop), s11 = .int .i64 i ∧ i ≤ n ∧ i + gg = n ∧ Aside0 (Ag w wr hb g n S (tab n (fun j => decide (j < i)) (fun j => l0.getD j 0)) (endOf l0 l1 0)))
    case atStart => exact ⟨0, _, rfl, by omega, by omega, HG0⟩
    case round =>
      obtain ⟨i, S, rfl, hi, hgg, HG⟩ := hrel
      by_cases hin : i < n
      · obtain ⟨ad', e, hc⟩ := num_at (Kd.C_below HR0.out HG.out.now.bel) i (by omega)
        injection e with e
        subst e
        have r1 : (i : Int) < (n : Int) := by omega
        have r2 : (i : Int) < (l0.length : Int) := by omega
        have H14 := Aside0.mk (set14 hb S _ _ (i : Int) (l0.getD i 0) HG.out.hp (lit_nat i (by omega)) (by have := tab_le n (fun j => decide (j < i)) (fun j => l0.getD j 0); omega))
        have HF := Aside0.mk (fill_step n i hin (fun j => l0.getD j 0))
        generalize l0.getD i 0 = x at hc H14 HF
        go_wp2_with fail
        refine H14.out.mono ?_
        rintro e w5 ⟨rfl, S5, hp5, ht5⟩
        have HG5 := Aside0.mk ((HG.out.turn hp5 ht5).perm HF.out)
        clear hp5 ht5 hc
        go_wp2_with fail
        go_roundg (n - (i + 1))
        case measure => omega
        case rel => exact ⟨i + 1, S5, rfl, by omega, by omega, HG5⟩
      · obtain rfl : n = i := by omega
        have hfe := fill_end n (fun j => l0.getD j 0) (stays l2 0) (fun j _ => by simp [stays])
        have hst : Aside0 (Ag w wr hb g n S (tab n (stays l2 0) (endOf l0 l1 0)) (endOf l0 l1 0)) := ⟨by
          have := HG.out
          rw [hfe] at this
          rw [endOf_zero] at this ⊢
          exact this⟩
        clear hfe HG
        go_wp2_with fail
        go_loopg [10, 12] n (fun gg s10 s12 wr => ∃ (i k : Nat) (S : Nat → Prop), s10 = .int .i64 k ∧ s12 = .int .i64 i ∧ i ≤ n ∧ i + gg = n ∧ k ≤ i ∧ Aside0 (k = (List.range i).countP (keeps l2)) ∧ Aside0 (Ag w wr hb g n S (tab n (stays l2 i) (endOf l0 l1 i)) (endOf l0 l1 i)))
        case atStart => exact ⟨0, 0, S, rfl, rfl, by omega, by omega, by omega, ⟨rfl⟩, hst⟩
        case round =>
          obtain ⟨i, k, S, rfl, rfl, hi, hgg, hki, HK, HG⟩ := hrel
          by_cases hin : i < n
          · have r1 : (i : Int) < (n : Int) := by omega
            have r2 : (i : Int) < (l0.length : Int) := by omega
            have HX := Aside0.mk (And.intro hin (And.intro hgg (And.intro hki hnl)))
            have HS : Aside0 (∀ (P : Nat → Bool) (V : Nat → Int), (tab n P V).length < 1000000000) := ⟨fun P V => by have := tab_le n P V; omega⟩
            have HW := Aside0.mk (lit_nat i (by omega))
            clear hki hgg
            go_upto_if 50 with fail
            go_cut [10, 12] from 42 to 85 (fun s10 s12 wc => s10 = .int .i64 k ∧ s12 = .int .i64 i ∧ ∃ S', Aside0 (Ag w wc hb g n S' (tab n (stays l2 i) (endOf l0 l1 (i + 1))) (endOf l0 l1 (i + 1))))
            case first =>
              by_cases c1 : i < l1.length
              · obtain ⟨ad1, rfl, hc⟩ := num_at (Kd.C_below HR1.out HG.out.now.bel) i c1
                have hg2 := HG.out.set (U := endOf l0 l1 (i + 1)) hin (fun j hj => endOf_other l0 l1 i j hj)
                have hset := again_set n i hin l0 l1 l2 c1
                obtain ⟨f1, f2⟩ := HG.out.row.cell i hin
                rw [endOf_set l0 l1 i c1] at hg2
                obtain ⟨ad2, e2, hc2⟩ := num_at (Kd.C_below HR1.out hg2.now.bel) i c1
                injection e2 with e2
                subst e2
                have r3 : (i : Int) < (l1.length : Int) := by omega
                have H14 := Aside0.mk (set14 hb S _ _ (i : Int) (l1.getD i 0) hg2.hp HW.out (HS.out _ _))
                have HG2 := Aside0.mk hg2
                have HSet := Aside0.mk hset
                generalize l1.getD i 0 = x at hc hc2 H14 HG2 HSet
                generalize endOf l0 l1 i i = y at f1
                clear hg2 hset
                go_wp2_with fail
                refine H14.out.mono ?_
                rintro e w5 ⟨rfl, S5, hp5, ht5⟩
                have HG5 := Aside0.mk ((HG2.out.turn hp5 ht5).perm HSet.out)
                clear hp5 ht5 hc hc2 f1 f2
                go_wp2_with fail
                go_meet
                case rel => exact ⟨rfl, rfl, S5, HG5⟩
              · have r3 : ¬ (i : Int) < (l1.length : Int) := by omega
                have hek := endOf_keep l0 l1 i c1
                have HG5 := HG
                rw [← hek] at HG5
                clear hek
                go_wp2_with fail
                go_meet
                case rel => exact ⟨rfl, rfl, S, HG5⟩
            case rest =>
              obtain ⟨rfl, rfl, S', HG'⟩ := hcut
              by_cases c2 : i < l2.length ∧ l2.getD i false = true
              · obtain ⟨ad2, rfl, hc⟩ := bool_at (Kd.C_below HR2.out HG'.out.now.bel) i c2.1
                rw [c2.2] at hc
                have hk : keeps l2 i = false := by unfold keeps; rw [c2.2, decide_eq_true c2.1]; rfl
                have r3 : (i : Int) < (l2.length : Int) := by have := c2.1; omega
                have h9 := drop9 hb S' _ _ (i : Int) HG'.out.hp HW.out
                rw [has_tab, stays_self, decide_eq_true hin, again_drop n i _ l2 hk] at h9
                have H9 := Aside0.mk h9
                have hcnt : (List.range (i + 1)).countP (keeps l2) = (List.range i).countP (keeps l2) := by
                  rw [List.range_succ, List.countP_append]
                  simp [hk]
                have HK2 : Aside0 (k = (List.range (i + 1)).countP (keeps l2)) := ⟨by rw [hcnt]; exact HK.out⟩
                have hhas2 : has (tab n (stays l2 (i + 1)) (endOf l0 l1 (i + 1))) (i : Int) = false := by rw [has_tab, stays_next, hk, Bool.and_false]
                have hwo2 : without (tab n (stays l2 (i + 1)) (endOf l0 l1 (i + 1))) (i : Int) = tab n (stays l2 (i + 1)) (endOf l0 l1 (i + 1)) := without_none (fun x hx e => by
                  obtain ⟨j, _, hj, rfl⟩ := mem_tab.1 hx
                  have : j = i := by simp only at e; omega
                  subst this
                  rw [stays_next, hk] at hj
                  cases hj)
                have HE := Aside0.mk (And.intro hhas2 hwo2)
                clear h9 hcnt hk c2 hhas2 hwo2
                simp only [Bool.and_self] at H9
                go_wp2_with fail
                refine H9.out.mono ?_
                rintro e w5 ⟨rfl, S5, hp5, ht5⟩
                have HG5 := Aside0.mk (HG'.out.turn hp5 ht5)
                have h92 := drop9 hb S5 _ _ (i : Int) HG5.out.hp HW.out
                rw [HE.out.1, HE.out.2] at h92
                have H92 := Aside0.mk h92
                clear hp5 ht5 h92 hc
                go_wp2_with fail
                refine H92.out.mono ?_
                rintro e w6 ⟨rfl, S6, hp6, ht6⟩
                have HG6 := Aside0.mk (HG5.out.turn hp6 ht6)
                clear hp6 ht6
                go_wp2_with fail
                have := HX.out
                go_roundg (n - (i + 1))
                case measure => omega
                case rel => exact ⟨i + 1, k, S6, rfl, rfl, by omega, by omega, by omega, HK2, HG6⟩
              · have hk : keeps l2 i = true := by
                  unfold keeps
                  by_cases c3 : i < l2.length
                  · have : l2.getD i false = false := by
                      cases hq : l2.getD i false with
                      | false => rfl
                      | true => exact absurd ⟨c3, hq⟩ c2
                    rw [this, Bool.and_false]; rfl
                  · rw [decide_eq_false c3]; rfl
                have hcnt : (List.range (i + 1)).countP (keeps l2) = (List.range i).countP (keeps l2) + 1 := by
                  rw [List.range_succ, List.countP_append]
                  simp [hk]
                have HK2 : Aside0 (k + 1 = (List.range (i + 1)).countP (keeps l2)) := ⟨by rw [hcnt, HK.out]⟩
                have HG6 := HG'
                rw [again_keep n i _ l2 hk] at HG6
                have hkb : k ≤ 1000 := by have := HX.out; omega
                by_cases c3 : i < l2.length
                · obtain ⟨ad2, rfl, hc⟩ := bool_at (Kd.C_below HR2.out HG'.out.now.bel) i c3
                  have hv : l2.getD i false = false := by
                    cases hq : l2.getD i false with
                    | false => rfl
                    | true => exact absurd ⟨c3, hq⟩ c2
                  rw [hv] at hc
                  have r3 : (i : Int) < (l2.length : Int) := by omega
                  clear hcnt hk c2 hv
                  go_wp2_with fail
                  have := HX.out
                  go_roundg (n - (i + 1))
                  case measure => omega
                  case rel => exact ⟨i + 1, k + 1, S', rfl, rfl, by omega, by omega, by omega, HK2, HG6⟩
                · have r3 : ¬ (i : Int) < (l2.length : Int) := by omega
                  clear hcnt hk c2
                  go_wp2_with fail
                  have := HX.out
                  go_roundg (n - (i + 1))
                  case measure => omega
                  case rel => exact ⟨i + 1, k + 1, S', rfl, rfl, by omega, by omega, by omega, HK2, HG6⟩
          · obtain rfl : n = i := by omega
            have hm : Aside0 (Ag w wr hb g n S (tab n (stays l2 n) (endOf l0 l1 n)) (endOf l0 l1 n)) := HG
            have hlen : (tab n (stays l2 n) (endOf l0 l1 n)).length = k := by rw [again_end, ← HK.out]
            have HL := Aside0.mk (len18 hb S _ wr HG.out.hp)
            have HSub : Aside0 (∀ x ∈ tab n (stays l2 n) (endOf l0 l1 n), ∃ j : Nat, j < n ∧ x = ((j : Int), endOf l0 l1 n j)) := ⟨fun x hx => by
              obtain ⟨j, a, _, b⟩ := mem_tab.1 hx
              exact ⟨j, a, b⟩⟩
            have hmin : k ≤ 60 := by omega
            rw [hlen] at HL
            generalize tab n (stays l2 n) (endOf l0 l1 n) = mm at hm hlen HL HSub HG
            generalize endOf l0 l1 n = E at hm HSub HG
            have HLen := Aside0.mk hlen
            clear HK hlen hki HG
            go_wp2_with fail
            refine HL.out.mono ?_
            rintro e w5 ⟨rfl, rfl⟩
            go_wp2_with fail
            go_loopg [10] k (fun gg s10 wr => ∃ (S' : Nat → Prop) (m' : List Heap.Item), s10 = .int .i64 gg ∧ gg ≤ 60 ∧ m'.length = gg ∧ Aside0 (Ag w wr hb g n S' m' E) ∧ Aside0 (∀ x ∈ m', ∃ j : Nat, j < n ∧ x = ((j : Int), E j)))
            case atStart => exact ⟨S, mm, rfl, hmin, HLen.out, hm, HSub⟩
            case round =>
              obtain ⟨S', m', rfl, hg60, hml, HG, HSb⟩ := hrel
              rcases Nat.eq_zero_or_pos gk with hgk | hgk
              · subst hgk
                have hl := len18 hb S' m' wr HG.out.hp
                rw [hml] at hl
                have HL2 := Aside0.mk hl
                clear hl hm HSub HLen
                simp only [Int.natCast_zero] at HL2 ⊢
                go_wp2_with fail
                refine HL2.out.mono ?_
                rintro e w6 ⟨rfl, rfl⟩
                go_wp2_with fail
                go_ret
                exact ⟨rfl, HG.out.now.bel⟩
              · obtain ⟨k', hk'⟩ : ∃ k', gk = k' + 1 := ⟨gk - 1, by omega⟩
                have hne : m' ≠ [] := by rintro rfl; simp at hml; omega
                obtain ⟨x, hx⟩ : ∃ x, soonest m' = some x := by
                  cases hq : soonest m' with
                  | none => exact absurd ((soonest_none m').1 hq) hne
                  | some x => exact ⟨x, rfl⟩
                have hxm := (soonest_spec m' x hx).1
                obtain ⟨j, hj, rfl⟩ := HSb.out x hxm
                have h16 := next16 hb S' m' wr HG.out.hp
                rw [nextVal_some hx] at h16
                obtain ⟨y, hy⟩ : ∃ y, y = E j := ⟨_, rfl⟩
                simp only [← hy] at h16
                have HY := Aside0.mk hy
                have H16 := Aside0.mk h16
                have hwl := without_length HG.out.hp.uniq hxm
                have hhas : has m' (j : Int) = true := (has_iff m' _).2 ⟨_, hxm, rfl⟩
                have HWL : Aside0 ((without m' (j : Int)).length = k') := ⟨by simp only at hwl; omega⟩
                have HHS := Aside0.mk hhas
                have HSb2 : Aside0 (∀ x ∈ without m' (j : Int), ∃ j : Nat, j < n ∧ x = ((j : Int), E j)) := ⟨fun y hy => HSb.out y ((mem_without m' _ y).1 hy).1⟩
                have r0 : (0 : Int) < (gk : Int) := by omega
                have r4 : decide ((j : Int) < 0) = false := decide_eq_false (by omega)
                have r5 : (j : Int) < (n : Int) := by omega
                have r6 : decide ((n : Int) ≤ (j : Int)) = false := decide_eq_false (by omega)
                have r7 : decide ((j : Int) ≥ (n : Int)) = false := decide_eq_false (by omega)
                have HK' := Aside0.mk (And.intro hk' hg60)
                clear hx hxm h16 hwl hhas hne hm HSub HLen hy hk' hml
                go_wp2_with fail
                refine H16.out.mono ?_
                rintro e w6 ⟨rfl, hbel⟩
                have HG6 := Aside0.mk (HG.out.below hbel)
                obtain ⟨f1, _⟩ := HG6.out.row.cell j hj
                have h9 := drop9 hb S' m' w6 (j : Int) HG6.out.hp (lit_nat j (by omega))
                rw [HHS.out] at h9
                have H9 := Aside0.mk h9
                rw [← HY.out] at f1
                clear hbel h9
                go_wp2_with fail
                refine H9.out.mono ?_
                rintro e w7 ⟨rfl, S7, hp7, ht7⟩
                have HG7 := Aside0.mk (HG6.out.turn hp7 ht7)
                clear hp7 ht7 f1
                go_wp2_with fail
                have hkk := HK'.out
                go_roundg k'
                case measure => omega
                case rel => exact ⟨S7, _, by congr 1; omega, by omega, HWL.out, HG7, HSb2⟩
end Go.Proofs.Ythjcdjanadeobaa.MH
