/- TimersPlay walked: each answer of the heap's is the reference's. -/
import Derived.Test.YthjcdjanadeobaaHRefDue
import Derived.Test.YthjcdjanadeobaaHAwake
import Derived.Deep.RegionHeld3
import Derived.Deep.CutBlock
import Derived.Deep.CutRange
namespace Go.Proofs.Ythjcdjanadeobaa.MH
open Go.RowKit Go.Proofs.YthjcdjanadeobaaW.PrintWords Go.Proofs.YthjcdjanadeobaaW.PrintLast Go.Proofs.YthjcdjanadeobaaW.PrintMore Go.Proofs.Ythjcdjanadeobaa.Heap
set_option linter.unusedVariables false
set_option linter.unusedSimpArgs false

/-- One thing that is done: its kind, an id, a when. -/
structure POp where
  kind : Int
  id : Int
  at_ : Int
def kOp : Kd POp := Kd.iso (Kd.pair (Kd.int .i64) (Kd.pair (Kd.int .i64) (Kd.int .u64))) (fun x => (x.kind, x.id, x.at_))
def Dis (S R : Nat → Prop) : Prop := ∀ b, S b → ¬ R b
theorem Dis.left {S S' R : Nat → Prop} {w w' : World} (h : Dis S R) (t : Turn w w' S S') (hR : ∀ b, R b → b < w.heap.size) : Dis S' R := fun b hs hr => by
  rcases t.new b hs with h1 | h1
  · exact h b h1 hr
  · have := hR b hr; omega
theorem Dis.right {S R R' : Nat → Prop} {w w' : World} (h : Dis S R) (t : Turn w w' R R') (hS : ∀ b, S b → b < w.heap.size) : Dis S R' := fun b hs hr => by
  rcases t.new b hr with h1 | h1
  · exact h b hs h1
  · have := hS b hs; omega
/-- Both, side by side. -/
structure Both (w0 w : World) (hb rb : Nat) (S R : Nat → Prop) (m : List Heap.Item) : Prop where
  hp : Hp w hb S m
  rf : Rf w rb R m
  now1 : Now w0 w S
  now2 : Now w0 w R
  dis : Dis S R
theorem Both.below {w0 w w' : World} {hb rb : Nat} {S R : Nat → Prop} {m : List Heap.Item} (h : Both w0 w hb rb S R m) (k : Below w.heap.size w w') : Both w0 w' hb rb S R m := ⟨h.hp.still k, h.rf.still k, h.now1.below k, h.now2.below k, h.dis⟩
/-- Half a step: the heap has turned, the reference not yet. -/
structure Half (w0 w : World) (hb rb : Nat) (S R : Nat → Prop) (m m' : List Heap.Item) : Prop where
  hp : Hp w hb S m'
  rf : Rf w rb R m
  now1 : Now w0 w S
  now2 : Now w0 w R
  dis : Dis S R
theorem Both.half {w0 w w' : World} {hb rb : Nat} {S S' R : Nat → Prop} {m m' : List Heap.Item} (h : Both w0 w hb rb S R m) (t : Turn w w' S S') (k : Hp w' hb S' m') : Half w0 w' hb rb S' R m m' :=
  have n1 := h.now1.turn t
  ⟨k, h.rf.keep t.foot (fun b _ hr hs => h.dis b hs hr), n1, h.now2.other n1, h.dis.left t h.rf.lt⟩
theorem Half.both {w0 w w' : World} {hb rb : Nat} {S R R' : Nat → Prop} {m m' : List Heap.Item} (h : Half w0 w hb rb S R m m') (t : Turn w w' R R') (k : Rf w' rb R' m') : Both w0 w' hb rb S R' m' :=
  have n2 := h.now2.turn t
  ⟨h.hp.keep t.foot (fun b _ hs hr => h.dis b hs hr), k, h.now1.other n2, n2, h.dis.right t h.hp.lt⟩
theorem Both.halfR {w0 w w' : World} {hb rb : Nat} {S R R' : Nat → Prop} {m m' : List Heap.Item} (h : Both w0 w hb rb S R m) (t : Turn w w' R R') (k : Rf w' rb R' m') : Half w0 w' hb rb S R' m' m :=
  have n2 := h.now2.turn t
  ⟨h.hp.keep t.foot (fun b _ hs hr => h.dis b hs hr), k, h.now1.other n2, n2, h.dis.right t h.hp.lt⟩
theorem Half.bothH {w0 w w' : World} {hb rb : Nat} {S S' R : Nat → Prop} {m m' : List Heap.Item} (h : Half w0 w hb rb S R m' m) (t : Turn w w' S S') (k : Hp w' hb S' m') : Both w0 w' hb rb S' R m' :=
  have n1 := h.now1.turn t
  ⟨k, h.rf.keep t.foot (fun b _ hr hs => h.dis b hs hr), n1, h.now2.other n1, h.dis.left t h.rf.lt⟩
theorem op_at {w : World} {A : Option Addr} {l : List POp} (h : Kd.C kOp w A l.length l) (i : Nat) (hi : i < l.length) : ∃ ad x, A = some ad ∧ l[i]? = some x ∧ w.cell? (ad.add (i * 3)) = some (.int .i64 x.kind) ∧ w.cell? ⟨(ad.add (i * 3)).block, (ad.add (i * 3)).off + 1, none⟩ = some (.int .i64 x.id) ∧ w.cell? ⟨(ad.add (i * 3)).block, (ad.add (i * 3)).off + 2, none⟩ = some (.int .u64 x.at_) := by
  obtain ⟨ad, e, hc⟩ := h.2.2 (by omega)
  obtain ⟨c, hs, hr, hcell⟩ := hc i _ (List.getElem?_eq_getElem hi)
  refine ⟨ad, _, e, List.getElem?_eq_getElem hi, ?_⟩
  obtain ⟨c1, c2, e1, k1, c3, c4, e2, k2, k3⟩ := hr
  simp only [Kd.int, Kd.scalar] at k1 k2 k3
  subst k1 k2 k3 e2 e1
  have e : ∀ k : Nat, k ≠ 0 → ad.add (i * 3 + k) = ⟨(ad.add (i * 3)).block, (ad.add (i * 3)).off + k, none⟩ := fun k hk => by
    rw [← Addr.add_add]
    rw [Addr.add, if_neg hk]
  refine ⟨hcell 0 _ rfl, ?_, ?_⟩
  · rw [← e 1 (by decide)]; exact hcell 1 _ rfl
  · rw [← e 2 (by decide)]; exact hcell 2 _ rfl
theorem dueRest_le : ∀ (f : Nat) (m : List Heap.Item) (now : Int), (dueRest f m now).length ≤ m.length
  | 0, m, now => Nat.le_refl _
  | f + 1, m, now => by
    simp only [dueRest]
    split
    · exact Nat.le_refl _
    · split
      · exact Nat.le_refl _
      · exact Nat.le_trans (dueRest_le f _ now) (without_le m _)
theorem sameB_self (o : List Int) : sameB (fun x y : Int => x == y) o o = true := by
  unfold sameB
  simp
/-- Two rows that hold the same: Plain tells so. -/
theorem plain_same {w : World} {v1 v2 : Value} {b1 b2 : Nat} {o : List Int} (h1 : w.ownsRow b1 3 1 v1 o.length (ints o)) (h2 : w.ownsRow b2 3 1 v2 o.length (ints o)) (hs : o.length ≤ 1000000000) :
    Calls Try.prog 11 #[v1, v2] w fun e w' => e = .returned (.bool true) ∧ Below w.heap.size w w' := by
  obtain ⟨A1, c1, rfl, hc1, hC1⟩ := own_C h1 hs
  obtain ⟨A2, c2, rfl, hc2, hC2⟩ := own_C h2 hs
  refine (comptoirhelp_Plain_int.calls A1 c1 o A2 c2 o true w hC1 hc1 hC2 hc2 (by unfold comptoirhelp_Plain_int.f; rw [sameB_self])).mono ?_
  rintro e w' ⟨rfl, hd⟩
  exact ⟨rfl, hd.below⟩
theorem own_turn {w w' : World} {v : Value} {b0 n : Nat} {xs : List Value} {S S' : Nat → Prop} (h : w.ownsRow b0 3 1 v n xs) (t : Turn w w' S S') (hn : ∀ b, S b → b < b0) : w'.ownsRow b0 3 1 v n xs := by
  refine ⟨h.1, h.2.imp id (fun ⟨g, cap, cur, e1, e2, e3, e4⟩ => ⟨g, cap, cur, e1, e2, t.foot.blk e3 (fun hs => ?_), e4⟩)⟩
  have := hn g hs
  omega
set_option maxHeartbeats 8000000 in
set_option maxRecDepth 100000 in
theorem play_walk (A0 : Option Addr) (c0 : Nat) (l0 : List POp) (w : World) (hr0 : Kd.C kOp w A0 l0.length l0) (hc0 : l0.length ≤ c0) (hwf : ∀ x ∈ l0, (Lit.int .i64 x.id).wf = true) :
    Calls Try.prog 3 #[.slice A0 l0.length c0] w fun e w' => e = .returned (.bool true) ∧ Below w.heap.size w w' := by
  have hlm := hr0.2.1
  have HR := Aside0.mk hr0
  have HW := Aside0.mk hwf
  clear hr0 hwf
  go_enter Try.func3, Try.ntmps3
  go_wp2_with fail
  refine (new7 w).mono ?_
  rintro e w1 ⟨hb, rfl, hp, hf⟩
  have HF := Aside0.mk (And.intro hp hf)
  clear hp hf
  go_wp2_with fail
  obtain ⟨hp1, hf1⟩ := HF.out
  have hb0 : Below w1.heap.size w1 (w1.alloc (.cells #[.slice none 0 0, .slice none 0 0] 29)) := below_alloc (Below.refl _ w1) _
  have hrf : Rf (w1.alloc (.cells #[.slice none 0 0, .slice none 0 0] 29)) w1.heap.size (fun b => b = w1.heap.size) [] :=
    ⟨_, _, [], ⟨blk_new w1 _, World.ownsRow_nil _ 0 3 1, World.ownsRow_nil _ 0 31 1, by simp, by simp [Value.ownBlock], by simp [Value.ownBlock], by simp [Value.ownBlock]⟩, List.Perm.refl _, by simp [Uniq], rfl, by simp [Value.ownBlock], by simp [Value.ownBlock], fun b hb => by subst hb; simp⟩
  have n1 : Now w w1 (fun b => w.heap.size ≤ b ∧ b < w1.heap.size) := Now.foot hf1 (fun b hb => hb.1)
  have n2 : Now w (w1.alloc (.cells #[.slice none 0 0, .slice none 0 0] 29)) (fun b => b = w1.heap.size) := ⟨(n1.below hb0).bel, fun b hb => by subst hb; exact n1.bel.size⟩
  have hboth : Both w (w1.alloc (.cells #[.slice none 0 0, .slice none 0 0] 29)) hb w1.heap.size (fun b => w.heap.size ≤ b ∧ b < w1.heap.size) (fun b => b = w1.heap.size) [] :=
    ⟨hp1.still hb0, hrf, n1.below hb0, n2, fun b h1 h2 => by omega⟩
  obtain ⟨W, hW⟩ : ∃ W, W = w1.alloc (.cells #[.slice none 0 0, .slice none 0 0] 29) := ⟨_, rfl⟩
  obtain ⟨rb, hrb⟩ : ∃ rb, rb = w1.heap.size := ⟨_, rfl⟩
  rw [← hW, ← hrb] at hboth ⊢
  have HB := Aside0.mk hboth
  have HA := Aside0.mk (awake8 W)
  clear hp1 hf1 hb0 hrf n1 n2 hboth hW hrb HF
  refine HA.out.mono ?_
  rintro e w2 ⟨rfl, hbel⟩
  have HB2 := Aside0.mk (HB.out.below hbel)
  clear hbel
  go_wp2_with fail
  go_loopg [5] 120 (fun gg s5 wr => ∃ (i : Nat) (S R : Nat → Prop) (m : List Heap.Item), s5 = .int .i64 i ∧ i ≤ l0.length ∧ i ≤ 120 ∧ i + gg = 120 ∧ m.length ≤ i ∧ Aside0 (Both w wr hb rb S R m))
  case atStart => exact ⟨0, _, _, [], rfl, by omega, by omega, by omega, by simp, HB2⟩
  case round =>
    obtain ⟨i, S, R, m, rfl, hi, hi2, hgg, hml, HH⟩ := hrel
    by_cases c0 : i < l0.length
    · by_cases c1 : i < 120
      · obtain ⟨ad, x, rfl, hx, k0, k1, k2⟩ := op_at (Kd.C_below HR.out HH.out.now1.bel) i c0
        have hwx := HW.out x (List.mem_of_getElem? hx)
        have q0 : (i : Int) < (l0.length : Int) := by omega
        have q1 : (i : Int) < 120 := by omega
        have HX := Aside0.mk (And.intro hwx hx)
        obtain ⟨xk, xi, xa⟩ := x
        simp only at k0 k1 k2
        have hb3 := HH.out.below (below_alloc (Below.refl wr.heap.size wr) (.cells #[.int .i64 xk, .int .i64 xi, .int .u64 xa] 33))
        obtain ⟨p, hp⟩ : ∃ p, p = wr.heap.size := ⟨_, rfl⟩
        obtain ⟨W3, hW3⟩ : ∃ W3, W3 = wr.alloc (.cells #[.int .i64 xk, .int .i64 xi, .int .u64 xa] 33) := ⟨_, rfl⟩
        have hblk : W3.heap[p]? = some (.cells #[.int .i64 xk, .int .i64 xi, .int .u64 xa] 33 (0, 0)) := by rw [hW3, hp]; exact blk_new wr _
        have hpS : ¬ S p := fun h => by have := HH.out.hp.lt p h; omega
        have hpR : ¬ R p := fun h => by have := HH.out.rf.lt p h; omega
        rw [← hW3] at hb3
        have HB3 := Aside0.mk hb3
        have HK := Aside0.mk (And.intro hblk (And.intro hpS hpR))
        have HB3d := Aside0.mk (hb3.below (below_drew1 (Below.refl W3.heap.size W3)))
        have HD : Aside0 ((dueOf m.length m xa).length ≤ 1000000000) := ⟨by have := dueOf_length m.length m xa; omega⟩
        have HM : Aside0 (m.length < 1000000000) := ⟨by omega⟩
        have HI := Aside0.mk (And.intro hi (And.intro hi2 (And.intro hgg hml)))
        clear hwx hx hb3 hblk hpS hpR HH
        go_upto_block 2 with fail
        rw [← hW3, ← hp]
        clear hW3 hp
        have d0 : W3.cell? ⟨p, 0, none⟩ = some (.int .i64 xk) := (blk_cell HK.out.1 0).trans rfl
        have d1 : W3.cell? ⟨p, 1, none⟩ = some (.int .i64 xi) := (blk_cell HK.out.1 1).trans rfl
        have d2 : W3.cell? ⟨p, 2, none⟩ = some (.int .u64 xa) := (blk_cell HK.out.1 2).trans rfl
        go_cut [7] from 23 to 111 (fun v7 wc => v7 = .bool true ∧ ∃ (S' R' : Nat → Prop) (m' : List Heap.Item), Aside0 (m'.length ≤ i + 1 ∧ Both w wc hb rb S' R' m'))
        case first =>
          by_cases e1 : xk = 1
          · subst e1
            clear d0 d2
            go_wp2_with fail
            go_region_held3 (fun w' => w'.cell? ⟨p, 1, none⟩ = some (.int .i64 xi)) (go_keep)
              (first
                | (go_at_call 9; refine (drop9 hb _ m _ xi HR4.out.hp HX.out.1).mono ?_; rintro e w5 ⟨rfl, S5, hp5, ht5⟩; have HB5 := Aside0.mk (HR4.out.bothH ht5 hp5); have hk5 : w5.cell? ⟨p, 1, none⟩ = some (.int .i64 xi) := (blk_cell (ht5.foot.blk HK4.out HK.out.2.1) 1).trans rfl; clear hp5 ht5)
                | (go_at_call 10; refine (rf_drop HH4.out.rf xi).mono ?_; rintro e w5 ⟨rfl, R5, hp5, ht5⟩; have HB5 := Aside0.mk (HH4.out.both ht5 hp5); have hk5 : w5.cell? ⟨p, 1, none⟩ = some (.int .i64 xi) := (blk_cell (ht5.foot.blk HK4.out HK.out.2.2) 1).trans rfl; clear hp5 ht5)
                | (go_at_call 9; refine (drop9 hb _ m _ xi HB3d.out.hp HX.out.1).mono ?_; rintro e w4 ⟨rfl, S4, hp4, ht4⟩; have HH4 := Aside0.mk (HB3d.out.half ht4 hp4); have HK4 := Aside0.mk (ht4.foot.blk (w := W3.drew) HK.out.1 HK.out.2.1); have hk4 : w4.cell? ⟨p, 1, none⟩ = some (.int .i64 xi) := (blk_cell HK4.out 1).trans rfl; clear hp4 ht4)
                | (go_at_call 10; refine (rf_drop HB3d.out.rf xi).mono ?_; rintro e w4 ⟨rfl, R4, hp4, ht4⟩; have HR4 := Aside0.mk (HB3d.out.halfR ht4 hp4); have HK4 := Aside0.mk (ht4.foot.blk (w := W3.drew) HK.out.1 HK.out.2.2); have hk4 : w4.cell? ⟨p, 1, none⟩ = some (.int .i64 xi) := (blk_cell HK4.out 1).trans rfl; clear hp4 ht4))
            all_goals go_wp2
            all_goals go_meet
            all_goals (case rel => exact ⟨by simp, _, _, _, ⟨Nat.le_succ_of_le (Nat.le_trans (without_le m xi) HI.out.2.2.2), HB5.out⟩⟩)
          · by_cases e2 : xk = 2
            · subst e2
              clear d0 d1
              go_wp2_with fail
              go_region_held3 (fun w' => w'.cell? ⟨p, 2, none⟩ = some (.int .u64 xa)) (go_keep)
                (first
                  | (go_at_call 11; refine (plain_same HO5.out.1 HO5.out.2 HD.out).mono ?_; rintro e w6 ⟨rfl, hb6⟩; have HB6 := Aside0.mk (HB5.out.below hb6); have hk6 : w6.cell? ⟨p, 2, none⟩ = some (.int .u64 xa) := (hb6.cell (World.block_lt_of_cell? w5 _ hk5)).trans hk5; clear hb6)
                  | (go_at_call 12; refine (due12 hb _ m xa _ HR4.out.hp).mono ?_; rintro e w5 ⟨v2, rfl, ho2, S5, hp5, ht5, hn5⟩; have HB5 := Aside0.mk (HR4.out.bothH ht5 hp5); have HO5 := Aside0.mk (And.intro ho2 (own_turn HO4.out ht5 HB3d.out.hp.lt)); have hk5 : w5.cell? ⟨p, 2, none⟩ = some (.int .u64 xa) := (blk_cell (ht5.foot.blk HK4.out HK.out.2.1) 2).trans rfl; clear hp5 ht5 ho2 hn5)
                  | (go_at_call 13; refine (due13 rb _ m xa _ HH4.out.rf).mono ?_; rintro e w5 ⟨v2, rfl, ho2, R5, hp5, ht5, hn5⟩; have HB5 := Aside0.mk (HH4.out.both ht5 hp5); have HO5 := Aside0.mk (And.intro (own_turn HO4.out ht5 HB3d.out.rf.lt) ho2); have hk5 : w5.cell? ⟨p, 2, none⟩ = some (.int .u64 xa) := (blk_cell (ht5.foot.blk HK4.out HK.out.2.2) 2).trans rfl; clear hp5 ht5 ho2 hn5)
                  | (go_at_call 12; refine (due12 hb _ m xa _ HB3d.out.hp).mono ?_; rintro e w4 ⟨v1, rfl, ho1, S4, hp4, ht4, hn4⟩; have HH4 := Aside0.mk (HB3d.out.half ht4 hp4); have HO4 := Aside0.mk ho1; have HK4 := Aside0.mk (ht4.foot.blk (w := W3.drew) HK.out.1 HK.out.2.1); have hk4 : w4.cell? ⟨p, 2, none⟩ = some (.int .u64 xa) := (blk_cell HK4.out 2).trans rfl; clear hp4 ht4 ho1 hn4)
                  | (go_at_call 13; refine (due13 rb _ m xa _ HB3d.out.rf).mono ?_; rintro e w4 ⟨v1, rfl, ho1, R4, hp4, ht4, hn4⟩; have HR4 := Aside0.mk (HB3d.out.halfR ht4 hp4); have HO4 := Aside0.mk ho1; have HK4 := Aside0.mk (ht4.foot.blk (w := W3.drew) HK.out.1 HK.out.2.2); have hk4 : w4.cell? ⟨p, 2, none⟩ = some (.int .u64 xa) := (blk_cell HK4.out 2).trans rfl; clear hp4 ht4 ho1 hn4))
              all_goals go_wp2
              all_goals go_meet
              all_goals (case rel => exact ⟨rfl, _, _, _, ⟨Nat.le_succ_of_le (Nat.le_trans (dueRest_le _ m xa) HI.out.2.2.2), HB6.out⟩⟩)
            · have e1' : (xk == 1) = false := beq_eq_false_iff_ne.2 e1
              have e2' : (xk == 2) = false := beq_eq_false_iff_ne.2 e2
              have H14 := Aside0.mk (set14 hb _ m W3 xi xa HB3.out.hp HX.out.1 HM.out)
              go_wp2_with fail
              refine H14.out.mono ?_
              rintro e w4 ⟨rfl, S4, hp4, ht4⟩
              have HH4 := Aside0.mk (HB3.out.half ht4 hp4)
              have HK4 := Aside0.mk (ht4.foot.blk HK.out.1 HK.out.2.1)
              have H15 := Aside0.mk (rf_set HH4.out.rf xi xa HM.out)
              have f1 : w4.cell? ⟨p, 1, none⟩ = some (.int .i64 xi) := (blk_cell HK4.out 1).trans rfl
              have f2 : w4.cell? ⟨p, 2, none⟩ = some (.int .u64 xa) := (blk_cell HK4.out 2).trans rfl
              clear hp4 ht4 d0 d1 d2
              go_wp2_with fail
              refine H15.out.mono ?_
              rintro e w5 ⟨rfl, R5, hp5, ht5⟩
              have HB5 := Aside0.mk (HH4.out.both ht5 hp5)
              clear hp5 ht5 f1 f2
              go_wp2_with fail
              go_meet
              case rel =>
                refine ⟨rfl, _, _, _, ⟨?_, HB5.out⟩⟩
                have := without_le m xi
                have := HI.out.2.2.2
                rw [List.length_append, List.length_singleton]; omega
        case rest =>
          obtain ⟨rfl, S', R', m', HH'⟩ := hcut
          have HX1 := Aside0.mk (next16 hb _ _ wc HH'.out.2.hp)
          clear d0 d1 d2
          have hnv : ∃ (n1 n2 : Int) (n3 : Bool), nextVal m' = .tuple #[.int .i64 n1, .int .u64 n2, .bool n3] := by
            cases hq : soonest m' with
            | none => exact ⟨0, 0, false, nextVal_none hq⟩
            | some x => exact ⟨x.1, x.2, true, nextVal_some hq⟩
          obtain ⟨n1, n2, n3, hnv⟩ := hnv
          rw [hnv] at HX1
          have HNV := Aside0.mk hnv
          clear hnv
          go_wp2_with fail
          refine HX1.out.mono ?_
          rintro e w5 ⟨rfl, hb5⟩
          have HB5 := Aside0.mk (HH'.out.2.below hb5)
          have hx2 := rf_next HB5.out.rf
          rw [HNV.out] at hx2
          have HX2 := Aside0.mk hx2
          clear hb5 hx2
          go_wp2_with fail
          refine HX2.out.mono ?_
          rintro e w6 ⟨rfl, hb6⟩
          have HB6 := Aside0.mk (HB5.out.below hb6)
          have HB7 := Aside0.mk (HB6.out.below (below_drew1 (Below.refl w6.heap.size w6)))
          have HL := Aside0.mk (len18 hb _ _ w6.drew HB7.out.hp)
          obtain ⟨A, c, hA⟩ : ∃ A c, w6.cell? ⟨rb, 0, none⟩ = some (.slice A m'.length c) := by
            obtain ⟨iv, av, m0, hr⟩ := HB6.out.rf
            obtain ⟨A, c, e⟩ := own_any hr.ref.own1
            refine ⟨A, c, ?_⟩
            rw [← hr.perm.length_eq, ← e]
            exact hr.ref.at_.1
          clear hb6
          go_wp2_with fail
          go_region_held3 (fun w' => w'.cell? ⟨rb, 0, none⟩ = some (.slice A m'.length c)) (go_keep)
            ((go_at_call 18; refine HL.out.mono ?_; rintro e w7 ⟨rfl, rfl⟩))
          all_goals go_wp2
          all_goals go_roundg (120 - (i + 1))
          all_goals first
            | (case measure => omega)
            | (case rel => exact ⟨i + 1, _, _, _, rfl, by omega, by omega, by omega, HH'.out.1, HB7⟩)
      · obtain rfl : i = 120 := by omega
        have q0 : (120 : Int) < (l0.length : Int) := by omega
        go_wp2_with fail
        go_ret
        exact ⟨rfl, HH.out.now1.bel⟩
    · obtain rfl : i = l0.length := by omega
      go_wp2_with fail
      go_ret
      exact ⟨rfl, HH.out.now1.bel⟩
end Go.Proofs.Ythjcdjanadeobaa.MH
