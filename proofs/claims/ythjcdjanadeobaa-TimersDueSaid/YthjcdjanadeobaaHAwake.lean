/- The law's first line walked: awake. What is new since a world. -/
import Derived.Test.YthjcdjanadeobaaHDue
import Derived.Test.YthjcdjanadeobaaHPlain
import Derived.Test.YthjcdjanadeobaaHRefDrop
namespace Go.Proofs.Ythjcdjanadeobaa.MH
open Go.RowKit Go.Proofs.YthjcdjanadeobaaW.PrintWords Go.Proofs.YthjcdjanadeobaaW.PrintLast Go.Proofs.YthjcdjanadeobaaW.PrintMore Go.Proofs.Ythjcdjanadeobaa.Heap
set_option linter.unusedVariables false
set_option linter.unusedSimpArgs false

/-- Nothing elder than w0 has turned, and S is all new. -/
structure Now (w0 w : World) (S : Nat → Prop) : Prop where
  bel : Below w0.heap.size w0 w
  new : ∀ b, S b → w0.heap.size ≤ b
theorem Now.turn {w0 w w' : World} {S S' : Nat → Prop} (h : Now w0 w S) (k : Turn w w' S S') : Now w0 w' S' := by
  have hs := h.bel.size
  refine ⟨⟨k.foot.1.trans h.bel.os, k.foot.2.1.trans h.bel.tape, k.foot.2.2.1.trans h.bel.output, Nat.le_trans hs k.foot.2.2.2.1, fun b hb => (k.foot.2.2.2.2 b (Nat.lt_of_lt_of_le hb hs) (fun hS => ?_)).trans (h.bel.block b hb)⟩, fun b hb => ?_⟩
  · have := h.new b hS; omega
  · rcases k.new b hb with h1 | h1
    · exact h.new b h1
    · omega
theorem Now.below {w0 w w' : World} {S : Nat → Prop} (h : Now w0 w S) (k : Below w.heap.size w w') : Now w0 w' S := h.turn (Turn.below k)
theorem Now.other {w0 w w' : World} {S R : Nat → Prop} (h : Now w0 w S) (k : Now w0 w' R) : Now w0 w' S := ⟨k.bel, h.new⟩
theorem Now.foot {w0 w : World} {S : Nat → Prop} (h : Foot (fun _ => False) w0 w) (hS : ∀ b, S b → w0.heap.size ≤ b) : Now w0 w S :=
  ⟨⟨h.1, h.2.1, h.2.2.1, h.2.2.2.1, fun b hb => h.2.2.2.2 b hb (fun h => h)⟩, hS⟩
theorem own_C {w : World} {base : Nat} {v : Value} {o : List Int} (h : w.ownsRow base 3 1 v o.length (ints o)) (hs : o.length ≤ 1000000000) : ∃ A c, v = .slice A o.length c ∧ o.length ≤ c ∧ Kd.C (Kd.int .i64) w A o.length o := by
  have h0 := own_zero h
  rcases Nat.eq_zero_or_pos o.length with hz | hz
  · rcases h.2 with ⟨rfl, _⟩ | ⟨g, cap, cur, rfl, _, _, hc, _⟩
    · exact ⟨none, 0, by rw [hz], by omega, rfl, by omega, fun hp => absurd hp (by omega)⟩
    · exact ⟨_, cap, rfl, hc, rfl, by omega, fun hp => absurd hp (by omega)⟩
  · obtain ⟨g, cap, rfl, _, _⟩ := h.form hz
    have hcap : o.length ≤ cap := by
      rcases h.2 with ⟨e, _⟩ | ⟨g2, c2, cur, e, _, _, e2, _⟩
      · cases e
      · injection e with _ _ e; omega
    refine ⟨_, cap, rfl, hcap, rfl, by omega, fun _ => ⟨⟨g, 0, none⟩, rfl, fun j p hj => ⟨[.int .i64 p], rfl, rfl, fun i u hu => ?_⟩⟩⟩
    have hi : i = 0 := by
      have := (List.getElem?_eq_some_iff.1 hu).1
      simpa using this
    subst hi
    simp only [List.getElem?_cons_zero, Option.some.injEq] at hu
    subst hu
    have hjj : (ints o)[j]? = some (.int .i64 p) := by simp [ints, hj]
    have := own_cell h0 rfl hjj
    have hadd : (⟨g, 0, none⟩ : Addr).add (j * 1 + 0) = ⟨g, j, none⟩ := by rw [add_lit]; simp
    show w.cell? ((⟨g, 0, none⟩ : Addr).add (j * 1 + 0)) = _
    rw [hadd]; exact this
set_option maxHeartbeats 8000000 in
set_option maxRecDepth 100000 in
theorem awake8 (w : World) : Calls Try.prog 8 #[] w fun e w' => e = .returned (.bool true) ∧ Below w.heap.size w w' := by
  have e1 : without [] 7 ++ [((7 : Int), (5 : Int))] = [(7, 5)] := rfl
  have e2 : without [((7 : Int), (5 : Int))] 3 ++ [(3, 5)] = [(7, 5), (3, 5)] := by decide
  have e3 : nextVal [((7 : Int), (5 : Int)), (3, 5)] = .tuple #[.int .i64 3, .int .u64 5, .bool true] := by
    have : soonest [((7 : Int), (5 : Int)), (3, 5)] = some (3, 5) := by decide
    rw [nextVal_some this]
  have E := Aside0.mk (And.intro e1 (And.intro e2 e3))
  clear e1 e2 e3
  go_enter Try.func8, Try.ntmps8
  go_wp2_with fail
  refine (new7 w).mono ?_
  rintro e w1 ⟨hb, rfl, hp, hf⟩
  have HN := Aside0.mk (Now.foot hf (S := fun b => w.heap.size ≤ b ∧ b < w1.heap.size) (fun b hb => hb.1))
  have H1 := Aside0.mk (set14 hb _ [] w1 7 5 hp (by decide) (by simp))
  clear hp hf
  go_wp2_with fail
  refine H1.out.mono ?_
  rintro e w2 ⟨rfl, S2, hp, ht⟩
  have HN2 := Aside0.mk (HN.out.turn ht)
  rw [E.out.1] at hp
  have H2 := Aside0.mk (set14 hb _ _ w2 3 5 hp (by decide) (by simp))
  clear hp ht
  go_wp2_with fail
  refine H2.out.mono ?_
  rintro e w3 ⟨rfl, S3, hp, ht⟩
  have HN3 := Aside0.mk (HN2.out.turn ht)
  rw [E.out.2.1] at hp
  have h3 := next16 hb _ _ w3 hp
  rw [E.out.2.2] at h3
  have H3 := Aside0.mk h3
  have HP := Aside0.mk hp
  clear hp ht h3
  go_wp2_with fail
  refine H3.out.mono ?_
  rintro e w4 ⟨rfl, hbel⟩
  have HN4 := Aside0.mk (HN3.out.below hbel)
  have H4 := Aside0.mk (len18 hb _ _ w4 (HP.out.still hbel))
  clear hbel
  go_wp2_with fail
  refine H4.out.mono ?_
  rintro e w5 ⟨rfl, rfl⟩
  go_wp2_with fail
  go_ret
  exact ⟨rfl, HN4.out.bel⟩
end Go.Proofs.Ythjcdjanadeobaa.MH
