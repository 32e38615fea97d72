/- What comptoirhelp.Own and comptoirhelp.Kept come to: a copy with spare room behind it that holds something; and that it is as it was. -/
import Derived.Test.YtfjfmlajnamlpaaHTellsB
import Derived.Test.YtfjfmlajnamlpaaHPlain
import Derived.Deep.AppendSrc
import Derived.Laws.MakeOwn
namespace Go.Proofs.Ytfjfmlajnamlpaa.MB
open Go.RowKit Go.Proofs.YtfjfmlajnamlpaaW.PrintWords Go.Proofs.YtfjfmlajnamlpaaW.PrintLast Go.Proofs.YtfjfmlajnamlpaaW.PrintMore
set_option linter.unusedVariables false
set_option linter.unusedSimpArgs false

/-- Block g: the numbers xs, and in the room behind them, up to place u, the number fill. -/
def FillTo (w : World) (g e : Nat) (kd : IntKind) (xs : List Int) (fill : Int) (u : Nat) : Prop :=
  ∃ cur : Array Value, w.heap[g]? = some (.cells cur e (0, 0)) ∧ cur.size = xs.length + 3 ∧ cur.toList.take xs.length = nums kd xs ∧ ∀ j, xs.length ≤ j → j < u → cur[j]? = some (.int kd fill)
section
variable {w w' : World} {g e : Nat} {kd : IntKind} {xs : List Int} {fill : Int} {u : Nat}
theorem FillTo.kept (h : FillTo w g e kd xs fill u) (hb : Below w.heap.size w w') : FillTo w' g e kd xs fill u := by
  obtain ⟨cur, a, r⟩ := h
  exact ⟨cur, blk_below a hb, r⟩
theorem FillTo.own (h : FillTo w g e kd xs fill u) (hl : xs.length ≤ 1000) : w.ownsRow 0 e 1 (.slice (some ⟨g, 0, none⟩) xs.length (xs.length + 3)) xs.length (nums kd xs) := by
  obtain ⟨cur, a, b, c, d⟩ := h
  exact ⟨by simp [nums], .inr ⟨g, xs.length + 3, cur, rfl, Nat.zero_le _, a, by omega, by unfold maxLen; omega, by omega, by rw [Nat.mul_one]; exact c⟩⟩
theorem FillTo.at_ (h : FillTo w g e kd xs fill u) (j : Nat) (hj : j < xs.length + 3) : (∃ v, w.cell? ⟨g, j, none⟩ = some v) ∧ w.frozen? ⟨g, j, none⟩ = false ∧ (xs.length ≤ j → j < u → w.cell? ⟨g, j, none⟩ = some (.int kd fill)) := by
  obtain ⟨cur, a, b, c, d⟩ := h
  have hc := blk_cell a j
  refine ⟨⟨cur[j]'(by omega), by rw [hc, Array.getElem?_eq_getElem (by omega)]⟩, blk_frozen a j, fun h1 h2 => by rw [hc, d j h1 h2]⟩
theorem FillTo.step (h : FillTo w g e kd xs fill u) (h1 : xs.length ≤ u) (h2 : u < xs.length + 3) : FillTo (w.setCell ⟨g, u, none⟩ (.int kd fill)) g e kd xs fill (u + 1) := by
  obtain ⟨cur, a, b, c, d⟩ := h
  refine ⟨_, blk_set a u _, by rw [Array.size_setIfInBounds]; exact b, ?_, fun j j1 j2 => ?_⟩
  · rw [Array.toList_setIfInBounds, List.take_set, List.set_eq_of_length_le (by rw [List.length_take]; omega)]
    exact c
  · rw [Array.getElem?_setIfInBounds]
    by_cases ej : u = j
    · subst ej
      rw [if_pos rfl, if_pos (by omega)]
    · rw [if_neg ej]
      exact d j j1 (by omega)
theorem set_grown (w : World) (g i : Nat) (v : Value) : w.grownBy (w.setCell ⟨g, i, none⟩ v) (some g) :=
  ⟨rfl, rfl, rfl, by simp [World.setCell], fun k _ hk => Below.heap_setCell _ _ _ _ (fun e => hk (by rw [e]))⟩
end
theorem wpList_append_eq {P : Program} {W w1 : World} {ops : Array Oper} {rest : List Oper} {o : Oper} {a : Act} {Q : Exit → Act → World → Prop} (hgd : o.guard = none) (s x : Operand) (t : TypeId)
    (ho : o.op = .call { callee := .builtin .append, args := #[s, x], argTypes := #[t, t] }) (vs vx v1 : Value) (hs : a.eval s = vs) (hx : a.eval x = vx)
    (hr : (Builtin.append_ #[t, t] o.type #[vs, vx]).run P W = .ok v1 w1) (h : wpList P ops Q rest (a.put o.dst v1) w1) : wpList P ops Q (o :: rest) a W := by
  refine wpList_plain hgd fun K hK => ?_
  unfold Oper.wp execOp
  simp only [ho, resolve, invoke, builtin, Sem.run_bind, Sem.run_pure, Result.andThen_ok, List.map_toArray, List.map_cons, List.map_nil, hs, hx, hr]
  exact hK _ _ h
theorem alike (l : List Int) : sameB (fun x y : Int => x == y) l l = true := by
  unfold sameB
  rw [beq_self_eq_true, Bool.true_and]
  induction l with
  | nil => rfl
  | cons a l ih => simp
theorem own_Ck {k : IntKind} {w : World} {base e n : Nat} {A : Option Addr} {c : Nat} {xs : List Int} (ho : w.ownsRow base e 1 (.slice A n c) n (nums k xs)) : n = xs.length ∧ n ≤ c ∧ Kd.C (Kd.int k) w A xs.length xs := by
  have hl : n = xs.length := by have := ho.1; simp [nums] at this; omega
  subst hl
  have h : Kd.R (Kd.int k) e w base (fun _ => True) (.slice A xs.length c) xs := Kd.R_of_own ho (fun _ _ => trivial)
  exact Kd.R_reads' h

/-! ### at int -/
theorem src_int (w : World) (A : Option Addr) (c : Nat) (l : List Int) (h : Kd.C (Kd.int .i64) w A l.length l) : Src Try.prog 1 27 (.slice A l.length c) l.length (nums .i64 l) w := by
  have hR : ReadsOf (Value.int .i64) (0 : Int) w A l.length l := Kd.reads_of_C h
  have h1 : ∀ u ∈ nums .i64 l, u.oneCell' = true := fun u hu => by simp only [nums, List.mem_map] at hu; obtain ⟨q, _, rfl⟩ := hu; rfl
  rcases Nat.eq_zero_or_pos l.length with h0 | hp
  · obtain rfl := List.length_eq_zero_iff.1 h0
    rcases A with _ | ad
    · exact Src.ofNil w Try.underlying27 c
    · exact Src.ofSlice w Try.underlying27 ad 0 c [] rfl (fun j u hu => by simp at hu) (fun _ h => by cases h)
  · obtain ⟨ad, rfl, hc⟩ := hR.2.2 hp
    refine Src.ofSlice w Try.underlying27 ad l.length c (nums .i64 l) (by simp [nums]) (fun j u hu => ?_) h1
    have hj : j < l.length := by
      rcases Nat.lt_or_ge j l.length with h | h
      · exact h
      · rw [List.getElem?_eq_none (by simpa [nums] using h)] at hu; cases hu
    rw [hc j hj, ← hu]
    simp [nums, List.getD_eq_getElem?_getD, List.getElem?_eq_getElem hj]
theorem made_int (W : World) (n : Nat) (hn : n ≤ 1000) : (Instr.makeSlice 27 (.int .i64 0) (.int .i64 ((n : Int) + 3))).run Try.prog W = .ok (.slice (some ⟨W.heap.size, 0, none⟩) 0 (n + 3)) (W.alloc (.cells (madeCells #[.int .i64 0] (n + 3)) 3)) := by
  obtain ⟨i, hi, hzz⟩ := Option.map_eq_some_iff.1 info3
  simp only [Prod.mk.injEq] at hzz
  obtain ⟨hz, hs, hb⟩ := hzz
  have h := run_make (P := Try.prog) (w := W) 27 3 i (.int .i64 0) Try.underlying27 hi hz .i64 .i64 0 ((n : Int) + 3) (by omega) (by omega) (by rw [hb]; omega) (by omega)
  rw [h, hs]
  have e : ((n : Int) + 3).toNat = n + 3 := by omega
  rw [e, Nat.mul_one]
  rfl
theorem copied_int (w : World) (g : Nat) (A : Option Addr) (c : Nat) (l : List Int) (fill : Int) (hl : l.length ≤ 1000) (hg : w.heap[g]? = some (.cells (madeCells #[.int .i64 0] (l.length + 3)) 3 (0, 0))) (h : Kd.C (Kd.int .i64) w A l.length l) :
    ∃ w', (Builtin.append_ #[27, 27] 27 #[.slice (some ⟨g, 0, none⟩) 0 (l.length + 3), .slice A l.length c]).run Try.prog w = .ok (.slice (some ⟨g, 0, none⟩) l.length (l.length + 3)) w' ∧ FillTo w' g 3 .i64 l fill l.length ∧ w.grownBy w' (some g) := by
  obtain ⟨i, hi, hzz⟩ := Option.map_eq_some_iff.1 info3
  simp only [Prod.mk.injEq] at hzz
  obtain ⟨hz, hs, hb⟩ := hzz
  have hsz : (madeCells #[Value.int .i64 0] (l.length + 3)).size = l.length + 3 := by simp [size_madeCells]
  have hnl : (nums .i64 l).length = l.length := by simp [nums]
  have hS := src_int w A c l h
  rw [← hs] at hS
  have hr := run_append_room_src (P := Try.prog) w 27 27 27 3 i Try.underlying27 hi g 0 0 (l.length + 3) _ l.length (nums .i64 l) hS (by omega)
    (fun j hj => by rw [blk_cell hg _, Array.getElem?_eq_getElem (by rw [hsz]; omega)]; rfl) (fun j hj => blk_frozen hg _)
  rw [Nat.zero_add, Nat.zero_mul, Nat.add_zero] at hr
  obtain ⟨cur', h3, h4, h5⟩ := setCells_row (nums .i64 l) 0 w _ hg (by rw [hsz]; omega)
  obtain ⟨s1, s2, s3, s4⟩ := setCells_same g (nums .i64 l) 0 w
  refine ⟨_, hr, ⟨cur', h3, by rw [h4]; exact hsz, ?_, fun j j1 j2 => by omega⟩, ⟨s1, s2, s3, by rw [s4]; exact Nat.le_refl _, fun k _ hk => setCells_far _ _ k (fun he => hk (by rw [he]))⟩⟩
  rw [h5, List.take_zero, List.nil_append, ← hnl, List.take_left']
  rfl
set_option maxHeartbeats 8000000 in
set_option maxRecDepth 100000 in
theorem own_int (A0 : Option Addr) (c0 : Nat) (l0 : List Int) (fill : Int) (w : World) (hr0 : Kd.C (Kd.int .i64) w A0 l0.length l0) (hl : l0.length ≤ 1000) :
    Calls Try.prog 10 #[.slice A0 l0.length c0, .int .i64 fill] w fun e w' => ∃ g : Nat, e = .returned (.slice (some ⟨g, 0, none⟩) l0.length (l0.length + 3)) ∧ FillTo w' g 3 .i64 l0 fill (l0.length + 3) ∧ w.heap.size ≤ g ∧ Below w.heap.size w w' := by
  have hmk := fun W => made_int W l0.length hl
  have hw := show wrap64 ((l0.length : Int) + 3) = (l0.length : Int) + 3 from w64_in _ ⟨by omega, by omega⟩
  have HB := Aside0.mk (below_alloc (Below.refl _ w) (.cells (madeCells #[.int .i64 0] (l0.length + 3)) 3))
  obtain ⟨w1, hap, hf, hgr⟩ := copied_int (w.alloc (.cells (madeCells #[.int .i64 0] (l0.length + 3)) 3)) w.heap.size A0 c0 l0 fill hl (blk_new w _) (Kd.C_alloc hr0 _)
  have HF := Aside0.mk hf
  have HB1 := Aside0.mk (HB.out.grown hgr HB.out.size (fun k hk => Nat.le_of_eq (Option.some.inj hk)))
  have HL := Aside0.mk hl
  have q1 : (l0.length : Int) + 3 ≤ ((l0.length + 3 : Nat) : Int) := by omega
  have q2 : ((l0.length : Int) + 3).toNat = l0.length + 3 := by omega
  have HAP := Aside0.mk hap
  clear hr0 hf hgr HB hl hap
  go_enter Try.func10, Try.ntmps10
  go_wp2_with ((with_reducible refine gate_builtin (b := .append) (xs := #[.tmp 12, .tmp 13]) rfl ?_); refine wpList_append_eq rfl (.tmp 12) (.tmp 13) 27 rfl _ _ _ rfl rfl HAP.out ?_)
  go_loopg [7] 3 (fun gg s7 wr => ∃ kk : Nat, l0.length ≤ kk ∧ kk ≤ l0.length + 3 ∧ l0.length + 3 - kk ≤ gg ∧ s7 = .int .i64 kk ∧ Aside0 (FillTo wr w.heap.size 3 .i64 l0 fill kk) ∧ Aside0 (Below w.heap.size w wr))
  case atStart => exact ⟨l0.length, Nat.le_refl _, by omega, by omega, rfl, HF, HB1⟩
  case round =>
    obtain ⟨kk, hk1, hk2, hgg, rfl, HF2, HB2⟩ := hrel
    by_cases hlt : kk < l0.length + 3
    · have hltz : (kk : Int) < ((l0.length + 3 : Nat) : Int) := by omega
      have hltd : decide ((kk : Int) < ((l0.length + 3 : Nat) : Int)) = true := decide_eq_true hltz
      obtain ⟨⟨u0, hc⟩, hfz, _⟩ := HF2.out.at_ kk hlt
      have HF3 := Aside0.mk (HF2.out.step hk1 hlt)
      have HB3 := Aside0.mk (HB2.out.grown (set_grown wr w.heap.size kk (.int .i64 fill)) HB2.out.size (fun k hk => Nat.le_of_eq (Option.some.inj hk)))
      have hw2 := show wrap64 ((kk : Int) + 1) = ((kk + 1 : Nat) : Int) by rw [w64_in _ ⟨by omega, by have := HL.out; omega⟩]; omega
      go_wp2
      go_roundg (l0.length + 3 - (kk + 1))
      case measure => omega
      case rel => exact ⟨kk + 1, by omega, by omega, by omega, by first | rfl | simp [hw2], HF3, HB3⟩
    · have hltd : decide ((kk : Int) < ((l0.length + 3 : Nat) : Int)) = false := decide_eq_false (by omega)
      obtain rfl : kk = l0.length + 3 := by omega
      go_wp2
      go_ret
      exact ⟨w.heap.size, rfl, HF2.out, Nat.le_refl _, HB2.out⟩
set_option maxHeartbeats 8000000 in
set_option maxRecDepth 100000 in
theorem kept_int (g : Nat) (A1 : Option Addr) (c1 : Nat) (l0 : List Int) (fill : Int) (w : World) (hf : FillTo w g 3 .i64 l0 fill (l0.length + 3)) (hr1 : Kd.C (Kd.int .i64) w A1 l0.length l0) (hc1 : l0.length ≤ c1) (hl : l0.length ≤ 1000) :
    Calls Try.prog 17 #[.slice (some ⟨g, 0, none⟩) l0.length (l0.length + 3), .slice A1 l0.length c1, .int .i64 fill] w fun e w' => e = .returned (.bool true) ∧ Below w.heap.size w w' := by
  obtain ⟨_, e2, hC⟩ := own_Ck (hf.own hl)
  have HP := Aside0.mk (comptoirhelp_Plain_int.calls (some ⟨g, 0, none⟩) (l0.length + 3) l0 A1 c1 l0 true w hC e2 hr1 hc1 (by unfold comptoirhelp_Plain_int.f; rw [alike]))
  have HF := Aside0.mk hf
  have HL := Aside0.mk hl
  have hw := show wrap64 ((l0.length : Int) + 3) = (l0.length : Int) + 3 from w64_in _ ⟨by omega, by omega⟩
  have q0 : decide (((l0.length + 3 : Nat) : Int) < (l0.length : Int) + 3) = false := decide_eq_false (by omega)
  have q1 : (l0.length : Int) + 3 ≤ ((l0.length + 3 : Nat) : Int) := by omega
  have q2 : ((l0.length : Int) + 3).toNat = l0.length + 3 := by omega
  clear hf hr1 hc1 hl hC e2
  go_enter Try.func17, Try.ntmps17
  go_wp2_with (go_at_call 16; refine HP.out.mono ?_; rintro e w' ⟨rfl, ⟨nd, rfl⟩⟩)
  go_loopg [8] 3 (fun gg s8 wr => ∃ kk : Nat, l0.length ≤ kk ∧ kk ≤ l0.length + 3 ∧ l0.length + 3 - kk ≤ gg ∧ s8 = .int .i64 kk ∧ Aside0 (FillTo wr g 3 .i64 l0 fill (l0.length + 3)) ∧ Aside0 (Below w.heap.size w wr))
  case atStart => exact ⟨l0.length, Nat.le_refl _, by omega, by omega, rfl, ⟨HF.out.kept (pw_below_drewN (Below.refl _ w) nd)⟩, ⟨pw_below_drewN (Below.refl _ w) nd⟩⟩
  case round =>
    obtain ⟨kk, hk1, hk2, hgg, rfl, HF2, HB2⟩ := hrel
    by_cases hlt : kk < l0.length + 3
    · have hltz : (kk : Int) < ((l0.length + 3 : Nat) : Int) := by omega
      have hltd : decide ((kk : Int) < ((l0.length + 3 : Nat) : Int)) = true := decide_eq_true hltz
      have hc := (HF2.out.at_ kk hlt).2.2 hk1 hlt
      have hw2 := show wrap64 ((kk : Int) + 1) = ((kk + 1 : Nat) : Int) by rw [w64_in _ ⟨by omega, by have := HL.out; omega⟩]; omega
      go_wp2
      go_roundg (l0.length + 3 - (kk + 1))
      case measure => omega
      case rel => exact ⟨kk + 1, by omega, by omega, by omega, by first | rfl | simp [hw2], HF2, HB2⟩
    · have hltd : decide ((kk : Int) < ((l0.length + 3 : Nat) : Int)) = false := decide_eq_false (by omega)
      obtain rfl : kk = l0.length + 3 := by omega
      go_wp2
      go_ret
      exact ⟨rfl, HB2.out⟩

/-! ### at byte -/
theorem src_byte (w : World) (A : Option Addr) (c : Nat) (l : List Int) (h : Kd.C (Kd.int .u8) w A l.length l) : Src Try.prog 1 23 (.slice A l.length c) l.length (nums .u8 l) w := by
  have hR : ReadsOf (Value.int .u8) (0 : Int) w A l.length l := Kd.reads_of_C h
  have h1 : ∀ u ∈ nums .u8 l, u.oneCell' = true := fun u hu => by simp only [nums, List.mem_map] at hu; obtain ⟨q, _, rfl⟩ := hu; rfl
  rcases Nat.eq_zero_or_pos l.length with h0 | hp
  · obtain rfl := List.length_eq_zero_iff.1 h0
    rcases A with _ | ad
    · exact Src.ofNil w Try.underlying23 c
    · exact Src.ofSlice w Try.underlying23 ad 0 c [] rfl (fun j u hu => by simp at hu) (fun _ h => by cases h)
  · obtain ⟨ad, rfl, hc⟩ := hR.2.2 hp
    refine Src.ofSlice w Try.underlying23 ad l.length c (nums .u8 l) (by simp [nums]) (fun j u hu => ?_) h1
    have hj : j < l.length := by
      rcases Nat.lt_or_ge j l.length with h | h
      · exact h
      · rw [List.getElem?_eq_none (by simpa [nums] using h)] at hu; cases hu
    rw [hc j hj, ← hu]
    simp [nums, List.getD_eq_getElem?_getD, List.getElem?_eq_getElem hj]
theorem made_byte (W : World) (n : Nat) (hn : n ≤ 1000) : (Instr.makeSlice 23 (.int .i64 0) (.int .i64 ((n : Int) + 3))).run Try.prog W = .ok (.slice (some ⟨W.heap.size, 0, none⟩) 0 (n + 3)) (W.alloc (.cells (madeCells #[.int .u8 0] (n + 3)) 5)) := by
  obtain ⟨i, hi, hzz⟩ := Option.map_eq_some_iff.1 info5
  simp only [Prod.mk.injEq] at hzz
  obtain ⟨hz, hs, hb⟩ := hzz
  have h := run_make (P := Try.prog) (w := W) 23 5 i (.int .u8 0) Try.underlying23 hi hz .i64 .i64 0 ((n : Int) + 3) (by omega) (by omega) (by rw [hb]; omega) (by omega)
  rw [h, hs]
  have e : ((n : Int) + 3).toNat = n + 3 := by omega
  rw [e, Nat.mul_one]
  rfl
theorem copied_byte (w : World) (g : Nat) (A : Option Addr) (c : Nat) (l : List Int) (fill : Int) (hl : l.length ≤ 1000) (hg : w.heap[g]? = some (.cells (madeCells #[.int .u8 0] (l.length + 3)) 5 (0, 0))) (h : Kd.C (Kd.int .u8) w A l.length l) :
    ∃ w', (Builtin.append_ #[23, 23] 23 #[.slice (some ⟨g, 0, none⟩) 0 (l.length + 3), .slice A l.length c]).run Try.prog w = .ok (.slice (some ⟨g, 0, none⟩) l.length (l.length + 3)) w' ∧ FillTo w' g 5 .u8 l fill l.length ∧ w.grownBy w' (some g) := by
  obtain ⟨i, hi, hzz⟩ := Option.map_eq_some_iff.1 info5
  simp only [Prod.mk.injEq] at hzz
  obtain ⟨hz, hs, hb⟩ := hzz
  have hsz : (madeCells #[Value.int .u8 0] (l.length + 3)).size = l.length + 3 := by simp [size_madeCells]
  have hnl : (nums .u8 l).length = l.length := by simp [nums]
  have hS := src_byte w A c l h
  rw [← hs] at hS
  have hr := run_append_room_src (P := Try.prog) w 23 23 23 5 i Try.underlying23 hi g 0 0 (l.length + 3) _ l.length (nums .u8 l) hS (by omega)
    (fun j hj => by rw [blk_cell hg _, Array.getElem?_eq_getElem (by rw [hsz]; omega)]; rfl) (fun j hj => blk_frozen hg _)
  rw [Nat.zero_add, Nat.zero_mul, Nat.add_zero] at hr
  obtain ⟨cur', h3, h4, h5⟩ := setCells_row (nums .u8 l) 0 w _ hg (by rw [hsz]; omega)
  obtain ⟨s1, s2, s3, s4⟩ := setCells_same g (nums .u8 l) 0 w
  refine ⟨_, hr, ⟨cur', h3, by rw [h4]; exact hsz, ?_, fun j j1 j2 => by omega⟩, ⟨s1, s2, s3, by rw [s4]; exact Nat.le_refl _, fun k _ hk => setCells_far _ _ k (fun he => hk (by rw [he]))⟩⟩
  rw [h5, List.take_zero, List.nil_append, ← hnl, List.take_left']
  rfl
set_option maxHeartbeats 8000000 in
set_option maxRecDepth 100000 in
theorem own_byte (A0 : Option Addr) (c0 : Nat) (l0 : List Int) (fill : Int) (w : World) (hr0 : Kd.C (Kd.int .u8) w A0 l0.length l0) (hl : l0.length ≤ 1000) :
    Calls Try.prog 11 #[.slice A0 l0.length c0, .int .u8 fill] w fun e w' => ∃ g : Nat, e = .returned (.slice (some ⟨g, 0, none⟩) l0.length (l0.length + 3)) ∧ FillTo w' g 5 .u8 l0 fill (l0.length + 3) ∧ w.heap.size ≤ g ∧ Below w.heap.size w w' := by
  have hmk := fun W => made_byte W l0.length hl
  have hw := show wrap64 ((l0.length : Int) + 3) = (l0.length : Int) + 3 from w64_in _ ⟨by omega, by omega⟩
  have HB := Aside0.mk (below_alloc (Below.refl _ w) (.cells (madeCells #[.int .u8 0] (l0.length + 3)) 5))
  obtain ⟨w1, hap, hf, hgr⟩ := copied_byte (w.alloc (.cells (madeCells #[.int .u8 0] (l0.length + 3)) 5)) w.heap.size A0 c0 l0 fill hl (blk_new w _) (Kd.C_alloc hr0 _)
  have HF := Aside0.mk hf
  have HB1 := Aside0.mk (HB.out.grown hgr HB.out.size (fun k hk => Nat.le_of_eq (Option.some.inj hk)))
  have HL := Aside0.mk hl
  have q1 : (l0.length : Int) + 3 ≤ ((l0.length + 3 : Nat) : Int) := by omega
  have q2 : ((l0.length : Int) + 3).toNat = l0.length + 3 := by omega
  have HAP := Aside0.mk hap
  clear hr0 hf hgr HB hl hap
  go_enter Try.func11, Try.ntmps11
  go_wp2_with ((with_reducible refine gate_builtin (b := .append) (xs := #[.tmp 12, .tmp 13]) rfl ?_); refine wpList_append_eq rfl (.tmp 12) (.tmp 13) 23 rfl _ _ _ rfl rfl HAP.out ?_)
  go_loopg [7] 3 (fun gg s7 wr => ∃ kk : Nat, l0.length ≤ kk ∧ kk ≤ l0.length + 3 ∧ l0.length + 3 - kk ≤ gg ∧ s7 = .int .i64 kk ∧ Aside0 (FillTo wr w.heap.size 5 .u8 l0 fill kk) ∧ Aside0 (Below w.heap.size w wr))
  case atStart => exact ⟨l0.length, Nat.le_refl _, by omega, by omega, rfl, HF, HB1⟩
  case round =>
    obtain ⟨kk, hk1, hk2, hgg, rfl, HF2, HB2⟩ := hrel
    by_cases hlt : kk < l0.length + 3
    · have hltz : (kk : Int) < ((l0.length + 3 : Nat) : Int) := by omega
      have hltd : decide ((kk : Int) < ((l0.length + 3 : Nat) : Int)) = true := decide_eq_true hltz
      obtain ⟨⟨u0, hc⟩, hfz, _⟩ := HF2.out.at_ kk hlt
      have HF3 := Aside0.mk (HF2.out.step hk1 hlt)
      have HB3 := Aside0.mk (HB2.out.grown (set_grown wr w.heap.size kk (.int .u8 fill)) HB2.out.size (fun k hk => Nat.le_of_eq (Option.some.inj hk)))
      have hw2 := show wrap64 ((kk : Int) + 1) = ((kk + 1 : Nat) : Int) by rw [w64_in _ ⟨by omega, by have := HL.out; omega⟩]; omega
      go_wp2
      go_roundg (l0.length + 3 - (kk + 1))
      case measure => omega
      case rel => exact ⟨kk + 1, by omega, by omega, by omega, by first | rfl | simp [hw2], HF3, HB3⟩
    · have hltd : decide ((kk : Int) < ((l0.length + 3 : Nat) : Int)) = false := decide_eq_false (by omega)
      obtain rfl : kk = l0.length + 3 := by omega
      go_wp2
      go_ret
      exact ⟨w.heap.size, rfl, HF2.out, Nat.le_refl _, HB2.out⟩
set_option maxHeartbeats 8000000 in
set_option maxRecDepth 100000 in
theorem kept_byte (g : Nat) (A1 : Option Addr) (c1 : Nat) (l0 : List Int) (fill : Int) (w : World) (hf : FillTo w g 5 .u8 l0 fill (l0.length + 3)) (hr1 : Kd.C (Kd.int .u8) w A1 l0.length l0) (hc1 : l0.length ≤ c1) (hl : l0.length ≤ 1000) :
    Calls Try.prog 18 #[.slice (some ⟨g, 0, none⟩) l0.length (l0.length + 3), .slice A1 l0.length c1, .int .u8 fill] w fun e w' => e = .returned (.bool true) ∧ Below w.heap.size w w' := by
  obtain ⟨_, e2, hC⟩ := own_Ck (hf.own hl)
  have HP := Aside0.mk (comptoirhelp_Plain_byte.calls (some ⟨g, 0, none⟩) (l0.length + 3) l0 A1 c1 l0 true w hC e2 hr1 hc1 (by unfold comptoirhelp_Plain_byte.f; rw [alike]))
  have HF := Aside0.mk hf
  have HL := Aside0.mk hl
  have hw := show wrap64 ((l0.length : Int) + 3) = (l0.length : Int) + 3 from w64_in _ ⟨by omega, by omega⟩
  have q0 : decide (((l0.length + 3 : Nat) : Int) < (l0.length : Int) + 3) = false := decide_eq_false (by omega)
  have q1 : (l0.length : Int) + 3 ≤ ((l0.length + 3 : Nat) : Int) := by omega
  have q2 : ((l0.length : Int) + 3).toNat = l0.length + 3 := by omega
  clear hf hr1 hc1 hl hC e2
  go_enter Try.func18, Try.ntmps18
  go_wp2_with (go_at_call 27; refine HP.out.mono ?_; rintro e w' ⟨rfl, ⟨nd, rfl⟩⟩)
  go_loopg [8] 3 (fun gg s8 wr => ∃ kk : Nat, l0.length ≤ kk ∧ kk ≤ l0.length + 3 ∧ l0.length + 3 - kk ≤ gg ∧ s8 = .int .i64 kk ∧ Aside0 (FillTo wr g 5 .u8 l0 fill (l0.length + 3)) ∧ Aside0 (Below w.heap.size w wr))
  case atStart => exact ⟨l0.length, Nat.le_refl _, by omega, by omega, rfl, ⟨HF.out.kept (pw_below_drewN (Below.refl _ w) nd)⟩, ⟨pw_below_drewN (Below.refl _ w) nd⟩⟩
  case round =>
    obtain ⟨kk, hk1, hk2, hgg, rfl, HF2, HB2⟩ := hrel
    by_cases hlt : kk < l0.length + 3
    · have hltz : (kk : Int) < ((l0.length + 3 : Nat) : Int) := by omega
      have hltd : decide ((kk : Int) < ((l0.length + 3 : Nat) : Int)) = true := decide_eq_true hltz
      have hc := (HF2.out.at_ kk hlt).2.2 hk1 hlt
      have hw2 := show wrap64 ((kk : Int) + 1) = ((kk + 1 : Nat) : Int) by rw [w64_in _ ⟨by omega, by have := HL.out; omega⟩]; omega
      go_wp2
      go_roundg (l0.length + 3 - (kk + 1))
      case measure => omega
      case rel => exact ⟨kk + 1, by omega, by omega, by omega, by first | rfl | simp [hw2], HF2, HB2⟩
    · have hltd : decide ((kk : Int) < ((l0.length + 3 : Nat) : Int)) = false := decide_eq_false (by omega)
      obtain rfl : kk = l0.length + 3 := by omega
      go_wp2
      go_ret
      exact ⟨rfl, HB2.out⟩
end Go.Proofs.Ytfjfmlajnamlpaa.MB
