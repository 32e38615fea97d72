/- What codes.Words and codes.Action come to: the walks of slices.IndexFunc, codes.find and the two methods that are handed to it. -/
import Derived.Test.YtahakmhfdogdcaaMCx1
import Derived.Shelf.Abstract
namespace Go.Proofs.Ytahakmhfdogdcaa.MC
open Go.RowKit Go.Proofs.YtahakmhfdogdcaaW.PrintWords Go.Proofs.YtahakmhfdogdcaaW.PrintLast Go.Proofs.YtahakmhfdogdcaaW.PrintMore
set_option linter.unusedVariables false
set_option linter.unusedSimpArgs false

/-- Where the first row is that passes; -1: none. -/
def idxOf (p : S37 → Bool) (l : List S37) : Int := match l.findIdx? p with
  | some i => (i : Int)
  | none => -1
theorem idx_hit (p : S37 → Bool) (l : List S37) (k : Nat) (hk : k < l.length) (h : p (rd_T37 l k) = true) (ha : ∀ j, j < k → p (rd_T37 l j) = false) : idxOf p l = (k : Int) := by
  have e : l.findIdx? p = some k := by
    rw [List.findIdx?_eq_some_iff_getElem]
    refine ⟨hk, ?_, fun j hj => ?_⟩
    · have := h
      simp [rd_T37, List.getD_eq_getElem?_getD, List.getElem?_eq_getElem hk] at this
      exact this
    · have := ha j hj
      simp [rd_T37, List.getD_eq_getElem?_getD, List.getElem?_eq_getElem (show j < l.length by omega)] at this
      simpa using this
  unfold idxOf
  rw [e]
theorem idx_miss (p : S37 → Bool) (l : List S37) (ha : ∀ j : Nat, j < l.length → p (rd_T37 l j) = false) : idxOf p l = -1 := by
  have e : l.findIdx? p = none := by
    rw [List.findIdx?_eq_none_iff]
    intro x hx
    obtain ⟨j, hj, rfl⟩ := List.getElem_of_mem hx
    have := ha j hj
    simp [rd_T37, List.getD_eq_getElem?_getD, List.getElem?_eq_getElem hj] at this
    exact this
  unfold idxOf
  rw [e]

set_option maxHeartbeats 4000000 in
theorem index_calls (p : S37 → Bool) (g : Nat) (bs : Array Value) (eg : ∀ args w, (callFunc g args).run Try.prog w = .ok (.enter g args) w) (A : Option Addr) (c : Nat) (l : List S37) (w : World)
    (hr : Kd.C k37 w A l.length l) (hm : l.length ≤ 9223372036854775807)
    (hp : ∀ (x : S37) (W : World), Calls Try.prog g (bs ++ #[.agg #[.string x.f0, .string x.f1, .string x.f2]]) W fun e w' => e = .returned (.bool (p x)) ∧ Below W.heap.size W w') :
    Calls Try.prog 25 #[.slice A l.length c, .func (.func g) bs #[]] w fun e w' => e = .returned (.int .i64 (idxOf p l)) ∧ Below w.heap.size w w' := by
  have HR := Aside0.mk hr
  have HP := Aside0.mk hp
  clear hr hp
  go_enter Try.func25, Try.ntmps25
  go_wp2
  go_loopg [5, 8] l.length (fun gg _ s8 wr => ∃ kk : Nat, kk ≤ l.length ∧ l.length - kk ≤ gg ∧ s8 = .int .i64 kk ∧ Aside0 (Below w.heap.size w wr) ∧ Aside0 (∀ j : Nat, j < kk → p (rd_T37 l j) = false))
  case atStart => exact ⟨0, Nat.zero_le _, by omega, rfl, ⟨Below.refl _ w⟩, ⟨fun j hj => absurd hj (Nat.not_lt_zero _)⟩⟩
  case round =>
    obtain ⟨kk, hkk, hg, rfl, BW, AL⟩ := hrel
    by_cases hlt : kk < l.length
    · have hltz : (kk : Int) < (l.length : Int) := by omega
      obtain ⟨ad, e1, h0, h1, h2⟩ := at_T37 (Kd.C_below HR.out BW.out) (kk : Int) (by omega) (by omega)
      subst e1
      rw [Int.toNat_natCast] at h0 h1 h2
      have hcall := HP.out (rd_T37 l kk) wr
      generalize hy : rd_T37 l (kk : Int) = y at h0 h1 h2 hcall
      have B : Aside0 (rd_T37 l (kk : Int) = y) := ⟨hy⟩
      clear hy
      cases hq : p y with
      | true =>
        rw [hq] at hcall
        have HQ := Aside0.mk hq
        clear hq
        go_wp2_with (go_at_fn g; refine hcall.mono ?_; rintro e w' ⟨rfl, hb'⟩)
        go_ret
        refine ⟨?_, BW.out.trans (hb'.mono BW.out.size)⟩
        rw [idx_hit p l kk hlt (by rw [B.out]; exact HQ.out) AL.out]
        rfl
      | false =>
        rw [hq] at hcall
        have HQ := Aside0.mk hq
        clear hq
        go_wp2_with (go_at_fn g; refine hcall.mono ?_; rintro e w' ⟨rfl, hb'⟩)
        go_roundg (l.length - (kk + 1))
        case measure => omega
        case rel =>
          refine ⟨kk + 1, by omega, by omega, by go_num, ⟨BW.out.trans (hb'.mono BW.out.size)⟩, ⟨fun j hj => ?_⟩⟩
          by_cases e : j = kk
          · subst e
            rw [B.out]; exact HQ.out
          · exact AL.out j (by omega)
    · have hltz : ¬ (kk : Int) < (l.length : Int) := by omega
      go_wp2
      go_ret
      refine ⟨?_, BW.out⟩
      rw [idx_miss p l (fun j hj => AL.out j (by omega))]
      rfl


theorem idx_range (p : S37 → Bool) (l : List S37) : idxOf p l = -1 ∨ 0 ≤ idxOf p l ∧ idxOf p l < l.length := by
  unfold idxOf
  cases h : l.findIdx? p with
  | none => exact .inl rfl
  | some i =>
    have := (List.findIdx?_eq_some_iff_getElem.1 h).1
    exact .inr ⟨by simp, by simp; omega⟩
def theTable : List S37 := (codes_table.f).getD []
theorem table_some : codes_table.f = some theTable := rfl
/-- What find comes to. -/
def findOf (p : S37 → Bool) : S37 × Bool := if idxOf p theTable < 0 then (z37, false) else (rd_T37 theTable (idxOf p theTable), true)

set_option maxHeartbeats 4000000 in
theorem find_calls (p : S37 → Bool) (g : Nat) (bs : Array Value) (eg : ∀ args w, (callFunc g args).run Try.prog w = .ok (.enter g args) w) (w : World)
    (hp : ∀ (x : S37) (W : World), Calls Try.prog g (bs ++ #[.agg #[.string x.f0, .string x.f1, .string x.f2]]) W fun e w' => e = .returned (.bool (p x)) ∧ Below W.heap.size W w') :
    Calls Try.prog 18 #[.func (.func g) bs #[]] w fun e w' => e = .returned (.tuple #[.agg #[.string (findOf p).1.f0, .string (findOf p).1.f1, .string (findOf p).1.f2], .bool (findOf p).2]) ∧ Below w.heap.size w w' := by
  have HP := Aside0.mk hp
  clear hp
  have hu37 := Try.underlying37
  go_enter Try.func18, Try.ntmps18
  go_wp2_with fail
  refine (codes_table.calls theTable _ table_some).mono ?_
  rintro e w1 ⟨v0, rfl, ho, hb⟩
  obtain ⟨A, c, rfl, hlc, hC⟩ := Kd.R_reads ho
  have HC := Aside0.mk hC
  have HB := Aside0.mk hb
  clear ho hC hb
  go_wp2_with fail
  refine (index_calls p g bs eg A c theTable w1 HC.out (by decide) HP.out).mono ?_
  rintro e w2 ⟨rfl, hb2⟩
  have hk0 : (w.alloc (Obj.cells #[.string ⟨#[]⟩, .string ⟨#[]⟩, .string ⟨#[]⟩] 37)).heap[w.heap.size]? = some (.cells #[.string ⟨#[]⟩, .string ⟨#[]⟩, .string ⟨#[]⟩] 37 (0, 0)) := heap_alloc_new w _
  have BK := Aside0.mk (blk_below (blk_below hk0 HB.out) hb2)
  have BW : Aside0 (Below w.heap.size w w2) := ⟨below_step (below_step (below_alloc (Below.refl _ w) _) HB.out) hb2⟩
  have HC2 := Aside0.mk (Kd.C_below HC.out hb2)
  clear hb2 HB HC hk0
  have hc0 : w2.cell? ⟨w.heap.size, 0, none⟩ = some (.string ⟨#[]⟩) := (blk_cell BK.out 0).trans rfl
  have hc1 : w2.cell? ⟨w.heap.size, 1, none⟩ = some (.string ⟨#[]⟩) := (blk_cell BK.out 1).trans rfl
  have hc2 : w2.cell? ⟨w.heap.size, 2, none⟩ = some (.string ⟨#[]⟩) := (blk_cell BK.out 2).trans rfl
  have hf0 := blk_frozen BK.out 0
  have hf1 := blk_frozen BK.out 1
  have hf2 := blk_frozen BK.out 2
  rcases idx_range p theTable with hi | ⟨hi0, hi1⟩
  · have HF : Aside0 (findOf p = (z37, false)) := ⟨by unfold findOf; rw [if_pos (by omega)]⟩
    have hi' : decide (idxOf p theTable < 0) = true := by rw [hi]; decide
    have HI := Aside0.mk hi
    clear hi
    go_wp2
    rw [HF.out]
    exact bodyPost_ret (v := .tuple #[.agg #[.string ⟨#[]⟩, .string ⟨#[]⟩, .string ⟨#[]⟩], .bool false]) (by simp [results, Try.results18, go_sem, hc0, hc1, hc2]) rfl ⟨rfl, by repeat (first | exact BW.out | refine below_set ?_ (Nat.le_refl _))⟩
  · have HF : Aside0 (findOf p = (rd_T37 theTable (idxOf p theTable), true)) := ⟨by unfold findOf; rw [if_neg (by omega)]⟩
    have hi' : decide (idxOf p theTable < 0) = false := decide_eq_false (by omega)
    obtain ⟨ad, e1, h0, h1, h2⟩ := at_T37 HC2.out (idxOf p theTable) hi0 hi1
    subst e1
    generalize idxOf p theTable = ix at *
    generalize rd_T37 theTable ix = y at *
    go_wp2
    exact bodyPost_ret (v := .tuple #[.agg #[.string y.f0, .string y.f1, .string y.f2], .bool true]) (by simp [results, Try.results18, go_sem, hc0, hc1, hc2]) rfl ⟨by rw [HF.out], by repeat (first | exact BW.out | refine below_set ?_ (Nat.le_refl _))⟩

def actionIs (a : ByteArray) (r : S37) : Bool := r.f0.toList == a.toList
theorem byAction_calls (a b c : ByteArray) (x : S37) (W : World) :
    Calls Try.prog 19 (#[.agg #[.string a, .string b, .string c]] ++ #[.agg #[.string x.f0, .string x.f1, .string x.f2]]) W fun e w' => e = .returned (.bool (actionIs a x)) ∧ Below W.heap.size W w' := by
  show Calls Try.prog 19 #[.agg #[.string a, .string b, .string c], .agg #[.string x.f0, .string x.f1, .string x.f2]] W _
  go_enter Try.func19, Try.ntmps19
  go_wp2
  go_ret
  exact ⟨rfl, below_alloc (below_alloc (Below.refl _ W) _) _⟩
def wordsAre (a b : ByteArray) (r : S37) : Bool := r.f1.toList == a.toList && r.f2.toList == b.toList
theorem byWords_calls (a b c : ByteArray) (x : S37) (W : World) :
    Calls Try.prog 21 (#[.agg #[.string a, .string b, .string c]] ++ #[.agg #[.string x.f0, .string x.f1, .string x.f2]]) W fun e w' => e = .returned (.bool (wordsAre b c x)) ∧ Below W.heap.size W w' := by
  show Calls Try.prog 21 #[.agg #[.string a, .string b, .string c], .agg #[.string x.f0, .string x.f1, .string x.f2]] W _
  cases h1 : (x.f1.toList == b.toList)
  · have HF : Aside0 (wordsAre b c x = false) := ⟨by unfold wordsAre; rw [h1]; rfl⟩
    go_enter Try.func21, Try.ntmps21
    go_wp2
    go_ret
    exact ⟨by rw [HF.out]; rfl, below_alloc (below_alloc (Below.refl _ W) _) _⟩
  · have HF : Aside0 (wordsAre b c x = (x.f2.toList == c.toList)) := ⟨by unfold wordsAre; rw [h1]; rfl⟩
    go_enter Try.func21, Try.ntmps21
    go_wp2
    go_ret
    exact ⟨by rw [HF.out]; rfl, below_alloc (below_alloc (Below.refl _ W) _) _⟩

def codes_Words.f (a0 : ByteArray) : Option (ByteArray × ByteArray × Bool) := some ((findOf (actionIs a0)).1.f1, (findOf (actionIs a0)).1.f2, (findOf (actionIs a0)).2)
set_option maxHeartbeats 4000000 in
theorem codes_Words.calls (a0 : ByteArray) (r1 : ByteArray) (r2 : ByteArray) (r3 : Bool) (w : World) (h : codes_Words.f a0 = some (r1, r2, r3)) :
    Calls Try.prog 6 #[.string a0] w fun e w' => e = .returned (.tuple #[.string r1, .string r2, .bool r3]) ∧ Below w.heap.size w w' := by
  have hr := Option.some.inj h
  clear h
  simp only [Prod.mk.injEq] at hr
  obtain ⟨rfl, rfl, rfl⟩ := hr
  have hfind := fun W => find_calls (actionIs a0) 19 #[.agg #[.string a0, .string ⟨#[]⟩, .string ⟨#[]⟩]] (enters_of Try.func19 (by kernel_rfl) rfl) W (byAction_calls a0 ⟨#[]⟩ ⟨#[]⟩)
  generalize findOf (actionIs a0) = fo at *
  have HFI := Aside0.mk hfind
  clear hfind
  have hu37 := Try.underlying37
  have hu41 := Try.underlying41
  go_enter Try.func6, Try.ntmps6
  go_wp2_with fail
  refine (HFI.out _).mono ?_
  rintro e w1 ⟨rfl, hb⟩
  have HB := Aside0.mk hb
  clear hb
  go_wp2
  go_quiet (fail)
  go_wp2
  go_ret3
  exact ⟨rfl, by repeat (first | exact HB.out | exact below_alloc HB.out _ | apply pw_below_drewN | refine below_set ?_ HB.out.size)⟩

def codes_Action.f (a0 a1 : ByteArray) : Option (ByteArray × Bool) := some ((findOf (wordsAre a0 a1)).1.f0, (findOf (wordsAre a0 a1)).2)
set_option maxHeartbeats 4000000 in
theorem codes_Action.calls (a0 : ByteArray) (a1 : ByteArray) (r1 : ByteArray) (r2 : Bool) (w : World) (h : codes_Action.f a0 a1 = some (r1, r2)) :
    Calls Try.prog 8 #[.string a0, .string a1] w fun e w' => e = .returned (.tuple #[.string r1, .bool r2]) ∧ Below w.heap.size w w' := by
  have hr := Option.some.inj h
  clear h
  simp only [Prod.mk.injEq] at hr
  obtain ⟨rfl, rfl⟩ := hr
  have hfind := fun W => find_calls (wordsAre a0 a1) 21 #[.agg #[.string ⟨#[]⟩, .string a0, .string a1]] (enters_of Try.func21 (by kernel_rfl) rfl) W (byWords_calls ⟨#[]⟩ a0 a1)
  generalize findOf (wordsAre a0 a1) = fo at *
  have HFI := Aside0.mk hfind
  clear hfind
  have hu37 := Try.underlying37
  have hu41 := Try.underlying41
  go_enter Try.func8, Try.ntmps8
  go_wp2_with fail
  refine (HFI.out _).mono ?_
  rintro e w1 ⟨rfl, hb⟩
  have HB := Aside0.mk hb
  clear hb
  go_wp2
  go_ret2
  exact ⟨rfl, by repeat (first | exact HB.out | exact below_alloc HB.out _ | apply pw_below_drewN | refine below_set ?_ HB.out.size)⟩

end Go.Proofs.Ytahakmhfdogdcaa.MC
