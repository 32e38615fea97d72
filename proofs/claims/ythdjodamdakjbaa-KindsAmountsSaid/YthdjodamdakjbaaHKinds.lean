/- What kinds.OfCode and kinds.OfMti come to: the walks of slices.IndexFunc, kinds.find, its function and the two methods that are handed to it. -/
import Derived.Test.YthdjodamdakjbaaMKx1
import Derived.Shelf.Abstract
import Derived.Deep.RegionWith
namespace Go.Proofs.Ythdjodamdakjbaa.MK
open Go.RowKit Go.Proofs.YthdjodamdakjbaaW.PrintWords Go.Proofs.YthdjodamdakjbaaW.PrintLast Go.Proofs.YthdjodamdakjbaaW.PrintMore
set_option linter.unusedVariables false
set_option linter.unusedSimpArgs false

/-- Where the first row is that passes; -1: none. -/
def idxOf (p : S68 → Bool) (l : List S68) : Int := match l.findIdx? p with
  | some i => (i : Int)
  | none => -1
theorem idx_hit (p : S68 → Bool) (l : List S68) (k : Nat) (hk : k < l.length) (h : p (rd_T68 l k) = true) (ha : ∀ j, j < k → p (rd_T68 l j) = false) : idxOf p l = (k : Int) := by
  have e : l.findIdx? p = some k := by
    rw [List.findIdx?_eq_some_iff_getElem]
    refine ⟨hk, ?_, fun j hj => ?_⟩
    · have := h
      simp [rd_T68, List.getD_eq_getElem?_getD, List.getElem?_eq_getElem hk] at this
      exact this
    · have := ha j hj
      simp [rd_T68, List.getD_eq_getElem?_getD, List.getElem?_eq_getElem (show j < l.length by omega)] at this
      simpa using this
  unfold idxOf
  rw [e]
theorem idx_miss (p : S68 → Bool) (l : List S68) (ha : ∀ j : Nat, j < l.length → p (rd_T68 l j) = false) : idxOf p l = -1 := by
  have e : l.findIdx? p = none := by
    rw [List.findIdx?_eq_none_iff]
    intro x hx
    obtain ⟨j, hj, rfl⟩ := List.getElem_of_mem hx
    have := ha j hj
    simp [rd_T68, List.getD_eq_getElem?_getD, List.getElem?_eq_getElem hj] at this
    exact this
  unfold idxOf
  rw [e]

set_option maxHeartbeats 4000000 in
theorem index_calls (p : S68 → Bool) (g : Nat) (bs : Array Value) (eg : ∀ args w, (callFunc g args).run Try.prog w = .ok (.enter g args) w) (A : Option Addr) (c : Nat) (l : List S68) (w : World)
    (hr : Kd.C k68 w A l.length l) (hm : l.length ≤ 9223372036854775807)
    (hp : ∀ (x : S68) (W : World), Below w.heap.size w W → Calls Try.prog g (#[.agg #[.string x.f0, .string x.f1, .int .i64 x.f2, .int .i64 x.f3]] ++ bs) W fun e w' => e = .returned (.bool (p x)) ∧ Below W.heap.size W w') :
    Calls Try.prog 58 #[.slice A l.length c, .func (.func g) #[] bs] w fun e w' => e = .returned (.int .i64 (idxOf p l)) ∧ Below w.heap.size w w' := by
  have HR := Aside0.mk hr
  have HP := Aside0.mk hp
  clear hr hp
  go_enter Try.func58, Try.ntmps58
  go_wp2
  go_loopg [5, 8] l.length (fun gg _ s8 wr => ∃ kk : Nat, kk ≤ l.length ∧ l.length - kk ≤ gg ∧ s8 = .int .i64 kk ∧ Aside0 (Below w.heap.size w wr) ∧ Aside0 (∀ j : Nat, j < kk → p (rd_T68 l j) = false))
  case atStart => exact ⟨0, Nat.zero_le _, by omega, rfl, ⟨Below.refl _ w⟩, ⟨fun j hj => absurd hj (Nat.not_lt_zero _)⟩⟩
  case round =>
    obtain ⟨kk, hkk, hg, rfl, BW, AL⟩ := hrel
    by_cases hlt : kk < l.length
    · have hltz : (kk : Int) < (l.length : Int) := by omega
      obtain ⟨ad, e1, h0, h1, h2, h3⟩ := at_T68 (Kd.C_below HR.out BW.out) (kk : Int) (by omega) (by omega)
      subst e1
      rw [Int.toNat_natCast] at h0 h1 h2 h3
      have hcall := HP.out (rd_T68 l kk) wr BW.out
      generalize hy : rd_T68 l (kk : Int) = y at h0 h1 h2 h3 hcall
      have B : Aside0 (rd_T68 l (kk : Int) = y) := ⟨hy⟩
      clear hy
      cases hq : p y with
      | true =>
        rw [hq] at hcall
        have HQ := Aside0.mk hq
        clear hq
        go_wp2_with (go_at_fn g; refine hcall.mono ?_; rintro e w' ⟨rfl, hb'⟩)
        go_ret
        refine ⟨?_, BW.out.trans (hb'.mono BW.out.size)⟩
        rw [idx_hit p l kk hlt (by rw [B.out]; exact HQ.out) AL.out]
        rfl
      | false =>
        rw [hq] at hcall
        have HQ := Aside0.mk hq
        clear hq
        go_wp2_with (go_at_fn g; refine hcall.mono ?_; rintro e w' ⟨rfl, hb'⟩)
        go_roundg (l.length - (kk + 1))
        case measure => omega
        case rel =>
          refine ⟨kk + 1, by omega, by omega, by go_num, ⟨BW.out.trans (hb'.mono BW.out.size)⟩, ⟨fun j hj => ?_⟩⟩
          by_cases e : j = kk
          · subst e
            rw [B.out]; exact HQ.out
          · exact AL.out j (by omega)
    · have hltz : ¬ (kk : Int) < (l.length : Int) := by omega
      go_wp2
      go_ret
      refine ⟨?_, BW.out⟩
      rw [idx_miss p l (fun j hj => AL.out j (by omega))]
      rfl



theorem byCode_calls (x : S68) (W : World) : Calls Try.prog 46 #[.agg #[.string x.f0, .string x.f1, .int .i64 x.f2, .int .i64 x.f3]] W fun e w' => e = .returned (.string x.f0) ∧ Below W.heap.size W w' := by
  go_enter Try.func46, Try.ntmps46
  go_wp2
  go_ret
  exact ⟨rfl, below_alloc (Below.refl _ W) _⟩
theorem byMti_calls (x : S68) (W : World) : Calls Try.prog 47 #[.agg #[.string x.f0, .string x.f1, .int .i64 x.f2, .int .i64 x.f3]] W fun e w' => e = .returned (.string x.f1) ∧ Below W.heap.size W w' := by
  go_enter Try.func47, Try.ntmps47
  go_wp2
  go_ret
  exact ⟨rfl, below_alloc (Below.refl _ W) _⟩
set_option maxHeartbeats 4000000 in
theorem one_code_calls (s : ByteArray) (b3 b2 : Nat) (x : S68) (W : World) (h3 : W.cell? ⟨b3, 0, none⟩ = some (.func (.func 46) #[] #[])) (h2 : W.cell? ⟨b2, 0, none⟩ = some (.string s)) :
    Calls Try.prog 59 (#[.agg #[.string x.f0, .string x.f1, .int .i64 x.f2, .int .i64 x.f3]] ++ #[.pointer (some ⟨b3, 0, none⟩), .pointer (some ⟨b2, 0, none⟩)]) W fun e w' => e = .returned (.bool (x.f0.toList == s.toList)) ∧ Below W.heap.size W w' := by
  show Calls Try.prog 59 #[.agg #[.string x.f0, .string x.f1, .int .i64 x.f2, .int .i64 x.f3], .pointer (some ⟨b3, 0, none⟩), .pointer (some ⟨b2, 0, none⟩)] W _
  have l3 := World.block_lt_of_cell? W _ h3
  have l2 := World.block_lt_of_cell? W _ h2
  have hA2 : (W.alloc (.cells #[.string x.f0, .string x.f1, .int .i64 x.f2, .int .i64 x.f3] 68)).cell? ⟨b2, 0, none⟩ = some (.string s) := by rw [World.cell?_alloc_lt W _ _ l2]; exact h2
  go_enter Try.func59, Try.ntmps59
  go_wp2_with fail
  go_region_with (go_at_call 46; refine (byCode_calls x _).mono ?_; rintro e w' ⟨rfl, hb⟩; have hk := pw_cell_below hb hA2)
  all_goals
    go_wp2
    go_ret
    exact ⟨rfl, by first | exact below_step (below_alloc (Below.refl _ W) _) hb | exact below_step (below_drew (below_alloc (Below.refl _ W) _)) hb | exact below_drew (below_step (below_drew (below_alloc (Below.refl _ W) _)) hb)⟩

set_option maxHeartbeats 4000000 in
theorem one_mti_calls (s : ByteArray) (b3 b2 : Nat) (x : S68) (W : World) (h3 : W.cell? ⟨b3, 0, none⟩ = some (.func (.func 47) #[] #[])) (h2 : W.cell? ⟨b2, 0, none⟩ = some (.string s)) :
    Calls Try.prog 59 (#[.agg #[.string x.f0, .string x.f1, .int .i64 x.f2, .int .i64 x.f3]] ++ #[.pointer (some ⟨b3, 0, none⟩), .pointer (some ⟨b2, 0, none⟩)]) W fun e w' => e = .returned (.bool (x.f1.toList == s.toList)) ∧ Below W.heap.size W w' := by
  show Calls Try.prog 59 #[.agg #[.string x.f0, .string x.f1, .int .i64 x.f2, .int .i64 x.f3], .pointer (some ⟨b3, 0, none⟩), .pointer (some ⟨b2, 0, none⟩)] W _
  have l3 := World.block_lt_of_cell? W _ h3
  have l2 := World.block_lt_of_cell? W _ h2
  have hA2 : (W.alloc (.cells #[.string x.f0, .string x.f1, .int .i64 x.f2, .int .i64 x.f3] 68)).cell? ⟨b2, 0, none⟩ = some (.string s) := by rw [World.cell?_alloc_lt W _ _ l2]; exact h2
  go_enter Try.func59, Try.ntmps59
  go_wp2_with fail
  go_region_with (go_at_call 47; refine (byMti_calls x _).mono ?_; rintro e w' ⟨rfl, hb⟩; have hk := pw_cell_below hb hA2)
  all_goals
    go_wp2
    go_ret
    exact ⟨rfl, by first | exact below_step (below_alloc (Below.refl _ W) _) hb | exact below_step (below_drew (below_alloc (Below.refl _ W) _)) hb | exact below_drew (below_step (below_drew (below_alloc (Below.refl _ W) _)) hb)⟩

def theRows : List S68 := (kinds_rows.f).getD []
theorem rows_some : kinds_rows.f = some theRows := rfl

theorem find_of (p : S68 → Bool) : ∃ i, idxOf p theRows = i ∧ -1 ≤ i ∧ i < 11 := by
  refine ⟨_, rfl, ?_⟩
  unfold idxOf
  cases h : theRows.findIdx? p with
  | none => exact ⟨by decide, by decide⟩
  | some i =>
    have h1 := (List.findIdx?_eq_some_iff_getElem.1 h).1
    have : theRows.length = 11 := rfl
    exact ⟨by show (-1 : Int) ≤ i; omega, by show (i : Int) < 11; omega⟩
set_option maxHeartbeats 4000000 in
theorem find_code_calls (s : ByteArray) (w : World) :
    Calls Try.prog 45 #[.string s, .func (.func 46) #[] #[]] w fun e w' => e = .returned (.int .i64 (idxOf (fun x => x.f0.toList == s.toList) theRows + 1)) ∧ Below w.heap.size w w' := by
  obtain ⟨ix, hix, i0, i1⟩ := find_of (fun x => x.f0.toList == s.toList)
  have HIX := Aside0.mk hix
  clear hix
  go_enter Try.func45, Try.ntmps45
  go_wp2_with fail
  refine (kinds_rows.calls theRows _ rows_some).mono ?_
  rintro e w1 ⟨v0, rfl, ho, hb⟩
  obtain ⟨A, c, rfl, hlc, hC⟩ := Kd.R_reads ho
  have HC := Aside0.mk hC
  have HB := Aside0.mk hb
  clear ho hC hb
  go_wp2_with fail
  have e0 : ∀ (W' : World), Below w1.heap.size w1 W' → W'.cell? ⟨w.heap.size + 1, 0, none⟩ = some (.func (.func 46) #[] #[]) ∧ W'.cell? ⟨w.heap.size, 0, none⟩ = some (.string s) := by
    intro W' hb'
    have hk1 : ((w.alloc (.cells #[.string s] 9)).alloc (.cells #[.func (.func 46) #[] #[]] 74)).heap[w.heap.size + 1]? = some (.cells #[.func (.func 46) #[] #[]] 74 (0, 0)) := by
      have := blk_new (w.alloc (.cells #[.string s] 9)) (.cells #[.func (.func 46) #[] #[]] 74)
      simpa using this
    have hk0 := blk_alloc (blk_new w (.cells #[.string s] 9)) (.cells #[.func (.func 46) #[] #[]] 74)
    exact ⟨(blk_cell (blk_below (blk_below hk1 HB.out) hb') 0).trans rfl, (blk_cell (blk_below (blk_below hk0 HB.out) hb') 0).trans rfl⟩
  have E0 := Aside0.mk e0
  clear e0
  refine (index_calls (fun x => x.f0.toList == s.toList) 59 #[.pointer (some ⟨w.heap.size + 1, 0, none⟩), .pointer (some ⟨w.heap.size, 0, none⟩)] (enters_of Try.func59 (by kernel_rfl) rfl) A c theRows w1 HC.out (by decide) (fun x W' hb' => one_code_calls s _ _ x W' (E0.out W' hb').1 (E0.out W' hb').2)).mono ?_
  rintro e w2 ⟨rfl, hb2⟩
  have HW : Aside0 (Below w.heap.size w w2) := ⟨below_step (below_step (below_alloc (below_alloc (Below.refl _ w) _) _) HB.out) hb2⟩
  clear hb2
  rw [HIX.out]
  go_wp2
  go_ret
  exact ⟨by rw [HIX.out]; rfl, HW.out⟩
def kinds_OfCode.f (a0 : ByteArray) : Option Int := some (idxOf (fun x => x.f0.toList == a0.toList) theRows + 1)
theorem kinds_OfCode.calls (a0 : ByteArray) (r : Int) (w : World) (h : kinds_OfCode.f a0 = some r) :
    Calls Try.prog 18 #[.string a0] w fun e w' => e = .returned (.int .i64 r) ∧ Below w.heap.size w w' := by
  have hr := Option.some.inj h
  subst hr
  have HF := Aside0.mk (find_code_calls a0)
  clear h
  go_enter Try.func18, Try.ntmps18
  go_wp2_with fail
  refine (HF.out _).mono ?_
  rintro e w1 ⟨rfl, hb⟩
  go_wp2
  go_ret
  exact ⟨rfl, hb⟩
set_option maxHeartbeats 4000000 in
theorem find_mti_calls (s : ByteArray) (w : World) :
    Calls Try.prog 45 #[.string s, .func (.func 47) #[] #[]] w fun e w' => e = .returned (.int .i64 (idxOf (fun x => x.f1.toList == s.toList) theRows + 1)) ∧ Below w.heap.size w w' := by
  obtain ⟨ix, hix, i0, i1⟩ := find_of (fun x => x.f1.toList == s.toList)
  have HIX := Aside0.mk hix
  clear hix
  go_enter Try.func45, Try.ntmps45
  go_wp2_with fail
  refine (kinds_rows.calls theRows _ rows_some).mono ?_
  rintro e w1 ⟨v0, rfl, ho, hb⟩
  obtain ⟨A, c, rfl, hlc, hC⟩ := Kd.R_reads ho
  have HC := Aside0.mk hC
  have HB := Aside0.mk hb
  clear ho hC hb
  go_wp2_with fail
  have e0 : ∀ (W' : World), Below w1.heap.size w1 W' → W'.cell? ⟨w.heap.size + 1, 0, none⟩ = some (.func (.func 47) #[] #[]) ∧ W'.cell? ⟨w.heap.size, 0, none⟩ = some (.string s) := by
    intro W' hb'
    have hk1 : ((w.alloc (.cells #[.string s] 9)).alloc (.cells #[.func (.func 47) #[] #[]] 74)).heap[w.heap.size + 1]? = some (.cells #[.func (.func 47) #[] #[]] 74 (0, 0)) := by
      have := blk_new (w.alloc (.cells #[.string s] 9)) (.cells #[.func (.func 47) #[] #[]] 74)
      simpa using this
    have hk0 := blk_alloc (blk_new w (.cells #[.string s] 9)) (.cells #[.func (.func 47) #[] #[]] 74)
    exact ⟨(blk_cell (blk_below (blk_below hk1 HB.out) hb') 0).trans rfl, (blk_cell (blk_below (blk_below hk0 HB.out) hb') 0).trans rfl⟩
  have E0 := Aside0.mk e0
  clear e0
  refine (index_calls (fun x => x.f1.toList == s.toList) 59 #[.pointer (some ⟨w.heap.size + 1, 0, none⟩), .pointer (some ⟨w.heap.size, 0, none⟩)] (enters_of Try.func59 (by kernel_rfl) rfl) A c theRows w1 HC.out (by decide) (fun x W' hb' => one_mti_calls s _ _ x W' (E0.out W' hb').1 (E0.out W' hb').2)).mono ?_
  rintro e w2 ⟨rfl, hb2⟩
  have HW : Aside0 (Below w.heap.size w w2) := ⟨below_step (below_step (below_alloc (below_alloc (Below.refl _ w) _) _) HB.out) hb2⟩
  clear hb2
  rw [HIX.out]
  go_wp2
  go_ret
  exact ⟨by rw [HIX.out]; rfl, HW.out⟩
def kinds_OfMti.f (a0 : ByteArray) : Option Int := some (idxOf (fun x => x.f1.toList == a0.toList) theRows + 1)
theorem kinds_OfMti.calls (a0 : ByteArray) (r : Int) (w : World) (h : kinds_OfMti.f a0 = some r) :
    Calls Try.prog 24 #[.string a0] w fun e w' => e = .returned (.int .i64 r) ∧ Below w.heap.size w w' := by
  have hr := Option.some.inj h
  subst hr
  have HF := Aside0.mk (find_mti_calls a0)
  clear h
  go_enter Try.func24, Try.ntmps24
  go_wp2_with fail
  refine (HF.out _).mono ?_
  rintro e w1 ⟨rfl, hb⟩
  go_wp2
  go_ret
  exact ⟨rfl, hb⟩

end Go.Proofs.Ythdjodamdakjbaa.MK
