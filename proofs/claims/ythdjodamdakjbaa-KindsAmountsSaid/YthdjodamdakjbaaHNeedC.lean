/- KindsNeed's and KindsAmounts' calls over whole messages; when a message fits. -/
import Derived.Test.YthdjodamdakjbaaHSmallP
import Derived.Test.YthdjodamdakjbaaHPrD
import Derived.Test.YthdjodamdakjbaaHPlayL
namespace Go.Proofs.Ythdjodamdakjbaa.MK
open Go.RowKit Go.Proofs.YthdjodamdakjbaaW.PrintWords Go.Proofs.YthdjodamdakjbaaW.PrintLast Go.Proofs.YthdjodamdakjbaaW.PrintMore
set_option linter.unusedVariables false
set_option linter.unusedSimpArgs false

theorem info29' : (Try.prog.info? 29).map (·.size) = some 21 := by kernel_rfl
theorem info29 {w : World} {x : S29} {mc : Array Value} (h : k29.K w x mc.toList) : (Try.prog.info? 29).map (·.size) = some mc.size := by
  have h1 : mc.toList.length = k29.sz := k29.K_len h
  have h2 : k29.sz = 21 := rfl
  rw [h2, Array.length_toList] at h1
  rw [h1]; exact info29'
theorem one29 {w : World} {x : S29} {mc : Array Value} (h : k29.K w x mc.toList) : mc.all (·.oneCell') = true := by
  rw [Array.all_eq_true]
  intro i hlt
  exact k29.K_one h _ (by rw [Array.mem_toList_iff]; exact Array.getElem_mem hlt)
theorem size29 {w : World} {x : S29} {mc : Array Value} (h : k29.K w x mc.toList) : mc.size = 21 := by
  have h1 : mc.toList.length = k29.sz := k29.K_len h
  have h2 : k29.sz = 21 := rfl
  rw [h2, Array.length_toList] at h1
  exact h1
/-- What every message that came in is: its lists within the reach. -/
structure Small29 (x : S29) : Prop where
  h15 : x.f15.length ≤ 4398046511104
  h18 : x.f18.length ≤ 4398046511104
  h19 : x.f19.length ≤ 4398046511104
theorem small_x (x : S29) (mc : Array Value) (w : World) (h : k29.K w x mc.toList) (hr : Small29 x) : Calls Try.prog 8 #[.agg mc] w fun e w' => ∃ b, e = .returned (.bool b) ∧ Below w.heap.size w w' := by
  obtain ⟨A16, c16, A19, c19, A20, c20, e, l16, g16, l19, g19, l20, g20⟩ := k29_open h
  obtain ⟨b, hb⟩ := small_tells x.f0 x.f1 x.f2 x.f3 x.f4 x.f5 x.f6 x.f7 x.f8 x.f9 x.f10 x.f11 x.f12 x.f13 x.f14.f0 x.f14.f1 x.f15 x.f16 x.f17 x.f18 x.f19 hr.h15 hr.h18 hr.h19 (x.f15.length + x.f18.length + x.f19.length + 3) (by omega)
  have em : mc = _ := Array.toList_inj.1 e
  rw [em]
  exact (comptoirplay_Small.calls _ x.f0 x.f1 x.f2 x.f3 x.f4 x.f5 x.f6 x.f7 x.f8 x.f9 x.f10 x.f11 x.f12 x.f13 x.f14.f0 x.f14.f1 A16 c16 x.f15 x.f16 x.f17 A19 c19 x.f18 A20 c20 x.f19 b w g16 l16 g19 l19 g20 l20 hb).mono fun e w' h => ⟨b, h.1, h.2⟩
theorem awake_tell : comptoirlaw11_awake.f = some true := by kernel_rfl
theorem awake_x (w : World) : Calls Try.prog 9 #[] w fun e w' => e = .returned (.bool true) ∧ Below w.heap.size w w' := comptoirlaw11_awake.calls true w awake_tell
theorem side_x (v : Int) (w : World) : Calls Try.prog 11 #[.int .i64 v] w fun e w' => ∃ s : Int, e = .returned (.int .i64 s) ∧ (s = 0 ∨ s = 1) ∧ Below w.heap.size w w' := by
  have HM := Aside0.mk (mod_x v 2 w (by decide) (by decide))
  go_enter Try.func11, Try.ntmps11
  go_wp2_with fail
  refine HM.out.mono ?_
  rintro e w1 ⟨r, rfl, hr, hB⟩
  have HR := Aside0.mk (And.intro hr hB)
  clear hr hB
  go_wp2_with fail
  go_ret
  exact ⟨r, rfl, by have := HR.out.1; unfold InMod at this; omega, HR.out.2⟩
/-- A message whose lists lie in blocks of which ok holds: whatever else changes, it is there. -/
def KS (ok : Nat → Prop) (w : World) (z : S29) (mc : Array Value) : Prop := ∀ W' : World, (∀ k, k < w.heap.size → ok k → W'.heap[k]? = w.heap[k]?) → k29.K W' z mc.toList
theorem KS.now {ok : Nat → Prop} {w : World} {z : S29} {mc : Array Value} (h : KS ok w z mc) : k29.K w z mc.toList := h w (fun _ _ _ => rfl)
theorem KS.step {ok ok' : Nat → Prop} {w w1 : World} {z : S29} {mc : Array Value} (h : KS ok w z mc) (hs : w.heap.size ≤ w1.heap.size) (ho : ∀ k, k < w.heap.size → ok k → ok' k) (hk : ∀ k, k < w.heap.size → ok k → w1.heap[k]? = w.heap[k]?) : KS ok' w1 z mc :=
  fun W' hW => h W' (fun k h1 h2 => (hW k (by omega) (ho k h1 h2)).trans (hk k h1 h2))
theorem KS.below {ok : Nat → Prop} {w w1 : World} {z : S29} {mc : Array Value} (h : KS ok w z mc) (hb : Below w.heap.size w w1) : KS ok w1 z mc := h.step hb.size (fun _ _ h => h) (fun k h1 _ => hb.block k h1)
theorem msgk_x (x : S29) (side : Int) (mc : Array Value) (w : World) (h : k29.K w x mc.toList) (hx : MsgIn x) : Calls Try.prog 10 #[.agg mc, .int .i64 side] w fun e w' => ∃ (z : S29) (oc : Array Value), e = .returned (.agg oc) ∧ MsgOf side z ∧ KS (fun k => w.heap.size ≤ k) w' z oc ∧ Below w.heap.size w w' := by
  obtain ⟨A16, c16, A19, c19, A20, c20, e, l16, g16, l19, g19, l20, g20⟩ := k29_open h
  have em : mc = rowM x (.slice A16 x.f15.length c16) (.slice A19 x.f18.length c19) (.slice A20 x.f19.length c20) := Array.toList_inj.1 e
  rw [em]
  refine (msg_x x side A16 c16 A19 c19 A20 c20 w hx l16 g16 l19 g19 l20 g20).mono ?_
  rintro e w' ⟨z, B16, d16, B19, d19, B20, d20, rfl, hz, m16, m19, m20, hc, hb⟩
  refine ⟨z, _, rfl, hz, fun W' hW => ?_, hb⟩
  obtain ⟨n16, n19, n20⟩ := hc W' (fun k h1 h2 => hW k h2 h1)
  exact k29_mk W' z m16 n16 m19 n19 m20 n20
theorem KS_open {ok : Nat → Prop} {w : World} {z : S29} {mc : Array Value} (h : KS ok w z mc) : ∃ A16 c16 A19 c19 A20 c20, mc = rowM z (.slice A16 z.f15.length c16) (.slice A19 z.f18.length c19) (.slice A20 z.f19.length c20) ∧ z.f15.length ≤ c16 ∧ z.f18.length ≤ c19 ∧ z.f19.length ≤ c20 ∧
    ∀ W' : World, (∀ k, k < w.heap.size → ok k → W'.heap[k]? = w.heap[k]?) → k51.C W' A16 z.f15.length z.f15 ∧ k53.C W' A19 z.f18.length z.f18 ∧ k55.C W' A20 z.f19.length z.f19 := by
  obtain ⟨A16, c16, A19, c19, A20, c20, e, l16, g16, l19, g19, l20, g20⟩ := k29_open h.now
  refine ⟨A16, c16, A19, c19, A20, c20, Array.toList_inj.1 e, l16, l19, l20, fun W' hW => ?_⟩
  obtain ⟨B16, d16, B19, d19, B20, d20, e', m16, n16, m19, n19, m20, n20⟩ := k29_open (h W' hW)
  rw [e] at e'
  simp only [List.cons.injEq, Value.slice.injEq, true_and, and_true] at e'
  obtain ⟨⟨rfl, rfl⟩, ⟨rfl, rfl⟩, rfl, rfl⟩ := e'
  exact ⟨n16, n19, n20⟩
/-- kinds.Fits over a whole message. -/
def fitsF (x : S29) : Option Int := kinds_Fits.f x.f0 x.f1 x.f2 x.f3 x.f4 x.f5 x.f6 x.f7 x.f8 x.f9 x.f10 x.f11 x.f12 x.f13 x.f14.f0 x.f14.f1 x.f15 x.f16 x.f17 x.f18 x.f19
theorem fits_x (x : S29) (mc : Array Value) (r : Int) (w : World) (h : k29.K w x mc.toList) (hf : fitsF x = some r) : Calls Try.prog 12 #[.agg mc] w fun e w' => e = .returned (.int .i64 r) ∧ Below w.heap.size w w' := by
  obtain ⟨A16, c16, A19, c19, A20, c20, e, l16, g16, l19, g19, l20, g20⟩ := k29_open h
  have em : mc = _ := Array.toList_inj.1 e
  rw [em]
  exact kinds_Fits.calls x.f0 x.f1 x.f2 x.f3 x.f4 x.f5 x.f6 x.f7 x.f8 x.f9 x.f10 x.f11 x.f12 x.f13 x.f14.f0 x.f14.f1 A16 c16 x.f15 x.f16 x.f17 A19 c19 x.f18 A20 c20 x.f19 r w g16 l16 g19 l19 g20 l20 hf
/-- The letters of the parts, in their order. -/
def allS : ByteArray := ⟨#[80, 67, 82, 77, 84, 65, 69, 68, 78, 79, 71]⟩
def letterN (j : Nat) : Int := bt allS (j : Int)
/-- May a part be there (b), where a kind must have it, may have it? -/
def okAt (must may : ByteArray) (c : Int) (b : Bool) : Bool := (!hasB must c || b) && (!b || (hasB must c || hasB may c))
def okBits (n : Nat) (bs : List Bool) : Bool := (List.range 11).all fun j => okAt (rd_T37 rowList ((n + 1 : Nat) : Int)).f2 (rd_T37 rowList ((n + 1 : Nat) : Int)).f3 (letterN j) (bs.getD j false)
def chkL (n : Nat) (bs : List Bool) : Bool := match kinds_parts.l0 12 0 bs 11 0 with
  | some p => letsOf (rd_T68 theRows (n : Int)).f2 (rd_T68 theRows (n : Int)).f3 p == okBits n bs
  | none => false
theorem lets_all : ∀ b0 b1 b2 b3 b4 b5 b6 b7 b8 b9 b10 : Bool, ((List.range 11).all fun n => chkL n [b0, b1, b2, b3, b4, b5, b6, b7, b8, b9, b10]) = true := by decide +kernel
def bitsOf (x : S29) : List Bool := [(x.f4.toList != []), (x.f5.toList != []), (x.f7.toList != []), (x.f8.toList != []), (x.f9.toList != []), (x.f10.toList != []), (x.f11 != 0), (x.f12.toList != []), (x.f13.toList != []), (x.f14.f1.toList != []), decide ((x.f15.length : Int) > 0)]
theorem of_some : ∀ n : Fin 11, kinds_of.f ((n.val + 1 : Nat) : Int) = some ((rd_T68 theRows (n.val : Int)).f0, (rd_T68 theRows (n.val : Int)).f1, (rd_T68 theRows (n.val : Int)).f2, (rd_T68 theRows (n.val : Int)).f3) := by decide +kernel
theorem rows_mti : ∀ n : Fin 11, (rd_T68 theRows (n.val : Int)).f1.toList.isEmpty = false := by decide +kernel
theorem fits_is (x : S29) (n : Nat) (hn : n < 11) (hk : x.f0 = ((n + 1 : Nat) : Int)) :
    fitsF x = some (fitsEnd (okBits n (bitsOf x)) x.f5.toList.isEmpty (x.f6 != 0) x.f14.f1.toList.isEmpty (x.f14.f0 != 0)) := by
  have hl := lets_all (x.f4.toList != []) (x.f5.toList != []) (x.f7.toList != []) (x.f8.toList != []) (x.f9.toList != []) (x.f10.toList != []) (x.f11 != 0) (x.f12.toList != []) (x.f13.toList != []) (x.f14.f1.toList != []) (decide ((x.f15.length : Int) > 0))
  rw [List.all_eq_true] at hl
  have h1 : chkL n (bitsOf x) = true := hl n (List.mem_range.2 hn)
  unfold fitsF kinds_Fits.f
  rw [hk, of_some ⟨n, hn⟩, Option.bind_some]
  show (if (rd_T68 theRows (n : Int)).f1.toList.isEmpty = true then some 15 else (kinds_parts.l0 12 0 (bitsOf x) 11 0).bind fun p => some (fitsEnd (letsOf (rd_T68 theRows (n : Int)).f2 (rd_T68 theRows (n : Int)).f3 p) x.f5.toList.isEmpty (x.f6 != 0) x.f14.f1.toList.isEmpty (x.f14.f0 != 0))) = _
  rw [rows_mti ⟨n, hn⟩, if_neg (by decide)]
  unfold chkL at h1
  cases hp : kinds_parts.l0 12 0 (bitsOf x) 11 0 with
  | none => rw [hp] at h1; cases h1
  | some p =>
    rw [hp] at h1
    rw [Option.bind_some, beq_iff_eq.1 h1]
theorem kind_nat {k : Int} (h : 1 ≤ k ∧ k ≤ 11) : ∃ n : Nat, n < 11 ∧ k = ((n + 1 : Nat) : Int) := ⟨(k - 1).toNat, by omega, by omega⟩
theorem bit_iff (s : ByteArray) : (s.toList != []) = true ↔ s.size ≠ 0 := by
  have e : s.toList = s.data.toList := ByteArray.toList_eq s
  have e2 : s.size = s.data.toList.length := rfl
  rw [e, e2, bne_iff_ne, ne_eq, ne_eq, List.length_eq_zero_iff]
theorem fit_ok {must may : ByteArray} {c : Int} {p : Prop} {b : Bool} (h : Fit must may c p) (hb : b = true ↔ p) : okAt must may c b = true := by
  unfold okAt
  cases b with
  | true =>
    have := h.2 (hb.1 rfl)
    rcases this with h1 | h1 <;> rw [h1] <;> simp
  | false =>
    cases hm : hasB must c with
    | true => exact absurd (hb.2 (h.1 hm)) (by decide)
    | false => rfl
theorem letters : letterN 0 = 80 ∧ letterN 1 = 67 ∧ letterN 2 = 82 ∧ letterN 3 = 77 ∧ letterN 4 = 84 ∧ letterN 5 = 65 ∧ letterN 6 = 69 ∧ letterN 7 = 68 ∧ letterN 8 = 78 ∧ letterN 9 = 79 ∧ letterN 10 = 71 := by decide +kernel
theorem own_bits {z : S29} {s : Int} (h : MsgOf s z) : ∀ j : Nat, j < 11 → okAt (mustOf z.f0) (mayOf z.f0) (letterN j) ((bitsOf z).getD j false) = true := by
  obtain ⟨l0, l1, l2, l3, l4, l5, l6, l7, l8, l9, l10⟩ := letters
  intro j hj
  match j, hj with
  | 0, _ => rw [l0]; exact fit_ok h.pan (bit_iff _)
  | 1, _ => rw [l1]; exact fit_ok h.cur (bit_iff _)
  | 2, _ => rw [l2]; exact fit_ok h.rrn (bit_iff _)
  | 3, _ => rw [l3]; exact fit_ok h.mer (bit_iff _)
  | 4, _ => rw [l4]; exact fit_ok h.ter (bit_iff _)
  | 5, _ => rw [l5]; exact fit_ok h.app (bit_iff _)
  | 6, _ => rw [l6]; exact fit_ok h.ent bne_iff_ne
  | 7, _ => rw [l7]; exact fit_ok h.act (bit_iff _)
  | 8, _ => rw [l8]; exact fit_ok h.rea (bit_iff _)
  | 9, _ => rw [l9]; exact fit_ok h.ori (bit_iff _)
  | 10, _ => rw [l10]; exact fit_ok h.tag (show decide ((z.f15.length : Int) > 0) = true ↔ _ by rw [decide_eq_true_eq]; omega)
theorem fitsEnd_ok {a b c d : Bool} (h1 : a = true → b = false) (h2 : c = true → d = false) : fitsEnd true a b c d = 0 := by
  unfold fitsEnd
  rw [if_neg (by decide)]
  cases a <;> cases b <;> cases c <;> cases d <;> simp_all
theorem blank_iff (s : ByteArray) : s.toList.isEmpty = true ↔ s.size = 0 := by
  have e : s.toList = s.data.toList := ByteArray.toList_eq s
  have e2 : s.size = s.data.toList.length := rfl
  rw [e, e2, List.isEmpty_iff, List.length_eq_zero_iff]
theorem okBits_of {x : S29} {n : Nat} {k : Int} (hk : k = ((n + 1 : Nat) : Int)) {bs : List Bool} (h : ∀ j : Nat, j < 11 → okAt (mustOf k) (mayOf k) (letterN j) (bs.getD j false) = true) : okBits n bs = true := by
  unfold okBits
  rw [List.all_eq_true]
  intro j hj
  rw [List.mem_range] at hj
  have := h j hj
  unfold mustOf mayOf at this
  rw [hk] at this
  exact this
theorem own_fits {z : S29} {s : Int} (h : MsgOf s z) : fitsF z = some 0 := by
  obtain ⟨n, hn, hk⟩ := kind_nat h.kd
  rw [fits_is z n hn hk, okBits_of (x := z) hk (own_bits h), fitsEnd_ok]
  · intro h1; rw [h.amt ((blank_iff _).1 h1)]; rfl
  · intro h1; rw [h.stn ((blank_iff _).1 h1)]; rfl
def nowS (v : Bool) : ByteArray := if v = true then ⟨#[50, 48, 50, 54, 48, 49, 48, 49, 49, 50, 48, 48, 48, 48]⟩ else ⟨#[]⟩
def oneI (v : Bool) : Int := if v = true then 1 else 0
def setM (z : S29) (j : Nat) (v : Bool) : S29 := match j with
  | 0 => { z with f4 := nowS v }
  | 1 => { z with f5 := nowS v, f6 := 0 }
  | 2 => { z with f7 := nowS v }
  | 3 => { z with f8 := nowS v }
  | 4 => { z with f9 := nowS v }
  | 5 => { z with f10 := nowS v }
  | 6 => { z with f11 := oneI v }
  | 7 => { z with f12 := nowS v }
  | 8 => { z with f13 := nowS v }
  | 9 => { z with f14 := ⟨0, nowS v⟩ }
  | _ => { z with f15 := List.replicate (oneI v).toNat z51 }
theorem now_bit (v : Bool) : ((nowS v).toList != []) = v := by cases v <;> decide +kernel
theorem one_bit (v : Bool) : (oneI v != 0) = v := by cases v <;> rfl
theorem rep_bit (v : Bool) : decide (((List.replicate (oneI v).toNat z51).length : Int) > 0) = v := by cases v <;> rfl
theorem set_bits (z : S29) (j : Nat) (hj : j < 11) (v : Bool) : bitsOf (setM z j v) = (bitsOf z).set j v := by
  match j, hj with
  | 0, _ => simp only [bitsOf, setM, now_bit, List.set]
  | 1, _ => simp only [bitsOf, setM, now_bit, List.set]
  | 2, _ => simp only [bitsOf, setM, now_bit, List.set]
  | 3, _ => simp only [bitsOf, setM, now_bit, List.set]
  | 4, _ => simp only [bitsOf, setM, now_bit, List.set]
  | 5, _ => simp only [bitsOf, setM, now_bit, List.set]
  | 6, _ => simp only [bitsOf, setM, one_bit, List.set]
  | 7, _ => simp only [bitsOf, setM, now_bit, List.set]
  | 8, _ => simp only [bitsOf, setM, now_bit, List.set]
  | 9, _ => simp only [bitsOf, setM, now_bit, List.set]
  | 10, _ => simp only [bitsOf, setM, rep_bit, List.set]
theorem set_kind (z : S29) (j : Nat) (v : Bool) : (setM z j v).f0 = z.f0 := by
  unfold setM
  split <;> rfl
theorem set_tail {z : S29} {s : Int} (h : MsgOf s z) (j : Nat) (hj : j < 11) (v : Bool) : ((setM z j v).f5.toList.isEmpty = true → ((setM z j v).f6 != 0) = false) ∧ ((setM z j v).f14.f1.toList.isEmpty = true → ((setM z j v).f14.f0 != 0) = false) := by
  have a : z.f5.toList.isEmpty = true → (z.f6 != 0) = false := fun h1 => by rw [h.amt ((blank_iff _).1 h1)]; rfl
  have b : z.f14.f1.toList.isEmpty = true → (z.f14.f0 != 0) = false := fun h1 => by rw [h.stn ((blank_iff _).1 h1)]; rfl
  match j, hj with
  | 0, _ => exact ⟨a, b⟩
  | 1, _ => exact ⟨fun _ => rfl, b⟩
  | 2, _ => exact ⟨a, b⟩
  | 3, _ => exact ⟨a, b⟩
  | 4, _ => exact ⟨a, b⟩
  | 5, _ => exact ⟨a, b⟩
  | 6, _ => exact ⟨a, b⟩
  | 7, _ => exact ⟨a, b⟩
  | 8, _ => exact ⟨a, b⟩
  | 9, _ => exact ⟨a, fun _ => rfl⟩
  | 10, _ => exact ⟨a, b⟩
theorem okBits_set {k : Int} {n : Nat} (hk : k = ((n + 1 : Nat) : Int)) {bs : List Bool} (hl : bs.length = 11) (h : ∀ j : Nat, j < 11 → okAt (mustOf k) (mayOf k) (letterN j) (bs.getD j false) = true) (j : Nat) (hj : j < 11) (v : Bool) :
    okBits n (bs.set j v) = okAt (mustOf k) (mayOf k) (letterN j) v := by
  have g : ∀ i : Nat, i < 11 → (bs.set j v).getD i false = if i = j then v else bs.getD i false := fun i hi => by
    rw [List.getD_eq_getElem?_getD, List.getD_eq_getElem?_getD, List.getElem?_set]
    by_cases e : j = i
    · subst e; rw [if_pos rfl, if_pos (by omega), if_pos rfl, Option.getD_some]
    · rw [if_neg e, if_neg (fun q => e q.symm)]
  cases hv : okAt (mustOf k) (mayOf k) (letterN j) v with
  | true =>
    refine okBits_of (x := z29) hk (fun i hi => ?_)
    rw [g i hi]
    by_cases e : i = j
    · subst e; rw [if_pos rfl]; exact hv
    · rw [if_neg e]; exact h i hi
  | false =>
    unfold okBits
    rw [List.all_eq_false]
    refine ⟨j, List.mem_range.2 hj, ?_⟩
    rw [g j hj, if_pos rfl]
    unfold mustOf mayOf at hv
    rw [hk] at hv
    rw [hv]; decide
theorem need_fits {z : S29} {s : Int} (h : MsgOf s z) (j : Nat) (hj : j < 11) :
    fitsF (setM z j (!hasB (mustOf z.f0) (letterN j))) = some (if (!hasB (mustOf z.f0) (letterN j) && hasB (mayOf z.f0) (letterN j)) = true then 0 else 19) := by
  obtain ⟨n, hn, hk⟩ := kind_nat h.kd
  rw [fits_is _ n hn ((set_kind _ _ _).trans hk), set_bits _ _ hj, okBits_set (k := z.f0) hk rfl (own_bits h) j hj]
  obtain ⟨t1, t2⟩ := set_tail h j hj (!hasB (mustOf z.f0) (letterN j))
  have e : okAt (mustOf z.f0) (mayOf z.f0) (letterN j) (!hasB (mustOf z.f0) (letterN j)) = (!hasB (mustOf z.f0) (letterN j) && hasB (mayOf z.f0) (letterN j)) := by
    unfold okAt
    cases hasB (mustOf z.f0) (letterN j) <;> cases hasB (mayOf z.f0) (letterN j) <;> rfl
  rw [e]
  cases hb : (!hasB (mustOf z.f0) (letterN j) && hasB (mayOf z.f0) (letterN j)) with
  | true => rw [if_pos rfl, fitsEnd_ok t1 t2]
  | false => rw [if_neg (by decide)]; unfold fitsEnd; rw [if_pos rfl]
end Go.Proofs.Ythdjodamdakjbaa.MK
