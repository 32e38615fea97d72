/- What bitmap.Parse comes to: walked. -/
import Derived.Test.YtfjfmlajnamlpaaHCursor
namespace Go.Proofs.Ytfjfmlajnamlpaa.MB
open Go.RowKit Go.Proofs.YtfjfmlajnamlpaaW.PrintWords Go.Proofs.YtfjfmlajnamlpaaW.PrintLast Go.Proofs.YtfjfmlajnamlpaaW.PrintMore
set_option linter.unusedVariables false
set_option linter.unusedSimpArgs false

def bitmap_Parse.f (l0 : List Int) : Option (List Int × Int × Int) := if l0.length ≤ 1000 ∧ ∀ x ∈ l0, 0 ≤ x ∧ x < 256 then some (parseL 3 6 l0) else none
theorem own_addr {w : World} {base : Nat} {A : Option Addr} {n c : Nat} {xs : List Value} (h : w.ownsRow base 5 1 (.slice A n c) n xs) (h0 : 0 < n) : ∃ b, A = some ⟨b, 0, none⟩ := by
  rcases h.2 with ⟨e, h1⟩ | ⟨g, cap, cur, e, _⟩
  · omega
  · simp only [Value.slice.injEq] at e
    exact ⟨g, e.1⟩
theorem bytes_take {l : List Int} (h : Bytes8 l) (k : Nat) : Bytes8 (l.take k) := fun x hx => h x (List.mem_of_mem_take hx)
/-- Behind New and the first Take. -/
def AfterTake (w w2 : World) (l0 : List Int) (g : Nat) (v : Value) (at_ : Nat) : Prop :=
  ∃ (b c : Nat), curW w2 g (some ⟨b, 0, none⟩) l0.length c at_ ∧ w2.ownsRow w.heap.size 5 1 (.slice (some ⟨b, 0, none⟩) l0.length c) l0.length (nums .u8 l0) ∧ b ≠ g ∧ w.heap.size ≤ g ∧ Below w.heap.size w w2
set_option maxHeartbeats 8000000 in
set_option maxRecDepth 100000 in
theorem bitmap_Parse.calls (A0 : Option Addr) (c0 : Nat) (l0 : List Int) (r1 : List Int) (r2 r3 : Int) (w : World) (hr0 : Kd.C (Kd.int .u8) w A0 l0.length l0) (hc0 : l0.length ≤ c0) (h : bitmap_Parse.f l0 = some (r1, r2, r3)) :
    Calls Try.prog 13 #[.slice A0 l0.length c0] w fun e w' => ∃ v0_ : Value, e = .returned (.tuple #[v0_, .int .i64 r2, .int .i64 r3]) ∧ Kd.R (Kd.int .i64) 3 w' w.heap.size (fun _ => True) v0_ r1 ∧ Below w.heap.size w w' := by
  unfold bitmap_Parse.f at h
  by_cases hq : l0.length ≤ 1000 ∧ ∀ x ∈ l0, 0 ≤ x ∧ x < 256
  rotate_left
  · rw [if_neg hq] at h; cases h
  rw [if_pos hq] at h
  obtain ⟨hl, h8⟩ := hq
  have HP := Aside0.mk (Option.some.inj h)
  have HN := Aside0.mk (New_calls A0 c0 l0 w hr0 hc0 hl)
  have H8 : Aside0 (Bytes8 l0) := ⟨h8⟩
  have HL := Aside0.mk hl
  clear h hl h8 hr0 hc0
  by_cases c1 : l0.length < 8
  · have hP := HP.out
    unfold parseL at hP
    rw [if_pos c1] at hP
    simp only [Prod.mk.injEq] at hP
    obtain ⟨rfl, rfl, rfl⟩ := hP
    clear HP
    go_enter Try.func13, Try.ntmps13
    go_wp2_with fail
    refine HN.out.mono ?_
    rintro e w1 ⟨g, A, c, rfl, hg, ho, hwg, hne, hb⟩
    have HT := Aside0.mk (Take_short g A l0.length c 0 w1 hg (Nat.zero_le _) (by omega) HL.out)
    have HB := Aside0.mk hb
    clear hg ho hwg hne hb
    go_wp2_with fail
    refine HT.out.mono ?_
    rintro e w2 ⟨v, rfl, hb⟩
    have HB2 := Aside0.mk (below_step HB.out hb)
    clear hb
    go_wp2
    go_ret3
    exact ⟨.slice none 0 0, rfl, Kd.R_nil _ _ _ _ _, HB2.out⟩
  go_enter Try.func13, Try.ntmps13
  go_wp2_with fail
  refine HN.out.mono ?_
  rintro e w1 ⟨g, A, c, rfl, hg, ho, hwg, hne, hb⟩
  obtain ⟨b, rfl⟩ := own_addr ho (by omega)
  have hbg : b ≠ g := hne _ rfl
  have hgl : g < w1.heap.size := blk_lt hg
  have HT := Aside0.mk (Take_calls g b l0.length c 0 w.heap.size l0 w1 hg ho hbg (by omega) HL.out)
  have HO := Aside0.mk ho
  have HB := Aside0.mk hb
  have HG := Aside0.mk (And.intro hbg (And.intro hwg hgl))
  have C1 := Aside0.mk c1
  clear hg ho hwg hne hb hbg c1 hgl
  go_wp2_with fail
  refine HT.out.mono ?_
  rintro e w2 ⟨v, rfl, hr, hg, hgr⟩
  rw [List.drop_zero] at hr
  have h8l : (l0.take 8).length = 8 := by rw [List.length_take]; have := C1.out; omega
  obtain ⟨ad, cf, hv⟩ := Kd.R_slice1 hr (by omega)
  rw [h8l] at hv
  subst hv
  have HO2 := Aside0.mk (HO.out.kept hgr (.inr (by simp [Value.ownBlock]; exact HG.out.1)))
  have HB2 := Aside0.mk (HB.out.grown hgr HB.out.size (fun k hk => by cases hk; exact HG.out.2.1))
  have HA : Aside0 (ad.block ≠ g) := ⟨by have := ((Kd.own_of_R hr).lt ad.block rfl).1; have := HG.out.2.2; omega⟩
  have HG2 := Aside0.mk hg
  have HR := Aside0.mk (Kd.R_lower hr HB.out.size)
  clear HT HN HO HB hr hg hgr
  have hrd := Kd.R_reads' HR.out
  have hh := bitmap_bits_has.calls (some ad) cf (l0.take 8) 1 _ w2 hrd.2.2 (by rw [← hrd.1]; exact hrd.2.1) (has_is _ 1 (bytes_take H8.out 8) (by decide) (by omega) (by omega))
  rw [h8l, has_take l0 8 1 (by decide) (by decide)] at hh
  have HH := Aside0.mk hh
  have HRD := Aside0.mk hrd
  have H8L := Aside0.mk h8l
  clear hh hrd h8l
  by_cases c2 : hasBit l0 1 = false
  · have hP := HP.out
    unfold parseL at hP
    rw [if_neg C1.out, if_pos c2] at hP
    simp only [Prod.mk.injEq] at hP
    obtain ⟨rfl, rfl, rfl⟩ := hP
    rw [c2] at HH
    clear HP c2
    go_wp2_with fail
    refine HH.out.mono ?_
    rintro e w3 ⟨rfl, ⟨nd, rfl⟩⟩
    have HW := which_calls 2 64 63 ad cf 8 (l0.take 8) (w2.drewN nd) H8L.out.symm (by decide) (by decide) (by have := H8L.out; omega) (by have := H8L.out; omega) (bytes_take H8.out 8) (Kd.C_drewN HRD.out.2.2 nd) (by have := H8L.out; have := HRD.out; omega)
    rw [which_take l0 8 2 63 (by decide) (by decide)] at HW
    have HW := Aside0.mk HW
    go_wp2_with fail
    refine HW.out.mono ?_
    rintro e w3 ⟨v, rfl, ho, hb⟩
    have HZ := Aside0.mk (And.intro ho hb)
    clear ho hb
    go_wp2
    go_ret3
    exact ⟨v, rfl, Kd.R_lower HZ.out.1 (pw_below_drewN HB2.out nd).size, below_step (pw_below_drewN HB2.out nd) HZ.out.2⟩
  have c2t : hasBit l0 1 = true := by simpa using c2
  have HP2 := HP.out
  unfold parseL at HP2
  rw [if_neg C1.out, if_neg c2] at HP2
  rw [c2t] at HH
  have HP3 := Aside0.mk HP2
  clear HP HP2 c2 c2t
  go_wp2_with fail
  refine HH.out.mono ?_
  rintro e w3 ⟨rfl, ⟨nd, rfl⟩⟩
  have HG3 : Aside0 (curW (w2.drewN nd) g (some ⟨b, 0, none⟩) l0.length c (0 + 8)) := HG2
  have HB3 := Aside0.mk (pw_below_drewN HB2.out nd)
  have HO3 : Aside0 ((w2.drewN nd).ownsRow w.heap.size 5 1 (.slice (some ⟨b, 0, none⟩) l0.length c) l0.length (nums .u8 l0)) := HO2
  have HR3 := Aside0.mk (Kd.R_drewN HR.out nd)
  clear HG2 HB2 HO2 HR HH HRD
  generalize w2.drewN nd = w3 at HG3 HB3 HO3 HR3 ⊢
  by_cases c3 : l0.length < 16
  · have hP := HP3.out
    rw [if_pos c3] at hP
    simp only [Prod.mk.injEq] at hP
    obtain ⟨rfl, rfl, rfl⟩ := hP
    have HT := Aside0.mk (Take_short g _ l0.length c (0 + 8) w3 HG3.out (by have := C1.out; omega) (by omega) HL.out)
    clear HP3 c3
    go_wp2_with fail
    refine HT.out.mono ?_
    rintro e w4 ⟨v, rfl, hb⟩
    have HB4 := Aside0.mk (below_step HB3.out hb)
    clear hb
    go_wp2
    go_ret3
    exact ⟨.slice none 0 0, rfl, Kd.R_nil _ _ _ _ _, HB4.out⟩
  have HT := Aside0.mk (Take_calls g b l0.length c (0 + 8) w.heap.size l0 w3 HG3.out HO3.out HG.out.1 (by omega) HL.out)
  have HP4 := HP3.out
  rw [if_neg c3] at HP4
  have HP5 := Aside0.mk HP4
  have C3 := Aside0.mk c3
  clear HP3 HP4 c3
  go_wp2_with fail
  refine HT.out.mono ?_
  rintro e w4 ⟨v2, rfl, hr, hg, hgr⟩
  have h8m : ((l0.drop (0 + 8)).take 8).length = 8 := by rw [List.length_take, List.length_drop]; have := C3.out; omega
  obtain ⟨ad2, cf2, hv⟩ := Kd.R_slice1 hr (by omega)
  rw [h8m] at hv
  subst hv
  have hrd := Kd.R_reads' hr
  have HC2 := hrd.2.2
  rw [h8m] at HC2
  have HC2 := Aside0.mk HC2
  have HR4 : Aside0 (Kd.R (Kd.int .u8) 5 w4 w.heap.size (fun _ => True) (.slice (some ad) 8 cf) (l0.take 8)) := ⟨Kd.R_of_own (ok := fun _ => True) ((Kd.own_of_R HR3.out).kept hgr (.inr (by simp [Value.ownBlock]; exact HA.out))) (fun _ _ => trivial)⟩
  have HB4 := Aside0.mk (HB3.out.grown hgr HB3.out.size (fun k hk => by cases hk; exact HG.out.2.1))
  clear HT hr hg hgr hrd HR3 HB3 HO3 HG3 h8m
  go_wp2_with (at_builtin; refine Kd.R_append_rows (Kd.int .u8) (w0 := w) w.heap.size rfl (.tmp 34) (.tmp 35) 23 5 (.int .u8 0) 1 rfl Try.underlying23 info5 rfl (by decide) (by decide) _ (l0.take 8) ((l0.drop (0 + 8)).take 8) _ _ _ (fun _ => True) (fun _ => False) rfl rfl HR4.out HC2.out (fun _ _ h => h) (fun _ h => h.elim) (fun _ _ => trivial) HB4.out HB4.out.size (by have := H8L.out; omega) ?_; intro v5 w5 ho hb hg hat; have HR5 := Aside0.mk ho; have HB5 := Aside0.mk hb; clear ho hb hg hat)
  have h16 : (l0.take 16).length = 16 := by rw [List.length_take]; have := C3.out; omega
  have ho : Kd.R (Kd.int .u8) 5 w5 w.heap.size (fun _ => True) v5 (l0.take 16) := by
    have h := HR5.out
    rw [Nat.zero_add, ← List.take_add] at h
    exact h
  obtain ⟨ad9, c9, hv⟩ := Kd.R_slice1 ho (by omega)
  rw [h16] at hv
  subst hv
  have hrd := Kd.R_reads' ho
  have hh := bitmap_bits_has.calls (some ad9) c9 (l0.take 16) 65 _ w5 hrd.2.2 (by rw [← hrd.1]; exact hrd.2.1) (has_is _ 65 (bytes_take H8.out 16) (by decide) (by omega) (by omega))
  rw [h16, has_take l0 16 65 (by decide) (by decide)] at hh
  have HH := Aside0.mk hh
  have HRD := Aside0.mk hrd.2.2
  have H9 := Aside0.mk hrd.2.1
  have H16 := Aside0.mk h16
  have WH := fun (W : World) (hb : Below w5.heap.size w5 W) (a b : Int) (N : Nat) (h1 : 1 ≤ a) (h2 : a + N = b + 1) (h3 : b ≤ 128) => which_calls a b N ad9 c9 16 (l0.take 16) W h16.symm h1 h2 (by rw [h16]; exact h3) (by omega) (bytes_take H8.out 16) (Kd.C_below hrd.2.2 hb) (by rw [h16]; exact hrd.2.1)
  have WH := Aside0.mk WH
  clear HR5 ho hrd hh h16 HR4 HC2 HB4 H8L
  by_cases c4 : hasBit l0 65 = true
  · have hP := HP5.out
    rw [if_pos c4] at hP
    simp only [Prod.mk.injEq] at hP
    obtain ⟨rfl, rfl, rfl⟩ := hP
    rw [c4] at HH
    clear HP5 c4
    go_wp2_with (go_at_call 22; refine HH.out.mono ?_; rintro e w6 ⟨rfl, ⟨nd, rfl⟩⟩)
    go_ret3
    exact ⟨.slice none 0 0, rfl, Kd.R_nil _ _ _ _ _, pw_below_drewN HB5.out _⟩
  have c4f : hasBit l0 65 = false := by simpa using c4
  rw [c4f] at HH
  have hP := HP5.out
  rw [if_neg c4] at hP
  have HP6 := Aside0.mk hP
  clear hP HP5 c4 c4f
  go_wp2_with fail
  refine HH.out.mono ?_
  rintro e w6 ⟨rfl, ⟨nd, rfl⟩⟩
  have HW := WH.out (w5.drewN nd) (pw_below_drewN (Below.refl _ _) nd) 66 128 63 (by decide) (by decide) (by decide)
  rw [which_take l0 16 66 63 (by decide) (by decide)] at HW
  have HW := Aside0.mk HW
  have HB6 := Aside0.mk (pw_below_drewN HB5.out nd)
  have HB56 := Aside0.mk (pw_below_drewN (Below.refl w5.heap.size w5) nd)
  go_wp2_with fail
  refine HW.out.mono ?_
  rintro e w7 ⟨v7, rfl, ho, hb⟩
  obtain ⟨A7, c7, hv⟩ := Kd.R_slice ho
  subst hv
  have HB7 := Aside0.mk (below_step HB6.out hb)
  have HB57 := Aside0.mk (below_step HB56.out hb)
  clear ho hb HW HB6 HB56 HH
  by_cases c5 : whichL l0 66 63 = []
  · have hP := HP6.out
    rw [if_pos c5] at hP
    simp only [Prod.mk.injEq] at hP
    obtain ⟨rfl, rfl, rfl⟩ := hP
    rw [c5]
    simp only [List.length_nil]
    clear HP6 c5
    go_wp2
    go_ret3
    exact ⟨.slice none 0 0, rfl, Kd.R_nil _ _ _ _ _, HB7.out⟩
  have hP := HP6.out
  rw [if_neg c5] at hP
  simp only [Prod.mk.injEq] at hP
  obtain ⟨rfl, rfl, rfl⟩ := hP
  have c5l : ((((whichL l0 66 63).length : Nat) : Int) == 0) = false := by
    rw [beq_eq_false_iff_ne]
    intro e
    exact c5 (List.length_eq_zero_iff.1 (by omega))
  have HW := WH.out w7 HB57.out 2 128 127 (by decide) (by decide) (by decide)
  rw [which_take l0 16 2 127 (by decide) (by decide)] at HW
  have HW := Aside0.mk HW
  generalize (whichL l0 66 63).length = n7 at c5l ⊢
  clear HP6 c5
  go_wp2_with fail
  refine HW.out.mono ?_
  rintro e w8 ⟨v8, rfl, ho, hb⟩
  have HZ := Aside0.mk (And.intro ho hb)
  clear ho hb
  go_wp2
  go_ret3
  exact ⟨v8, rfl, Kd.R_lower HZ.out.1 HB7.out.size, below_step HB7.out HZ.out.2⟩
end Go.Proofs.Ytfjfmlajnamlpaa.MB
