/- ResidueBack: part 8 of its proof. -/
import Derived.Test.YthapknnppabdaaaGreatZ07
namespace Go.Proofs.YthapknnppabdaaaGreat.MQ
open Go.RowKit Go.Proofs.YthapknnppabdaaaGreatW.PrintWords Go.Proofs.YthapknnppabdaaaGreatW.PrintLast Go.Proofs.YthapknnppabdaaaGreatW.PrintMore
set_option linter.unusedVariables false
set_option linter.unusedSimpArgs false
def T55_17 : Bool × List (List Nat × List Nat) := (true, [([], []), ([], []), ([], []), ([1, 2], [1, 2]), ([3], [3]), ([4], [4]), ([0, 5], [0, 5]), ([], []), ([], []), ([7, 8], [7, 8]), ([9], [9]), ([10], [10]), ([6, 11, 6], [6, 11]), ([12, 12, 0, 1, 2, 3, 4, 5, 6, 7, 8, 9, 10, 11, 12], [12])])
def B55_17 : List Nat := [0, 0, 0, 6, 14, 30, 63, 0, 0, 384, 896, 1920, 4095, 8191]
theorem tab55_17 : rtab .any (opsOf Tryz.f55 17) = T55_17 := by kernel_rfl
theorem bits55_17 : waitsOk T55_17.2 B55_17 = true := by kernel_rfl

theorem model_len (s : ByteArray) : (modelF s).1.length ≤ 1000 := by
  unfold modelF
  repeat' split
  all_goals decide
def upOf (L : List S133) (i : Nat) : S148 := childF (modelF (rd_T133 L (par L (i : Int))).f1).1 (nod L i).f1
/-- All leaves say what they may. -/
def LeavesOK (L : List S133) : Prop := ∀ i : Nat, i < L.length → (modelF (nod L i).f1).2 = false → SimOK (upOf L i).f3 (upOf L i).f4 (upOf L i).f5 (nod L i).f2
set_option maxHeartbeats 16000000 in
set_option maxRecDepth 100000 in
theorem check_e (A : Option Addr) (c : Nat) (L : List S133) (w : World) (hC : k133.C w A L.length L) (hc : L.length ≤ c) (hS : Shape L) : Calls Tryz.prog 55 #[.slice A L.length c] w (OutI (fun e => TextsOK L → LeavesOK L → e = 0) w) := by
  have hu130 := Tryz.underlying130
  have HS := Aside0.mk hS
  have hn1 : L.length ≤ 100 := Nat.le_trans hS.hi (by decide)
  have hn0 : 0 < L.length := hS.lo
  have HC := Aside0.mk hC
  have hn0z : (0 : Int) < (L.length : Int) := by omega
  obtain ⟨ad, A3, c3, ea, c0, _⟩ := at_T133 HC.out 0 (by decide) hn0z
  have HA := Aside0.mk ea
  have HK := Aside0.mk (canon_e A c L w hC hc hS)
  clear hC hS c0
  subst ea
  go_enter Tryz.func55, Tryz.ntmps55
  go_wp2_with fail
  refine HK.out.mono ?_
  rintro e w1 ⟨b, rfl, hb1, hb⟩
  have HT := Aside0.mk hb1
  have BW := Aside0.mk hb
  clear hb1 hb HK
  cases b with
  | false =>
    go_wp2_with fail
    go_ret
    exact ⟨_, rfl, fun h _ => absurd (HT.out h) (by decide), BW.out⟩
  | true =>
    clear HT
    obtain ⟨ad2, A3, c3, ea2, c0, c1, c2, c3', l3, g3⟩ := at_T133 (Kd.C_below HC.out BW.out) 0 (by decide) hn0z
    have HA2 := Aside0.mk ea2
    obtain rfl := Option.some.inj ea2
    have e0 : ad.add ((0 : Int).toNat * 4) = ad := by cases ad; rfl
    rw [e0] at c0 c1 c2 c3'
    have hf3 : (rd_T133 L 0).f3 = [xm] := HS.out.att0
    rw [hf3] at c3' g3
    have hnm := HS.out.doc
    change (rd_T133 L 0).f1.toList = _ at hnm
    generalize (rd_T133 L 0).f1 = n0 at c1 hnm
    have hnm' : (n0.toList == [68, 111, 99, 117, 109, 101, 110, 116]) = true := beq_iff_eq.mpr hnm
    obtain ⟨ad3, ea3, m0, m1⟩ := at_T130 g3 0 (by decide) (by decide)
    have HA3 := Aside0.mk ea3
    have e1 : ad3.add ((0 : Int).toNat * 2) = ad3 := by cases ad3; rfl
    rw [e1] at m0 m1
    change w1.cell? ad3 = some (.string ⟨#[120, 109, 108, 110, 115]⟩) at m0
    change w1.cell? ⟨ad3.block, ad3.off + 1, none⟩ = some (.string ⟨#[117, 114, 110, 58, 99, 111, 109, 112, 116, 111, 105, 114, 58, 99, 97, 97, 97]⟩) at m1
    change w1.cell? ⟨ad.block, ad.off + 3, none⟩ = some (.slice A3 1 c3) at c3'
    subst ea3
    clear e0 e1 hf3 g3 l3 c0 c2 hnm
    go_wp2_with fail
    clear c1 c3' m0 m1 hnm' HA HA2 HA3
    go_loopg [3] L.length (fun gg s3 wr => ∃ kk : Nat, kk ≤ L.length ∧ L.length - kk ≤ gg ∧ s3 = .int .i64 kk ∧ Aside0 (Below w.heap.size w wr))
    case atStart => exact ⟨0, Nat.zero_le _, by omega, rfl, BW⟩
    case round =>
      obtain ⟨kk, hkk, hg, rfl, BW⟩ := hrel
      by_cases hlt : kk < L.length
      · have hltz : (kk : Int) < (L.length : Int) := by omega
        obtain ⟨y, HY⟩ : ∃ y, Aside0 (y = nod L kk) := ⟨_, ⟨rfl⟩⟩
        have CELL : Aside0 (∀ W : World, Below w.heap.size w W → ∃ A3 c3, W.cell? (ad.add (kk * 4)) = some (.int .i64 y.f0) ∧ W.cell? ⟨(ad.add (kk * 4)).block, (ad.add (kk * 4)).off + 1, none⟩ = some (.string y.f1) ∧ W.cell? ⟨(ad.add (kk * 4)).block, (ad.add (kk * 4)).off + 2, none⟩ = some (.string y.f2) ∧ W.cell? ⟨(ad.add (kk * 4)).block, (ad.add (kk * 4)).off + 3, none⟩ = some (.slice A3 y.f3.length c3)) := ⟨fun W hW => by
          obtain ⟨ad2, A3, c3, ea2, c0, c1, c2, c3', _⟩ := at_T133 (Kd.C_below HC.out hW) (kk : Int) (by omega) hltz
          obtain rfl := Option.some.inj ea2
          rw [HY.out]
          exact ⟨A3, c3, c0, c1, c2, c3'⟩⟩
        have HSZ : Aside0 (y.f1.size ≤ 140737488355328 ∧ y.f2.size ≤ 140737488355328) := ⟨by have a := (HS.out.nam kk hlt).2; have b := HS.out.txt kk hlt; rw [← HY.out] at a b; omega⟩
        obtain ⟨A4, c4, _, d1, _, d3⟩ := CELL.out _ BW.out
        obtain ⟨nm, HNM⟩ : ∃ nm, Aside0 (nm = y.f1) := ⟨_, ⟨rfl⟩⟩
        rw [← HNM.out] at d1
        obtain ⟨l0, HL0⟩ : ∃ n, Aside0 (n = y.f3.length) := ⟨_, ⟨rfl⟩⟩
        rw [← HL0.out] at d3
        have HM := fun W => Aside0.mk (model_e nm W)
        by_cases k0 : kk = 0
        · have k0z : ¬ (0 : Int) < (kk : Int) := by omega
          replace k0 := Aside0.mk k0
          go_wp2_with fail
          refine (HM _).out.mono ?_
          rintro e w2 ⟨A5, c5, rfl, hk, hk2, hb⟩
          have BX := Aside0.mk (below_step BW.out hb)
          have HKM := Aside0.mk hk
          clear hk hb d1 d3 HM
          obtain ⟨md, HMD⟩ : ∃ m, Aside0 (m = (modelF nm).1) := ⟨_, ⟨rfl⟩⟩
          obtain ⟨is, HIS⟩ : ∃ m, Aside0 (m = (modelF nm).2) := ⟨_, ⟨rfl⟩⟩
          rw [← HMD.out] at HKM hk2 ⊢
          rw [← HIS.out]
          have hml : md.length ≤ 1000 := by rw [HMD.out]; exact model_len _
          cases is with
          | true =>
            have HMO : Aside0 (y.f2 = ⟨#[]⟩ ∧ runs md (kidNames L (kk : Int))) := ⟨by rw [HMD.out, HNM.out, HY.out]; exact HS.out.mod kk hlt (by rw [← HY.out, ← HNM.out]; exact HIS.out.symm)⟩
            obtain ⟨_, _, _, _, d2, _⟩ := CELL.out _ BX.out
            rw [HMO.out.1] at d2
            go_wp2_with fail
            refine (blankNo_e ⟨#[]⟩ _ rfl).mono ?_
            rintro e w3 ⟨rfl, hb⟩
            have BY := Aside0.mk (below_step BX.out hb)
            have HKM2 := Aside0.mk (Kd.C_below HKM.out hb)
            clear hb d2
            go_wp2_with fail
            refine (kids_e (some ad) c L (kk : Int) A5 c5 md _ (Kd.C_below HC.out BY.out) hc HKM2.out (by omega) hml HMO.out.2).mono ?_
            rintro e w4 ⟨rfl, hb⟩
            have BZ := Aside0.mk (below_step BY.out hb)
            clear hb
            go_wp2_with fail
            go_roundg (L.length - (kk + 1))
            case measure => omega
            case rel => exact ⟨kk + 1, by omega, by omega, by go_num, BZ⟩
          | false =>
            have HLF : Aside0 (0 < kk ∧ kidsIx L (kk : Int) = []) := ⟨HS.out.leaf kk hlt (by rw [← HY.out, ← HNM.out]; exact HIS.out.symm)⟩
            go_wp2_with fail
            refine (kidsAll_e (some ad) c L (kk : Int) _ (Kd.C_below HC.out BX.out) hc (by omega)).mono ?_
            rintro e w3 ⟨A6, c6, rfl, _, _, hb⟩
            rw [HLF.out.2]
            have BY := Aside0.mk (below_step BX.out hb)
            clear hb
            obtain ⟨_, _, d0, _⟩ := CELL.out _ BY.out
            have hr0 : 0 ≤ y.f0 := by rw [HY.out]; exact HS.out.inn kk HLF.out.1 hlt
            have hr1 : y.f0 < (L.length : Int) := Int.lt_trans (show y.f0 < (kk : Int) by rw [HY.out]; exact (HS.out.tree kk hlt).2) hltz
            obtain ⟨r, HR⟩ : ∃ r, Aside0 (r = y.f0) := ⟨_, ⟨rfl⟩⟩
            rw [← HR.out] at d0 hr0 hr1
            obtain ⟨ad5, _, _, ea5, _, f1, _⟩ := at_T133 (Kd.C_below HC.out BY.out) r hr0 hr1
            have HA5 := Aside0.mk ea5
            obtain rfl := Option.some.inj ea5
            obtain ⟨pn, HPN⟩ : ∃ pn, Aside0 (pn = (rd_T133 L r).f1) := ⟨_, ⟨rfl⟩⟩
            rw [← HPN.out] at f1
            go_wp2_with fail
            refine (model_e pn _).mono ?_
            rintro e w4 ⟨A7, c7, rfl, hk, hk3, hb⟩
            have BZ := Aside0.mk (below_step BY.out hb)
            have HKU := Aside0.mk hk
            clear hk hb d0 f1
            obtain ⟨up, HUP⟩ : ∃ m, Aside0 (m = (modelF pn).1) := ⟨_, ⟨rfl⟩⟩
            rw [← HUP.out] at HKU hk3 ⊢
            have hul : up.length ≤ 1000 := by rw [HUP.out]; exact model_len _
            go_upto_region 17 with fail
            have BU : Aside0 (Below w.heap.size w w4.drew) := ⟨below_step BZ.out (below_drew1 (Below.refl _ _))⟩
            have HKV : Aside0 (k148.C w4.drew A7 up.length up) := ⟨Kd.C_below HKU.out (below_drew1 (Below.refl _ _))⟩
            clear BZ HKU
            have CN : Aside0 (∀ W : World, Below w.heap.size w W → W.cell? ⟨(ad.add (kk * 4)).block, (ad.add (kk * 4)).off + 1, none⟩ = some (.string nm) ∧ W.cell? ⟨(ad.add (kk * 4)).block, (ad.add (kk * 4)).off + 2, none⟩ = some (.string y.f2)) := ⟨fun W hW => by obtain ⟨_, _, _, x1, x2, _⟩ := CELL.out W hW; rw [HNM.out]; exact ⟨x1, x2⟩⟩
            refine start_ (n := 14) (ds := []) (S := fun w' => w'.cell? ⟨(ad.add (kk * 4)).block, (ad.add (kk * 4)).off + 1, none⟩ = some (.string nm) ∧ w'.cell? ⟨(ad.add (kk * 4)).block, (ad.add (kk * 4)).off + 2, none⟩ = some (.string y.f2)) (V 14 0) (by rfl) (by rfl) (by kernel_rfl) (CN.out _ BU.out) (fun hHeld => ?_); refine with_tabW tab55_17 bits55_17 (fun HT_ HW_ => ?_)
            generalize w4.drew = wd at BU HKV hHeld ⊢
            refine pure_ (i := 0) (N := some 94) (v := ?_) (a' := ?_) (V 14 1) rfl rfl (any_of HT_.out (by kernel_rfl)) (fun _ _ _ h => h) (Or.inl ⟨by rfl, ?_⟩) ?_ ?_; rotate_left
            · intro w'; go_simp; with_reducible rfl
            rotate_left
            · simp only [Act.put, List.setIfInBounds_toArray, List.set_cons_zero, List.set_cons_succ, i64_w, i32_w]; rfl
            refine pure_ (i := 1) (N := some 95) (v := ?_) (a' := ?_) (V 14 3) rfl rfl (any_of HT_.out (by kernel_rfl)) (fun _ _ _ h => h) (Or.inl ⟨by rfl, ?_⟩) ?_ ?_; rotate_left
            · intro w'; go_simp; with_reducible rfl
            rotate_left
            · simp only [Act.put, List.setIfInBounds_toArray, List.set_cons_zero, List.set_cons_succ, i64_w, i32_w]; rfl
            refine pure_ (i := 2) (N := some 96) (v := ?_) (a' := ?_) (V 14 7) rfl rfl (any_of HT_.out (by kernel_rfl)) (fun _ _ _ h => h) (Or.inl ⟨by rfl, ?_⟩) ?_ ?_; rotate_left
            · intro w'; go_simp; with_reducible rfl
            rotate_left
            · simp only [Act.put, List.setIfInBounds_toArray, List.set_cons_zero, List.set_cons_succ, i64_w, i32_w]; rfl
            refine pure_ (i := 3) (N := some 97) (v := ?_) (a' := ?_) (V 14 15) rfl rfl (any_of HT_.out (by kernel_rfl)) (fun _ _ _ h => h) (Or.inl ⟨by rfl, ?_⟩) ?_ ?_; rotate_left
            · intro w'; go_simp; with_reducible rfl
            rotate_left
            · simp only [Act.put, List.setIfInBounds_toArray, List.set_cons_zero, List.set_cons_succ, i64_w, i32_w]; rfl
            refine pure_ (i := 4) (N := some 98) (v := ?_) (a' := ?_) (V 14 31) rfl rfl (any_of HT_.out (by kernel_rfl)) (fun _ _ _ h => h) (Or.inl ⟨by rfl, ?_⟩) ?_ ?_; rotate_left
            · intro w'; go_simp; with_reducible rfl
            rotate_left
            · simp only [Act.put, List.setIfInBounds_toArray, List.set_cons_zero, List.set_cons_succ, i64_w, i32_w]; rfl
            refine take_ (i := 5) (N := some 99) (v := ?_) (a' := ?_) (V 14 63) rfl rfl (take_ofW HT_.out HW_.out (by kernel_rfl)) (fun _ _ _ h => h) (Or.inl ⟨by rfl, ?_⟩) hHeld ?_ ?_; rotate_left
            · rintro w' ⟨s0, s1⟩; go_simp; with_reducible rfl
            rotate_left
            · simp only [Act.put, List.setIfInBounds_toArray, List.set_cons_zero, List.set_cons_succ, i64_w, i32_w]; rfl
            refine pure_ (i := 7) (N := some 101) (v := ?_) (a' := ?_) (V 14 191) rfl rfl (any_of HT_.out (by kernel_rfl)) (fun _ _ _ h => h) (Or.inl ⟨by rfl, ?_⟩) ?_ ?_; rotate_left
            · intro w'; go_simp; with_reducible rfl
            rotate_left
            · simp only [Act.put, List.setIfInBounds_toArray, List.set_cons_zero, List.set_cons_succ, i64_w, i32_w]; rfl
            refine pure_ (i := 8) (N := some 102) (v := ?_) (a' := ?_) (V 14 447) rfl rfl (any_of HT_.out (by kernel_rfl)) (fun _ _ _ h => h) (Or.inl ⟨by rfl, ?_⟩) ?_ ?_; rotate_left
            · intro w'; go_simp; with_reducible rfl
            rotate_left
            · simp only [Act.put, List.setIfInBounds_toArray, List.set_cons_zero, List.set_cons_succ, i64_w, i32_w]; rfl
            refine pure_ (i := 9) (N := some 103) (v := ?_) (a' := ?_) (V 14 959) rfl rfl (any_of HT_.out (by kernel_rfl)) (fun _ _ _ h => h) (Or.inl ⟨by rfl, ?_⟩) ?_ ?_; rotate_left
            · intro w'; go_simp; with_reducible rfl
            rotate_left
            · simp only [Act.put, List.setIfInBounds_toArray, List.set_cons_zero, List.set_cons_succ, i64_w, i32_w]; rfl
            refine pure_ (i := 10) (N := some 104) (v := ?_) (a' := ?_) (V 14 1983) rfl rfl (any_of HT_.out (by kernel_rfl)) (fun _ _ _ h => h) (Or.inl ⟨by rfl, ?_⟩) ?_ ?_; rotate_left
            · intro w'; go_simp; with_reducible rfl
            rotate_left
            · simp only [Act.put, List.setIfInBounds_toArray, List.set_cons_zero, List.set_cons_succ, i64_w, i32_w]; rfl
            refine take_ (i := 11) (N := some 105) (v := ?_) (a' := ?_) (V 14 4031) rfl rfl (take_ofW HT_.out HW_.out (by kernel_rfl)) (fun _ _ _ h => h) (Or.inl ⟨by rfl, ?_⟩) hHeld ?_ ?_; rotate_left
            · rintro w' ⟨s0, s1⟩; go_simp; with_reducible rfl
            rotate_left
            · simp only [Act.put, List.setIfInBounds_toArray, List.set_cons_zero, List.set_cons_succ, i64_w, i32_w]; rfl
            refine one_ (i := 6) (N := some 100) (V 14 4095) rfl rfl (one_of HT_.out (by kernel_rfl)) (by decide) (fun K hK => ?_)
            refine goes_ Tryz.func94 (by kernel_rfl) rfl #[.slice A7 up.length c7, .string nm] (by rfl) rfl rfl (by (try simp only [List.map_toArray, List.map_cons, List.map_nil]); first | done | rfl) ?_
            with_reducible refine (child_e A7 c7 up nm _ HKV.out hul).mono ?_
            rintro e w106 ⟨cy, hcy, rfl, hb⟩
            refine ⟨_, rfl, ?_⟩
            have BV := Aside0.mk (below_step BU.out hb)
            have HCY := Aside0.mk hcy
            clear hb hcy hHeld BU HKV; have BU := BV; clear BV
            refine hK.out _ _ (CN.out _ BU.out) (fun hHeld => ?_)
            clear hK K
            refine norm_ (a' := ?_) ?_ ?_; rotate_left
            · show Act.put _ (some 100) _ = _; simp only [Act.put, List.setIfInBounds_toArray, List.set_cons_zero, List.set_cons_succ, i64_w, i32_w]; rfl
            refine one_ (i := 12) (N := some 106) (V 14 8191) rfl rfl (one_of HT_.out (by kernel_rfl)) (by decide) (fun K hK => ?_)
            refine goes_ Tryz.func93 (by kernel_rfl) rfl #[.agg #[.string cy.f0, .int .i64 cy.f1, .int .i64 cy.f2, .int .i64 cy.f3, .int .i64 cy.f4, .int .i64 cy.f5], .string y.f2] (by rfl) rfl rfl (by (try simp only [List.map_toArray, List.map_cons, List.map_nil]); first | done | rfl) ?_
            with_reducible refine (simple_e cy.f0 cy.f1 cy.f2 cy.f3 cy.f4 cy.f5 y.f2 _ HSZ.out.2).mono ?_
            rintro e w112 ⟨en, rfl, hen, hb⟩
            refine ⟨_, rfl, ?_⟩
            have BV := Aside0.mk (below_step BU.out hb)
            have HEN := Aside0.mk hen
            clear hb hen hHeld BU; have BU := BV; clear BV
            refine hK.out _ _ (CN.out _ BU.out) (fun hHeld => ?_)
            clear hK K
            refine norm_ (a' := ?_) ?_ ?_; rotate_left
            · show Act.put _ (some 106) _ = _; simp only [Act.put, List.setIfInBounds_toArray, List.set_cons_zero, List.set_cons_succ, i64_w, i32_w]; rfl
            refine pure_ (i := 13) (N := some 8) (v := ?_) (a' := ?_) (V 14 16383) rfl rfl (any_of HT_.out (by kernel_rfl)) (fun _ _ _ h => h) (Or.inl ⟨by rfl, ?_⟩) ?_ ?_; rotate_left
            · intro w'; go_simp; with_reducible rfl
            rotate_left
            · simp only [Act.put, List.setIfInBounds_toArray, List.set_cons_zero, List.set_cons_succ, i64_w, i32_w]; rfl
            refine done_ (done_of HT_.out (by kernel_rfl)) ?_
            clear hHeld HT_ HW_
            have HOK : Aside0 (LeavesOK L → en = 0) := ⟨fun h => HEN.out (by
              have := h kk hlt (by rw [← HY.out, ← HNM.out]; exact HIS.out.symm)
              unfold upOf at this
              rw [show par L (kk : Int) = r by rw [HR.out, HY.out], ← HPN.out, ← HUP.out, ← HY.out, ← HNM.out, ← HCY.out] at this
              exact this)⟩
            by_cases q : en = 0
            · subst q
              go_wp2_with fail
              go_roundg (L.length - (kk + 1))
              case measure => omega
              case rel => exact ⟨kk + 1, by omega, by omega, by go_num, BU⟩
            · have q' : (en == 0) = false := beq_eq_false_iff_ne.mpr q
              go_wp2_with fail
              go_ret
              exact ⟨_, rfl, fun _ h => absurd (HOK.out h) q, BU.out⟩
        · have k0z : (0 : Int) < (kk : Int) := by omega
          have hl0 : l0 = 0 := by rw [HL0.out, HY.out, HS.out.att kk (by omega) hlt]; rfl
          subst hl0
          replace k0z := k0z
          go_wp2_with fail
          refine (HM _).out.mono ?_
          rintro e w2 ⟨A5, c5, rfl, hk, hk2, hb⟩
          have BX := Aside0.mk (below_step BW.out hb)
          have HKM := Aside0.mk hk
          clear hk hb d1 d3 HM
          obtain ⟨md, HMD⟩ : ∃ m, Aside0 (m = (modelF nm).1) := ⟨_, ⟨rfl⟩⟩
          obtain ⟨is, HIS⟩ : ∃ m, Aside0 (m = (modelF nm).2) := ⟨_, ⟨rfl⟩⟩
          rw [← HMD.out] at HKM hk2 ⊢
          rw [← HIS.out]
          have hml : md.length ≤ 1000 := by rw [HMD.out]; exact model_len _
          cases is with
          | true =>
            have HMO : Aside0 (y.f2 = ⟨#[]⟩ ∧ runs md (kidNames L (kk : Int))) := ⟨by rw [HMD.out, HNM.out, HY.out]; exact HS.out.mod kk hlt (by rw [← HY.out, ← HNM.out]; exact HIS.out.symm)⟩
            obtain ⟨_, _, _, _, d2, _⟩ := CELL.out _ BX.out
            rw [HMO.out.1] at d2
            go_wp2_with fail
            refine (blankNo_e ⟨#[]⟩ _ rfl).mono ?_
            rintro e w3 ⟨rfl, hb⟩
            have BY := Aside0.mk (below_step BX.out hb)
            have HKM2 := Aside0.mk (Kd.C_below HKM.out hb)
            clear hb d2
            go_wp2_with fail
            refine (kids_e (some ad) c L (kk : Int) A5 c5 md _ (Kd.C_below HC.out BY.out) hc HKM2.out (by omega) hml HMO.out.2).mono ?_
            rintro e w4 ⟨rfl, hb⟩
            have BZ := Aside0.mk (below_step BY.out hb)
            clear hb
            go_wp2_with fail
            go_roundg (L.length - (kk + 1))
            case measure => omega
            case rel => exact ⟨kk + 1, by omega, by omega, by go_num, BZ⟩
          | false =>
            have HLF : Aside0 (0 < kk ∧ kidsIx L (kk : Int) = []) := ⟨HS.out.leaf kk hlt (by rw [← HY.out, ← HNM.out]; exact HIS.out.symm)⟩
            go_wp2_with fail
            refine (kidsAll_e (some ad) c L (kk : Int) _ (Kd.C_below HC.out BX.out) hc (by omega)).mono ?_
            rintro e w3 ⟨A6, c6, rfl, _, _, hb⟩
            rw [HLF.out.2]
            have BY := Aside0.mk (below_step BX.out hb)
            clear hb
            obtain ⟨_, _, d0, _⟩ := CELL.out _ BY.out
            have hr0 : 0 ≤ y.f0 := by rw [HY.out]; exact HS.out.inn kk HLF.out.1 hlt
            have hr1 : y.f0 < (L.length : Int) := Int.lt_trans (show y.f0 < (kk : Int) by rw [HY.out]; exact (HS.out.tree kk hlt).2) hltz
            obtain ⟨r, HR⟩ : ∃ r, Aside0 (r = y.f0) := ⟨_, ⟨rfl⟩⟩
            rw [← HR.out] at d0 hr0 hr1
            obtain ⟨ad5, _, _, ea5, _, f1, _⟩ := at_T133 (Kd.C_below HC.out BY.out) r hr0 hr1
            have HA5 := Aside0.mk ea5
            obtain rfl := Option.some.inj ea5
            obtain ⟨pn, HPN⟩ : ∃ pn, Aside0 (pn = (rd_T133 L r).f1) := ⟨_, ⟨rfl⟩⟩
            rw [← HPN.out] at f1
            go_wp2_with fail
            refine (model_e pn _).mono ?_
            rintro e w4 ⟨A7, c7, rfl, hk, hk3, hb⟩
            have BZ := Aside0.mk (below_step BY.out hb)
            have HKU := Aside0.mk hk
            clear hk hb d0 f1
            obtain ⟨up, HUP⟩ : ∃ m, Aside0 (m = (modelF pn).1) := ⟨_, ⟨rfl⟩⟩
            rw [← HUP.out] at HKU hk3 ⊢
            have hul : up.length ≤ 1000 := by rw [HUP.out]; exact model_len _
            go_upto_region 17 with fail
            have BU : Aside0 (Below w.heap.size w w4.drew) := ⟨below_step BZ.out (below_drew1 (Below.refl _ _))⟩
            have HKV : Aside0 (k148.C w4.drew A7 up.length up) := ⟨Kd.C_below HKU.out (below_drew1 (Below.refl _ _))⟩
            clear BZ HKU
            have CN : Aside0 (∀ W : World, Below w.heap.size w W → W.cell? ⟨(ad.add (kk * 4)).block, (ad.add (kk * 4)).off + 1, none⟩ = some (.string nm) ∧ W.cell? ⟨(ad.add (kk * 4)).block, (ad.add (kk * 4)).off + 2, none⟩ = some (.string y.f2)) := ⟨fun W hW => by obtain ⟨_, _, _, x1, x2, _⟩ := CELL.out W hW; rw [HNM.out]; exact ⟨x1, x2⟩⟩
            refine start_ (n := 14) (ds := []) (S := fun w' => w'.cell? ⟨(ad.add (kk * 4)).block, (ad.add (kk * 4)).off + 1, none⟩ = some (.string nm) ∧ w'.cell? ⟨(ad.add (kk * 4)).block, (ad.add (kk * 4)).off + 2, none⟩ = some (.string y.f2)) (V 14 0) (by rfl) (by rfl) (by kernel_rfl) (CN.out _ BU.out) (fun hHeld => ?_); refine with_tabW tab55_17 bits55_17 (fun HT_ HW_ => ?_)
            generalize w4.drew = wd at BU HKV hHeld ⊢
            refine pure_ (i := 0) (N := some 94) (v := ?_) (a' := ?_) (V 14 1) rfl rfl (any_of HT_.out (by kernel_rfl)) (fun _ _ _ h => h) (Or.inl ⟨by rfl, ?_⟩) ?_ ?_; rotate_left
            · intro w'; go_simp; with_reducible rfl
            rotate_left
            · simp only [Act.put, List.setIfInBounds_toArray, List.set_cons_zero, List.set_cons_succ, i64_w, i32_w]; rfl
            refine pure_ (i := 1) (N := some 95) (v := ?_) (a' := ?_) (V 14 3) rfl rfl (any_of HT_.out (by kernel_rfl)) (fun _ _ _ h => h) (Or.inl ⟨by rfl, ?_⟩) ?_ ?_; rotate_left
            · intro w'; go_simp; with_reducible rfl
            rotate_left
            · simp only [Act.put, List.setIfInBounds_toArray, List.set_cons_zero, List.set_cons_succ, i64_w, i32_w]; rfl
            refine pure_ (i := 2) (N := some 96) (v := ?_) (a' := ?_) (V 14 7) rfl rfl (any_of HT_.out (by kernel_rfl)) (fun _ _ _ h => h) (Or.inl ⟨by rfl, ?_⟩) ?_ ?_; rotate_left
            · intro w'; go_simp; with_reducible rfl
            rotate_left
            · simp only [Act.put, List.setIfInBounds_toArray, List.set_cons_zero, List.set_cons_succ, i64_w, i32_w]; rfl
            refine pure_ (i := 3) (N := some 97) (v := ?_) (a' := ?_) (V 14 15) rfl rfl (any_of HT_.out (by kernel_rfl)) (fun _ _ _ h => h) (Or.inl ⟨by rfl, ?_⟩) ?_ ?_; rotate_left
            · intro w'; go_simp; with_reducible rfl
            rotate_left
            · simp only [Act.put, List.setIfInBounds_toArray, List.set_cons_zero, List.set_cons_succ, i64_w, i32_w]; rfl
            refine pure_ (i := 4) (N := some 98) (v := ?_) (a' := ?_) (V 14 31) rfl rfl (any_of HT_.out (by kernel_rfl)) (fun _ _ _ h => h) (Or.inl ⟨by rfl, ?_⟩) ?_ ?_; rotate_left
            · intro w'; go_simp; with_reducible rfl
            rotate_left
            · simp only [Act.put, List.setIfInBounds_toArray, List.set_cons_zero, List.set_cons_succ, i64_w, i32_w]; rfl
            refine take_ (i := 5) (N := some 99) (v := ?_) (a' := ?_) (V 14 63) rfl rfl (take_ofW HT_.out HW_.out (by kernel_rfl)) (fun _ _ _ h => h) (Or.inl ⟨by rfl, ?_⟩) hHeld ?_ ?_; rotate_left
            · rintro w' ⟨s0, s1⟩; go_simp; with_reducible rfl
            rotate_left
            · simp only [Act.put, List.setIfInBounds_toArray, List.set_cons_zero, List.set_cons_succ, i64_w, i32_w]; rfl
            refine pure_ (i := 7) (N := some 101) (v := ?_) (a' := ?_) (V 14 191) rfl rfl (any_of HT_.out (by kernel_rfl)) (fun _ _ _ h => h) (Or.inl ⟨by rfl, ?_⟩) ?_ ?_; rotate_left
            · intro w'; go_simp; with_reducible rfl
            rotate_left
            · simp only [Act.put, List.setIfInBounds_toArray, List.set_cons_zero, List.set_cons_succ, i64_w, i32_w]; rfl
            refine pure_ (i := 8) (N := some 102) (v := ?_) (a' := ?_) (V 14 447) rfl rfl (any_of HT_.out (by kernel_rfl)) (fun _ _ _ h => h) (Or.inl ⟨by rfl, ?_⟩) ?_ ?_; rotate_left
            · intro w'; go_simp; with_reducible rfl
            rotate_left
            · simp only [Act.put, List.setIfInBounds_toArray, List.set_cons_zero, List.set_cons_succ, i64_w, i32_w]; rfl
            refine pure_ (i := 9) (N := some 103) (v := ?_) (a' := ?_) (V 14 959) rfl rfl (any_of HT_.out (by kernel_rfl)) (fun _ _ _ h => h) (Or.inl ⟨by rfl, ?_⟩) ?_ ?_; rotate_left
            · intro w'; go_simp; with_reducible rfl
            rotate_left
            · simp only [Act.put, List.setIfInBounds_toArray, List.set_cons_zero, List.set_cons_succ, i64_w, i32_w]; rfl
            refine pure_ (i := 10) (N := some 104) (v := ?_) (a' := ?_) (V 14 1983) rfl rfl (any_of HT_.out (by kernel_rfl)) (fun _ _ _ h => h) (Or.inl ⟨by rfl, ?_⟩) ?_ ?_; rotate_left
            · intro w'; go_simp; with_reducible rfl
            rotate_left
            · simp only [Act.put, List.setIfInBounds_toArray, List.set_cons_zero, List.set_cons_succ, i64_w, i32_w]; rfl
            refine take_ (i := 11) (N := some 105) (v := ?_) (a' := ?_) (V 14 4031) rfl rfl (take_ofW HT_.out HW_.out (by kernel_rfl)) (fun _ _ _ h => h) (Or.inl ⟨by rfl, ?_⟩) hHeld ?_ ?_; rotate_left
            · rintro w' ⟨s0, s1⟩; go_simp; with_reducible rfl
            rotate_left
            · simp only [Act.put, List.setIfInBounds_toArray, List.set_cons_zero, List.set_cons_succ, i64_w, i32_w]; rfl
            refine one_ (i := 6) (N := some 100) (V 14 4095) rfl rfl (one_of HT_.out (by kernel_rfl)) (by decide) (fun K hK => ?_)
            refine goes_ Tryz.func94 (by kernel_rfl) rfl #[.slice A7 up.length c7, .string nm] (by rfl) rfl rfl (by (try simp only [List.map_toArray, List.map_cons, List.map_nil]); first | done | rfl) ?_
            with_reducible refine (child_e A7 c7 up nm _ HKV.out hul).mono ?_
            rintro e w106 ⟨cy, hcy, rfl, hb⟩
            refine ⟨_, rfl, ?_⟩
            have BV := Aside0.mk (below_step BU.out hb)
            have HCY := Aside0.mk hcy
            clear hb hcy hHeld BU HKV; have BU := BV; clear BV
            refine hK.out _ _ (CN.out _ BU.out) (fun hHeld => ?_)
            clear hK K
            refine norm_ (a' := ?_) ?_ ?_; rotate_left
            · show Act.put _ (some 100) _ = _; simp only [Act.put, List.setIfInBounds_toArray, List.set_cons_zero, List.set_cons_succ, i64_w, i32_w]; rfl
            refine one_ (i := 12) (N := some 106) (V 14 8191) rfl rfl (one_of HT_.out (by kernel_rfl)) (by decide) (fun K hK => ?_)
            refine goes_ Tryz.func93 (by kernel_rfl) rfl #[.agg #[.string cy.f0, .int .i64 cy.f1, .int .i64 cy.f2, .int .i64 cy.f3, .int .i64 cy.f4, .int .i64 cy.f5], .string y.f2] (by rfl) rfl rfl (by (try simp only [List.map_toArray, List.map_cons, List.map_nil]); first | done | rfl) ?_
            with_reducible refine (simple_e cy.f0 cy.f1 cy.f2 cy.f3 cy.f4 cy.f5 y.f2 _ HSZ.out.2).mono ?_
            rintro e w112 ⟨en, rfl, hen, hb⟩
            refine ⟨_, rfl, ?_⟩
            have BV := Aside0.mk (below_step BU.out hb)
            have HEN := Aside0.mk hen
            clear hb hen hHeld BU; have BU := BV; clear BV
            refine hK.out _ _ (CN.out _ BU.out) (fun hHeld => ?_)
            clear hK K
            refine norm_ (a' := ?_) ?_ ?_; rotate_left
            · show Act.put _ (some 106) _ = _; simp only [Act.put, List.setIfInBounds_toArray, List.set_cons_zero, List.set_cons_succ, i64_w, i32_w]; rfl
            refine pure_ (i := 13) (N := some 8) (v := ?_) (a' := ?_) (V 14 16383) rfl rfl (any_of HT_.out (by kernel_rfl)) (fun _ _ _ h => h) (Or.inl ⟨by rfl, ?_⟩) ?_ ?_; rotate_left
            · intro w'; go_simp; with_reducible rfl
            rotate_left
            · simp only [Act.put, List.setIfInBounds_toArray, List.set_cons_zero, List.set_cons_succ, i64_w, i32_w]; rfl
            refine done_ (done_of HT_.out (by kernel_rfl)) ?_
            clear hHeld HT_ HW_
            have HOK : Aside0 (LeavesOK L → en = 0) := ⟨fun h => HEN.out (by
              have := h kk hlt (by rw [← HY.out, ← HNM.out]; exact HIS.out.symm)
              unfold upOf at this
              rw [show par L (kk : Int) = r by rw [HR.out, HY.out], ← HPN.out, ← HUP.out, ← HY.out, ← HNM.out, ← HCY.out] at this
              exact this)⟩
            by_cases q : en = 0
            · subst q
              go_wp2_with fail
              go_roundg (L.length - (kk + 1))
              case measure => omega
              case rel => exact ⟨kk + 1, by omega, by omega, by go_num, BU⟩
            · have q' : (en == 0) = false := beq_eq_false_iff_ne.mpr q
              go_wp2_with fail
              go_ret
              exact ⟨_, rfl, fun _ h => absurd (HOK.out h) q, BU.out⟩
      · have hltz : ¬ (kk : Int) < (L.length : Int) := by omega
        go_wp2_with fail
        go_ret
        exact ⟨_, rfl, fun _ _ => by rfl, BW.out⟩
def Esc (s t : ByteArray) : Prop := t.size ≤ 6 * s.size
set_option maxHeartbeats 4000000 in
set_option maxRecDepth 10000 in
theorem escape_e (s : ByteArray) (w : World) (hs : s.size ≤ 140737488355328) : Calls Tryz.prog 119 #[.string s] w (OutS (Esc s) w) := by
  have HS := Aside0.mk hs
  go_enter Tryz.func119, Tryz.ntmps119
  go_wp2_with fail
  go_loopg [3, 4] s.size (fun gg s3 s4 wr => ∃ (kk : Nat) (t : ByteArray), kk ≤ s.size ∧ s.size - kk ≤ gg ∧ s4 = .int .i64 kk ∧ s3 = .string t ∧ t.size ≤ 6 * kk ∧ Aside0 (Below w.heap.size w wr))
  case atStart => exact ⟨0, ⟨#[]⟩, Nat.zero_le _, by omega, rfl, rfl, Nat.le_refl _, ⟨Below.refl _ w⟩⟩
  case round =>
    obtain ⟨kk, t, hkk, hg, rfl, rfl, ht, BW⟩ := hrel
    by_cases hlt : kk < s.size
    · have hltz : (kk : Int) < (s.size : Int) := by omega
      have hx := byte_at s kk
      generalize bt s (kk : Int) = c at hx
      by_cases q0 : c = 38
      · have q' : (c == 38) = true := beq_iff_eq.mpr q0
        have hcap : t.size + 5 ≤ 9223372036854775807 := by omega
        replace q0 := Aside0.mk q0
        go_wp2_with fail
        go_roundg (s.size - (kk + 1))
        case measure => omega
        case rel => exact ⟨kk + 1, t ++ ⟨#[38, 97, 109, 112, 59]⟩, by omega, by omega, by have := HS.out; go_num, rfl, by rw [ByteArray.size_append]; show _ + 5 ≤ _; omega, BW⟩
      have b0 : (c == 38) = false := beq_eq_false_iff_ne.mpr q0
      by_cases q1 : c = 60
      · have q' : (c == 60) = true := beq_iff_eq.mpr q1
        have hcap : t.size + 4 ≤ 9223372036854775807 := by omega
        replace q1 := Aside0.mk q1
        go_wp2_with fail
        go_roundg (s.size - (kk + 1))
        case measure => omega
        case rel => exact ⟨kk + 1, t ++ ⟨#[38, 108, 116, 59]⟩, by omega, by omega, by have := HS.out; go_num, rfl, by rw [ByteArray.size_append]; show _ + 4 ≤ _; omega, BW⟩
      have b1 : (c == 60) = false := beq_eq_false_iff_ne.mpr q1
      by_cases q2 : c = 62
      · have q' : (c == 62) = true := beq_iff_eq.mpr q2
        have hcap : t.size + 4 ≤ 9223372036854775807 := by omega
        replace q2 := Aside0.mk q2
        go_wp2_with fail
        go_roundg (s.size - (kk + 1))
        case measure => omega
        case rel => exact ⟨kk + 1, t ++ ⟨#[38, 103, 116, 59]⟩, by omega, by omega, by have := HS.out; go_num, rfl, by rw [ByteArray.size_append]; show _ + 4 ≤ _; omega, BW⟩
      have b2 : (c == 62) = false := beq_eq_false_iff_ne.mpr q2
      by_cases q3 : c = 34
      · have q' : (c == 34) = true := beq_iff_eq.mpr q3
        have hcap : t.size + 6 ≤ 9223372036854775807 := by omega
        replace q3 := Aside0.mk q3
        go_wp2_with fail
        go_roundg (s.size - (kk + 1))
        case measure => omega
        case rel => exact ⟨kk + 1, t ++ ⟨#[38, 113, 117, 111, 116, 59]⟩, by omega, by omega, by have := HS.out; go_num, rfl, by rw [ByteArray.size_append]; show _ + 6 ≤ _; omega, BW⟩
      have b3 : (c == 34) = false := beq_eq_false_iff_ne.mpr q3
      have l1 : (kk : Int) ≤ (kk : Int) + 1 := by omega
      have l2 : (kk : Int) + 1 ≤ (s.size : Int) := by omega
      have hz : (s.extract kk ((kk : Int) + 1).toNat).size = 1 := by rw [ByteArray.size_extract]; omega
      have hcap : t.size + (s.extract kk ((kk : Int) + 1).toNat).size ≤ 9223372036854775807 := by rw [hz]; omega
      have e3 : ((kk : Int) + 1).toNat = kk + 1 := by omega
      have HZ := Aside0.mk hz
      have hcap2 : t.size + (s.extract kk (kk + 1)).size ≤ 9223372036854775807 := by rw [← e3]; exact hcap
      have HZ2 : Aside0 ((s.extract kk (kk + 1)).size = 1) := ⟨by rw [← e3]; exact hz⟩
      clear hz q0 q1 q2 q3
      go_wp2_with fail
      go_roundg (s.size - (kk + 1))
      case measure => omega
      case rel => exact ⟨kk + 1, _, by omega, by omega, by have := HS.out; go_num, rfl, by first | (rw [ByteArray.size_append, HZ2.out]; omega) | (rw [ByteArray.size_append, HZ.out]; omega), BW⟩
    · have hltz : ¬ (kk : Int) < (s.size : Int) := by omega
      have HQ : Aside0 (Esc s t) := ⟨by unfold Esc; omega⟩
      go_wp2_with fail
      go_ret
      exact ⟨_, rfl, HQ.out, BW.out⟩
end Go.Proofs.YthapknnppabdaaaGreat.MQ
