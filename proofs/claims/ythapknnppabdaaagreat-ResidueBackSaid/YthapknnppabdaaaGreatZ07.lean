/- ResidueBack: part 7 of its proof. -/
import Derived.Test.YthapknnppabdaaaGreatZ06
namespace Go.Proofs.YthapknnppabdaaaGreat.MQ
open Go.RowKit Go.Proofs.YthapknnppabdaaaGreatW.PrintWords Go.Proofs.YthapknnppabdaaaGreatW.PrintLast Go.Proofs.YthapknnppabdaaaGreatW.PrintMore
set_option linter.unusedVariables false
set_option linter.unusedSimpArgs false
def T91_7 : Bool × List (List Nat × List Nat) := (true, [([], []), ([], []), ([1], [1]), ([0, 2], [0, 2]), ([3], [3]), ([4], [4]), ([4], [4]), ([4], [4]), ([6, 7, 4], [4, 6, 7]), ([8, 4], [4, 8]), ([5, 9, 4], [4, 5, 9]), ([10, 4], [4, 10]), ([11, 4], [4, 11]), ([4], [4]), ([4], [4]), ([13, 14, 4], [4, 13, 14]), ([15, 4], [4, 15]), ([16, 4], [4, 16]), ([12, 17, 4], [4, 12, 17]), ([4, 18], [4, 18])])
def B91_7 : List Nat := [0, 0, 2, 7, 15, 31, 31, 31, 223, 479, 1023, 2047, 4095, 31, 31, 24607, 57375, 122911, 262143, 524287]
theorem tab91_7 : rtab .any (opsOf Tryz.f91 7) = T91_7 := by kernel_rfl
theorem bits91_7 : waitsOk T91_7.2 B91_7 = true := by kernel_rfl

/-- Names, in the order of a model's children, each so often as may be. -/
def runs : List S148 → List ByteArray → Prop
  | [], l => l = []
  | c :: cs, l => ∃ (m : Nat) (rest : List ByteArray), l = List.replicate m c.f0 ++ rest ∧ c.f1 ≤ (m : Int) ∧ (m : Int) ≤ c.f2 ∧ (∀ x, rest.head? = some x → x.toList ≠ c.f0.toList) ∧ runs cs rest
def kidNames (L : List S133) (i : Int) : List ByteArray := (kidsIx L i).map fun k => (rd_T133 L k).f1
theorem kidsIx_mem {L : List S133} {i k : Int} (h : k ∈ kidsIx L i) : 0 ≤ k ∧ k < (L.length : Int) ∧ par L k = i := by
  unfold kidsIx at h
  split at h
  · unfold kidsTo at h
    rw [List.mem_map] at h
    obtain ⟨j, hj, rfl⟩ := h
    rw [List.mem_filter, List.mem_range, beq_iff_eq] at hj
    exact ⟨by omega, by omega, hj.2⟩
  · cases h
theorem rd148_drop {l : List S148} {n : Nat} (h : n < l.length) : l.drop n = rd_T148 l (n : Int) :: l.drop (n + 1) := by
  rw [List.drop_eq_getElem_cons h]
  unfold rd_T148
  rw [Int.toNat_natCast, List.getD_eq_getElem?_getD, List.getElem?_eq_getElem h, Option.getD_some]
theorem rd_get {l : List Int} {n : Nat} (h : n < l.length) : rd l (n : Int) = l[n] := by
  unfold rd
  rw [Int.toNat_natCast, List.getD_eq_getElem?_getD, List.getElem?_eq_getElem h, Option.getD_some]
set_option maxHeartbeats 16000000 in
set_option maxRecDepth 100000 in
theorem kids_e (A : Option Addr) (c : Nat) (L : List S133) (i : Int) (B : Option Addr) (d : Nat) (Cs : List S148) (w : World) (hC : k133.C w A L.length L) (hc : L.length ≤ c) (hD : k148.C w B Cs.length Cs) (hn : L.length ≤ 1000) (hm : Cs.length ≤ 1000) (hr : runs Cs (kidNames L i)) : Calls Tryz.prog 91 #[.slice A L.length c, .int .i64 i, .slice B Cs.length d] w fun e w' => e = .returned (.bool true) ∧ Below w.heap.size w w' := by
  have HN := Aside0.mk (And.intro hn hm)
  have HC := Aside0.mk hC
  have HD := Aside0.mk hD
  have HR := Aside0.mk hr
  have HK := Aside0.mk (kidsAll_e A c L i w hC hc hn)
  clear hC hD hr
  go_enter Tryz.func91, Tryz.ntmps91
  go_wp2_with fail
  refine HK.out.mono ?_
  rintro e w1 ⟨A2, c2, rfl, hk, hk2, hb⟩
  have BW := Aside0.mk hb
  have HKC := Aside0.mk hk
  have HC := Aside0.mk (Kd.C_below HC.out hb)
  have HD := Aside0.mk (Kd.C_below HD.out hb)
  clear hk hb HK
  obtain ⟨ks, HKS⟩ : ∃ ks, Aside0 (ks = kidsIx L i) := ⟨_, ⟨rfl⟩⟩
  rw [← HKS.out] at HKC hk2 ⊢
  have HKN : Aside0 (kidNames L i = ks.map fun k => (rd_T133 L k).f1) := ⟨by unfold kidNames; rw [HKS.out]⟩
  have HMEM : Aside0 (∀ j : Nat, j < ks.length → 0 ≤ rd ks (j : Int) ∧ rd ks (j : Int) < (L.length : Int)) := ⟨fun j hj => by
    have := kidsIx_mem (L := L) (i := i) (k := rd ks (j : Int)) (by rw [rd_get hj, ← HKS.out]; exact List.getElem_mem hj)
    exact ⟨this.1, this.2.1⟩⟩
  obtain ⟨kn, HKNN⟩ : ∃ kn, Aside0 (kn = kidNames L i) := ⟨_, ⟨rfl⟩⟩
  rw [← HKNN.out] at HKN HR
  have hkl : kn.length = ks.length := by rw [HKN.out, List.length_map]
  have hks : ks.length ≤ 1000 := by
    have : ks.length ≤ L.length := by
      rw [HKS.out]; unfold kidsIx; split
      · exact kidsTo_len _ _ _
      · exact Nat.zero_le _
    have := HN.out.1; omega
  have HGET : Aside0 (∀ j (hj : j < ks.length), kn[j]? = some (rd_T133 L (rd ks (j : Int))).f1) := ⟨fun j hj => by rw [HKN.out, List.getElem?_map, List.getElem?_eq_getElem hj, rd_get hj]; rfl⟩
  go_wp2_with fail
  go_loopg [8, 9] Cs.length (fun gg s8 s9 wr => ∃ (at0 n : Nat), n ≤ Cs.length ∧ Cs.length - n ≤ gg ∧ at0 ≤ ks.length ∧ s8 = .int .i64 at0 ∧ s9 = .int .i64 n ∧ Aside0 (Drawn0 w1 wr) ∧ Aside0 (runs (Cs.drop n) (kn.drop at0)))
  case atStart => exact ⟨0, 0, Nat.zero_le _, by omega, Nat.zero_le _, rfl, rfl, ⟨Drawn0.refl _⟩, HR⟩
  case round =>
    obtain ⟨at0, n, hnn, hg, hat, rfl, rfl, DW, RU⟩ := hrel
    by_cases hlt : n < Cs.length
    · have hltz : (n : Int) < (Cs.length : Int) := by omega
      obtain ⟨y, HY⟩ : ∃ y, Aside0 (y = rd_T148 Cs (n : Int)) := ⟨_, ⟨rfl⟩⟩
      have hru := RU.out
      rw [rd148_drop hlt, ← HY.out] at hru
      obtain ⟨m, rest, hl, hm1, hm2, hh, hrest⟩ := hru
      have hml : at0 + m + rest.length = ks.length := by
        have := congrArg List.length hl
        rw [List.length_drop, List.length_append, List.length_replicate] at this
        omega
      have HL := Aside0.mk (And.intro hl (And.intro hh hrest))
      have HM := Aside0.mk (And.intro hm1 hm2)
      clear hl hh hrest hm1 hm2
      have HAT : Aside0 (∀ j : Nat, kn[at0 + j]? = (List.replicate m y.f0 ++ rest)[j]?) := ⟨fun j => by rw [← HL.out.1, List.getElem?_drop]⟩
      go_wp2_with fail
      go_loopg [8, 10] m (fun gg s8 s10 wq => ∃ j t : Nat, j ≤ m ∧ m - j ≤ gg ∧ s8 = .int .i64 t ∧ s10 = .int .i64 j ∧ Aside0 (Drawn0 w1 wq) ∧ Aside0 (t = at0 + j))
      case atStart => exact ⟨0, at0, Nat.zero_le _, by omega, rfl, rfl, DW, ⟨rfl⟩⟩
      case round =>
        obtain ⟨j, t, hj, hgj, rfl, rfl, DQ, HTT⟩ := hrel
        by_cases hin : t < ks.length
        · have hinz : (t : Int) < (ks.length : Int) := by omega
          have hinzb : decide ((t : Int) < (ks.length : Int)) = true := decide_eq_true hinz
          obtain ⟨a2, ea2, k0⟩ := Kd.at_int (Kd.C_below HKC.out DQ.out.below) (t : Int) (by omega) hinz
          have hmem := HMEM.out t hin
          have hget := HGET.out t hin
          obtain ⟨x, HX⟩ : ∃ x, Aside0 (x = rd ks (t : Int)) := ⟨_, ⟨rfl⟩⟩
          rw [← HX.out] at k0 hmem hget
          have hx0 := hmem.1
          have hx1 := hmem.2
          obtain ⟨a3, A4, c4, ea3, _, l1, _⟩ := at_T133 (Kd.C_below HC.out DQ.out.below) x hx0 hx1
          obtain ⟨a5, ea5, m0, _⟩ := at_T148 (Kd.C_below HD.out DQ.out.below) (n : Int) (by omega) hltz
          rw [← HY.out] at m0
          obtain ⟨nm, HNM⟩ : ∃ nm, Aside0 (nm = (rd_T133 L x).f1) := ⟨_, ⟨rfl⟩⟩
          rw [← HNM.out] at l1 hget
          obtain ⟨cn, HCN⟩ : ∃ cn, Aside0 (cn = y.f0) := ⟨_, ⟨rfl⟩⟩
          rw [← HCN.out] at m0
          rw [Int.toNat_natCast] at k0 m0
          have HS := Aside0.mk (And.intro k0 (And.intro l1 m0))
          have HEA := Aside0.mk (And.intro ea2 (And.intro ea3 ea5))
          have HGE := Aside0.mk hget
          clear k0 l1 m0 hmem hget
          have hx1' : x < (L.length : Int) := hx1
          subst ea2; subst ea3; subst ea5
          by_cases hjm : j < m
          · have HEQ : Aside0 (nm = cn) := ⟨by
              have := HAT.out j
              rw [← HTT.out, HGE.out, List.getElem?_append_left (by rw [List.length_replicate]; exact hjm), List.getElem?_replicate, if_pos hjm] at this
              rw [HCN.out]; exact Option.some.inj this⟩
            have q1 : (nm.toList == cn.toList) = true := by rw [HEQ.out]; exact beq_self_eq_true _
            go_upto_region 7 with fail
            have DQ2 : Aside0 (Drawn0 w1 wr.drew) := ⟨DQ.out.step 1⟩
            have HS2 : Aside0 (wr.drew.cell? (a2.add t) = some (.int .i64 x) ∧ wr.drew.cell? ⟨(a3.add (x.toNat * 4)).block, (a3.add (x.toNat * 4)).off + 1, none⟩ = some (.string nm) ∧ wr.drew.cell? (a5.add (n * 6)) = some (.string cn)) := ⟨by obtain ⟨x0, x1, x2⟩ := HS.out; exact ⟨x0, x1, x2⟩⟩
            refine start_ (n := 20) (ds := []) (S := fun w' => w'.cell? (a2.add t) = some (.int .i64 x) ∧ w'.cell? ⟨(a3.add (x.toNat * 4)).block, (a3.add (x.toNat * 4)).off + 1, none⟩ = some (.string nm) ∧ w'.cell? (a5.add (n * 6)) = some (.string cn)) (V 20 0) (by rfl) (by rfl) (by kernel_rfl) (HS2.out) (fun hHeld => ?_); refine with_tabW tab91_7 bits91_7 (fun HT_ HW_ => ?_)
            refine pure_ (i := 0) (N := some 20) (v := ?_) (a' := ?_) (V 20 1) rfl rfl (any_of HT_.out (by kernel_rfl)) (fun _ _ _ h => h) (Or.inl ⟨by rfl, ?_⟩) ?_ ?_; rotate_left
            · intro w'; go_simp; with_reducible rfl
            rotate_left
            · simp only [Act.put, List.setIfInBounds_toArray, List.set_cons_zero, List.set_cons_succ, i64_w, i32_w]; rfl
            refine pure_ (i := 1) (N := some 21) (v := ?_) (a' := ?_) (V 20 3) rfl rfl (any_of HT_.out (by kernel_rfl)) (fun _ _ _ h => h) (Or.inl ⟨by rfl, ?_⟩) ?_ ?_; rotate_left
            · intro w'; go_simp; with_reducible rfl
            rotate_left
            · simp only [Act.put, List.setIfInBounds_toArray, List.set_cons_zero, List.set_cons_succ, i64_w, i32_w]; rfl
            refine pure_ (i := 2) (N := some 22) (v := ?_) (a' := ?_) (V 20 7) rfl rfl (any_of HT_.out (by kernel_rfl)) (fun _ _ _ h => h) (Or.inl ⟨by rfl, ?_⟩) ?_ ?_; rotate_left
            · intro w'; go_simp; with_reducible rfl
            rotate_left
            · simp only [Act.put, List.setIfInBounds_toArray, List.set_cons_zero, List.set_cons_succ, i64_w, i32_w]; rfl
            refine pure_ (i := 3) (N := some 23) (v := ?_) (a' := ?_) (V 20 15) rfl rfl (any_of HT_.out (by kernel_rfl)) (fun _ _ _ h => h) (Or.inl ⟨by rfl, ?_⟩) ?_ ?_; rotate_left
            · intro w'; go_simp; with_reducible rfl
            rotate_left
            · simp only [Act.put, List.setIfInBounds_toArray, List.set_cons_zero, List.set_cons_succ, i64_w, i32_w]; rfl
            refine pure_ (i := 4) (N := some 24) (v := ?_) (a' := ?_) (V 20 31) rfl rfl (any_of HT_.out (by kernel_rfl)) (fun _ _ _ h => h) (Or.inl ⟨by rfl, ?_⟩) ?_ ?_; rotate_left
            · intro w'; go_simp; with_reducible rfl
            rotate_left
            · simp only [Act.put, List.setIfInBounds_toArray, List.set_cons_zero, List.set_cons_succ, i64_w, i32_w]; rfl
            refine pure_ (i := 5) (N := some 25) (v := ?_) (a' := ?_) (V 20 63) rfl rfl (any_of HT_.out (by kernel_rfl)) (fun _ _ _ h => h) (Or.inl ⟨by rfl, ?_⟩) ?_ ?_; rotate_left
            · intro w'; go_simp; with_reducible rfl
            rotate_left
            · simp only [Act.put, List.setIfInBounds_toArray, List.set_cons_zero, List.set_cons_succ, i64_w, i32_w]; rfl
            refine pure_ (i := 6) (N := some 26) (v := ?_) (a' := ?_) (V 20 127) rfl rfl (any_of HT_.out (by kernel_rfl)) (fun _ _ _ h => h) (Or.inl ⟨by rfl, ?_⟩) ?_ ?_; rotate_left
            · intro w'; go_simp; with_reducible rfl
            rotate_left
            · simp only [Act.put, List.setIfInBounds_toArray, List.set_cons_zero, List.set_cons_succ, i64_w, i32_w]; rfl
            refine pure_ (i := 7) (N := some 27) (v := ?_) (a' := ?_) (V 20 255) rfl rfl (any_of HT_.out (by kernel_rfl)) (fun _ _ _ h => h) (Or.inl ⟨by rfl, ?_⟩) ?_ ?_; rotate_left
            · intro w'; go_simp; with_reducible rfl
            rotate_left
            · simp only [Act.put, List.setIfInBounds_toArray, List.set_cons_zero, List.set_cons_succ, i64_w, i32_w]; rfl
            refine pure_ (i := 8) (N := some 28) (v := ?_) (a' := ?_) (V 20 511) rfl rfl (any_of HT_.out (by kernel_rfl)) (fun _ _ _ h => h) (Or.inl ⟨by rfl, ?_⟩) ?_ ?_; rotate_left
            · intro w'; go_simp; with_reducible rfl
            rotate_left
            · simp only [Act.put, List.setIfInBounds_toArray, List.set_cons_zero, List.set_cons_succ, i64_w, i32_w]; rfl
            refine take_ (i := 9) (N := some 29) (v := ?_) (a' := ?_) (V 20 1023) rfl rfl (take_ofW HT_.out HW_.out (by kernel_rfl)) (fun _ _ _ h => h) (Or.inl ⟨by rfl, ?_⟩) hHeld ?_ ?_; rotate_left
            · rintro w' ⟨s0, s1, s2⟩; go_simp; with_reducible rfl
            rotate_left
            · simp only [Act.put, List.setIfInBounds_toArray, List.set_cons_zero, List.set_cons_succ, i64_w, i32_w]; rfl
            refine pure_ (i := 10) (N := some 30) (v := ?_) (a' := ?_) (V 20 2047) rfl rfl (any_of HT_.out (by kernel_rfl)) (fun _ _ _ h => h) (Or.inl ⟨by rfl, ?_⟩) ?_ ?_; rotate_left
            · intro w'; go_simp; with_reducible rfl
            rotate_left
            · simp only [Act.put, List.setIfInBounds_toArray, List.set_cons_zero, List.set_cons_succ, i64_w, i32_w]; rfl
            refine pure_ (i := 11) (N := some 31) (v := ?_) (a' := ?_) (V 20 4095) rfl rfl (any_of HT_.out (by kernel_rfl)) (fun _ _ _ h => h) (Or.inl ⟨by rfl, ?_⟩) ?_ ?_; rotate_left
            · intro w'; go_simp; with_reducible rfl
            rotate_left
            · simp only [Act.put, List.setIfInBounds_toArray, List.set_cons_zero, List.set_cons_succ, i64_w, i32_w]; rfl
            refine take_ (i := 12) (N := some 32) (v := ?_) (a' := ?_) (V 20 8191) rfl rfl (take_ofW HT_.out HW_.out (by kernel_rfl)) (fun _ _ _ h => h) (Or.inl ⟨by rfl, ?_⟩) hHeld ?_ ?_; rotate_left
            · rintro w' ⟨s0, s1, s2⟩; go_simp; with_reducible rfl
            rotate_left
            · simp only [Act.put, List.setIfInBounds_toArray, List.set_cons_zero, List.set_cons_succ, i64_w, i32_w]; rfl
            refine pure_ (i := 13) (N := some 33) (v := ?_) (a' := ?_) (V 20 16383) rfl rfl (any_of HT_.out (by kernel_rfl)) (fun _ _ _ h => h) (Or.inl ⟨by rfl, ?_⟩) ?_ ?_; rotate_left
            · intro w'; go_simp; with_reducible rfl
            rotate_left
            · simp only [Act.put, List.setIfInBounds_toArray, List.set_cons_zero, List.set_cons_succ, i64_w, i32_w]; rfl
            refine pure_ (i := 14) (N := some 34) (v := ?_) (a' := ?_) (V 20 32767) rfl rfl (any_of HT_.out (by kernel_rfl)) (fun _ _ _ h => h) (Or.inl ⟨by rfl, ?_⟩) ?_ ?_; rotate_left
            · intro w'; go_simp; with_reducible rfl
            rotate_left
            · simp only [Act.put, List.setIfInBounds_toArray, List.set_cons_zero, List.set_cons_succ, i64_w, i32_w]; rfl
            refine pure_ (i := 15) (N := some 35) (v := ?_) (a' := ?_) (V 20 65535) rfl rfl (any_of HT_.out (by kernel_rfl)) (fun _ _ _ h => h) (Or.inl ⟨by rfl, ?_⟩) ?_ ?_; rotate_left
            · intro w'; go_simp; with_reducible rfl
            rotate_left
            · simp only [Act.put, List.setIfInBounds_toArray, List.set_cons_zero, List.set_cons_succ, i64_w, i32_w]; rfl
            refine pure_ (i := 16) (N := some 36) (v := ?_) (a' := ?_) (V 20 131071) rfl rfl (any_of HT_.out (by kernel_rfl)) (fun _ _ _ h => h) (Or.inl ⟨by rfl, ?_⟩) ?_ ?_; rotate_left
            · intro w'; go_simp; with_reducible rfl
            rotate_left
            · simp only [Act.put, List.setIfInBounds_toArray, List.set_cons_zero, List.set_cons_succ, i64_w, i32_w]; rfl
            refine take_ (i := 17) (N := some 37) (v := ?_) (a' := ?_) (V 20 262143) rfl rfl (take_ofW HT_.out HW_.out (by kernel_rfl)) (fun _ _ _ h => h) (Or.inl ⟨by rfl, ?_⟩) hHeld ?_ ?_; rotate_left
            · rintro w' ⟨s0, s1, s2⟩; go_simp; with_reducible rfl
            rotate_left
            · simp only [Act.put, List.setIfInBounds_toArray, List.set_cons_zero, List.set_cons_succ, i64_w, i32_w]; rfl
            refine pure_ (i := 18) (N := some 38) (v := ?_) (a' := ?_) (V 20 524287) rfl rfl (any_of HT_.out (by kernel_rfl)) (fun _ _ _ h => h) (Or.inl ⟨by rfl, ?_⟩) ?_ ?_; rotate_left
            · intro w'; go_simp; with_reducible rfl
            rotate_left
            · simp only [Act.put, List.setIfInBounds_toArray, List.set_cons_zero, List.set_cons_succ, i64_w, i32_w]; rfl
            refine pure_ (i := 19) (N := some 39) (v := ?_) (a' := ?_) (V 20 1048575) rfl rfl (any_of HT_.out (by kernel_rfl)) (fun _ _ _ h => h) (Or.inl ⟨by rfl, ?_⟩) ?_ ?_; rotate_left
            · intro w'; go_simp; with_reducible rfl
            rotate_left
            · simp only [Act.put, List.setIfInBounds_toArray, List.set_cons_zero, List.set_cons_succ, i64_w, i32_w]; rfl
            refine done_ (done_of HT_.out (by kernel_rfl)) ?_
            clear hHeld HT_ HW_
            go_wp2_with fail
            go_roundg (m - (j + 1))
            case measure => omega
            case rel => exact ⟨j + 1, t + 1, by omega, by omega, by go_num, by go_num, DQ2, ⟨by rw [HTT.out]; omega⟩⟩
          · have HNE : Aside0 (nm.toList ≠ cn.toList) := ⟨by
              have := HAT.out j
              rw [← HTT.out, HGE.out, List.getElem?_append_right (by rw [List.length_replicate]; omega), List.length_replicate, show j - m = 0 by omega, ← List.head?_eq_getElem?] at this
              rw [HCN.out]; exact HL.out.2.1 _ this.symm⟩
            have q1 : (nm.toList == cn.toList) = false := beq_eq_false_iff_ne.mpr HNE.out
            go_upto_region 7 with fail
            have DQ2 : Aside0 (Drawn0 w1 wr.drew) := ⟨DQ.out.step 1⟩
            have HS2 : Aside0 (wr.drew.cell? (a2.add t) = some (.int .i64 x) ∧ wr.drew.cell? ⟨(a3.add (x.toNat * 4)).block, (a3.add (x.toNat * 4)).off + 1, none⟩ = some (.string nm) ∧ wr.drew.cell? (a5.add (n * 6)) = some (.string cn)) := ⟨by obtain ⟨x0, x1, x2⟩ := HS.out; exact ⟨x0, x1, x2⟩⟩
            refine start_ (n := 20) (ds := []) (S := fun w' => w'.cell? (a2.add t) = some (.int .i64 x) ∧ w'.cell? ⟨(a3.add (x.toNat * 4)).block, (a3.add (x.toNat * 4)).off + 1, none⟩ = some (.string nm) ∧ w'.cell? (a5.add (n * 6)) = some (.string cn)) (V 20 0) (by rfl) (by rfl) (by kernel_rfl) (HS2.out) (fun hHeld => ?_); refine with_tabW tab91_7 bits91_7 (fun HT_ HW_ => ?_)
            refine pure_ (i := 0) (N := some 20) (v := ?_) (a' := ?_) (V 20 1) rfl rfl (any_of HT_.out (by kernel_rfl)) (fun _ _ _ h => h) (Or.inl ⟨by rfl, ?_⟩) ?_ ?_; rotate_left
            · intro w'; go_simp; with_reducible rfl
            rotate_left
            · simp only [Act.put, List.setIfInBounds_toArray, List.set_cons_zero, List.set_cons_succ, i64_w, i32_w]; rfl
            refine pure_ (i := 1) (N := some 21) (v := ?_) (a' := ?_) (V 20 3) rfl rfl (any_of HT_.out (by kernel_rfl)) (fun _ _ _ h => h) (Or.inl ⟨by rfl, ?_⟩) ?_ ?_; rotate_left
            · intro w'; go_simp; with_reducible rfl
            rotate_left
            · simp only [Act.put, List.setIfInBounds_toArray, List.set_cons_zero, List.set_cons_succ, i64_w, i32_w]; rfl
            refine pure_ (i := 2) (N := some 22) (v := ?_) (a' := ?_) (V 20 7) rfl rfl (any_of HT_.out (by kernel_rfl)) (fun _ _ _ h => h) (Or.inl ⟨by rfl, ?_⟩) ?_ ?_; rotate_left
            · intro w'; go_simp; with_reducible rfl
            rotate_left
            · simp only [Act.put, List.setIfInBounds_toArray, List.set_cons_zero, List.set_cons_succ, i64_w, i32_w]; rfl
            refine pure_ (i := 3) (N := some 23) (v := ?_) (a' := ?_) (V 20 15) rfl rfl (any_of HT_.out (by kernel_rfl)) (fun _ _ _ h => h) (Or.inl ⟨by rfl, ?_⟩) ?_ ?_; rotate_left
            · intro w'; go_simp; with_reducible rfl
            rotate_left
            · simp only [Act.put, List.setIfInBounds_toArray, List.set_cons_zero, List.set_cons_succ, i64_w, i32_w]; rfl
            refine pure_ (i := 4) (N := some 24) (v := ?_) (a' := ?_) (V 20 31) rfl rfl (any_of HT_.out (by kernel_rfl)) (fun _ _ _ h => h) (Or.inl ⟨by rfl, ?_⟩) ?_ ?_; rotate_left
            · intro w'; go_simp; with_reducible rfl
            rotate_left
            · simp only [Act.put, List.setIfInBounds_toArray, List.set_cons_zero, List.set_cons_succ, i64_w, i32_w]; rfl
            refine pure_ (i := 5) (N := some 25) (v := ?_) (a' := ?_) (V 20 63) rfl rfl (any_of HT_.out (by kernel_rfl)) (fun _ _ _ h => h) (Or.inl ⟨by rfl, ?_⟩) ?_ ?_; rotate_left
            · intro w'; go_simp; with_reducible rfl
            rotate_left
            · simp only [Act.put, List.setIfInBounds_toArray, List.set_cons_zero, List.set_cons_succ, i64_w, i32_w]; rfl
            refine pure_ (i := 6) (N := some 26) (v := ?_) (a' := ?_) (V 20 127) rfl rfl (any_of HT_.out (by kernel_rfl)) (fun _ _ _ h => h) (Or.inl ⟨by rfl, ?_⟩) ?_ ?_; rotate_left
            · intro w'; go_simp; with_reducible rfl
            rotate_left
            · simp only [Act.put, List.setIfInBounds_toArray, List.set_cons_zero, List.set_cons_succ, i64_w, i32_w]; rfl
            refine pure_ (i := 7) (N := some 27) (v := ?_) (a' := ?_) (V 20 255) rfl rfl (any_of HT_.out (by kernel_rfl)) (fun _ _ _ h => h) (Or.inl ⟨by rfl, ?_⟩) ?_ ?_; rotate_left
            · intro w'; go_simp; with_reducible rfl
            rotate_left
            · simp only [Act.put, List.setIfInBounds_toArray, List.set_cons_zero, List.set_cons_succ, i64_w, i32_w]; rfl
            refine pure_ (i := 8) (N := some 28) (v := ?_) (a' := ?_) (V 20 511) rfl rfl (any_of HT_.out (by kernel_rfl)) (fun _ _ _ h => h) (Or.inl ⟨by rfl, ?_⟩) ?_ ?_; rotate_left
            · intro w'; go_simp; with_reducible rfl
            rotate_left
            · simp only [Act.put, List.setIfInBounds_toArray, List.set_cons_zero, List.set_cons_succ, i64_w, i32_w]; rfl
            refine take_ (i := 9) (N := some 29) (v := ?_) (a' := ?_) (V 20 1023) rfl rfl (take_ofW HT_.out HW_.out (by kernel_rfl)) (fun _ _ _ h => h) (Or.inl ⟨by rfl, ?_⟩) hHeld ?_ ?_; rotate_left
            · rintro w' ⟨s0, s1, s2⟩; go_simp; with_reducible rfl
            rotate_left
            · simp only [Act.put, List.setIfInBounds_toArray, List.set_cons_zero, List.set_cons_succ, i64_w, i32_w]; rfl
            refine pure_ (i := 10) (N := some 30) (v := ?_) (a' := ?_) (V 20 2047) rfl rfl (any_of HT_.out (by kernel_rfl)) (fun _ _ _ h => h) (Or.inl ⟨by rfl, ?_⟩) ?_ ?_; rotate_left
            · intro w'; go_simp; with_reducible rfl
            rotate_left
            · simp only [Act.put, List.setIfInBounds_toArray, List.set_cons_zero, List.set_cons_succ, i64_w, i32_w]; rfl
            refine pure_ (i := 11) (N := some 31) (v := ?_) (a' := ?_) (V 20 4095) rfl rfl (any_of HT_.out (by kernel_rfl)) (fun _ _ _ h => h) (Or.inl ⟨by rfl, ?_⟩) ?_ ?_; rotate_left
            · intro w'; go_simp; with_reducible rfl
            rotate_left
            · simp only [Act.put, List.setIfInBounds_toArray, List.set_cons_zero, List.set_cons_succ, i64_w, i32_w]; rfl
            refine take_ (i := 12) (N := some 32) (v := ?_) (a' := ?_) (V 20 8191) rfl rfl (take_ofW HT_.out HW_.out (by kernel_rfl)) (fun _ _ _ h => h) (Or.inl ⟨by rfl, ?_⟩) hHeld ?_ ?_; rotate_left
            · rintro w' ⟨s0, s1, s2⟩; go_simp; with_reducible rfl
            rotate_left
            · simp only [Act.put, List.setIfInBounds_toArray, List.set_cons_zero, List.set_cons_succ, i64_w, i32_w]; rfl
            refine pure_ (i := 13) (N := some 33) (v := ?_) (a' := ?_) (V 20 16383) rfl rfl (any_of HT_.out (by kernel_rfl)) (fun _ _ _ h => h) (Or.inl ⟨by rfl, ?_⟩) ?_ ?_; rotate_left
            · intro w'; go_simp; with_reducible rfl
            rotate_left
            · simp only [Act.put, List.setIfInBounds_toArray, List.set_cons_zero, List.set_cons_succ, i64_w, i32_w]; rfl
            refine pure_ (i := 14) (N := some 34) (v := ?_) (a' := ?_) (V 20 32767) rfl rfl (any_of HT_.out (by kernel_rfl)) (fun _ _ _ h => h) (Or.inl ⟨by rfl, ?_⟩) ?_ ?_; rotate_left
            · intro w'; go_simp; with_reducible rfl
            rotate_left
            · simp only [Act.put, List.setIfInBounds_toArray, List.set_cons_zero, List.set_cons_succ, i64_w, i32_w]; rfl
            refine pure_ (i := 15) (N := some 35) (v := ?_) (a' := ?_) (V 20 65535) rfl rfl (any_of HT_.out (by kernel_rfl)) (fun _ _ _ h => h) (Or.inl ⟨by rfl, ?_⟩) ?_ ?_; rotate_left
            · intro w'; go_simp; with_reducible rfl
            rotate_left
            · simp only [Act.put, List.setIfInBounds_toArray, List.set_cons_zero, List.set_cons_succ, i64_w, i32_w]; rfl
            refine pure_ (i := 16) (N := some 36) (v := ?_) (a' := ?_) (V 20 131071) rfl rfl (any_of HT_.out (by kernel_rfl)) (fun _ _ _ h => h) (Or.inl ⟨by rfl, ?_⟩) ?_ ?_; rotate_left
            · intro w'; go_simp; with_reducible rfl
            rotate_left
            · simp only [Act.put, List.setIfInBounds_toArray, List.set_cons_zero, List.set_cons_succ, i64_w, i32_w]; rfl
            refine take_ (i := 17) (N := some 37) (v := ?_) (a' := ?_) (V 20 262143) rfl rfl (take_ofW HT_.out HW_.out (by kernel_rfl)) (fun _ _ _ h => h) (Or.inl ⟨by rfl, ?_⟩) hHeld ?_ ?_; rotate_left
            · rintro w' ⟨s0, s1, s2⟩; go_simp; with_reducible rfl
            rotate_left
            · simp only [Act.put, List.setIfInBounds_toArray, List.set_cons_zero, List.set_cons_succ, i64_w, i32_w]; rfl
            refine pure_ (i := 18) (N := some 38) (v := ?_) (a' := ?_) (V 20 524287) rfl rfl (any_of HT_.out (by kernel_rfl)) (fun _ _ _ h => h) (Or.inl ⟨by rfl, ?_⟩) ?_ ?_; rotate_left
            · intro w'; go_simp; with_reducible rfl
            rotate_left
            · simp only [Act.put, List.setIfInBounds_toArray, List.set_cons_zero, List.set_cons_succ, i64_w, i32_w]; rfl
            refine pure_ (i := 19) (N := some 39) (v := ?_) (a' := ?_) (V 20 1048575) rfl rfl (any_of HT_.out (by kernel_rfl)) (fun _ _ _ h => h) (Or.inl ⟨by rfl, ?_⟩) ?_ ?_; rotate_left
            · intro w'; go_simp; with_reducible rfl
            rotate_left
            · simp only [Act.put, List.setIfInBounds_toArray, List.set_cons_zero, List.set_cons_succ, i64_w, i32_w]; rfl
            refine done_ (done_of HT_.out (by kernel_rfl)) ?_
            clear hHeld HT_ HW_
            have htt := HTT.out
            obtain rfl : j = m := by omega
            obtain ⟨a6, ea6, _, p1, p2, _⟩ := at_T148 (Kd.C_below HD.out DQ2.out.below) (n : Int) (by omega) hltz
            rw [← HY.out, Int.toNat_natCast] at p1 p2
            have hm1 := HM.out.1; have hm2 := HM.out.2
            have p3 : ¬ (j : Int) < y.f1 := by omega
            have p4 : ¬ y.f2 < (j : Int) := by omega
            generalize y.f1 = lo at p1 p3; generalize y.f2 = hi at p2 p4
            clear hm1 hm2
            have HRU : Aside0 (runs (Cs.drop (n + 1)) (kn.drop (at0 + j))) := ⟨by rw [show kn.drop (at0 + j) = (kn.drop at0).drop j by rw [List.drop_drop], HL.out.1, List.drop_left' List.length_replicate]; exact HL.out.2.2⟩
            have HEA6 := Aside0.mk ea6
            first | subst ea6 | (obtain rfl := Option.some.inj ea6)
            go_wp2_with fail
            go_roundg (Cs.length - (n + 1))
            case measure => omega
            case rel => exact ⟨at0 + j, n + 1, by omega, by omega, by omega, by first | rfl | (rw [Int.natCast_add]), by go_num, DQ2, HRU⟩
        · have hinz : ¬ (t : Int) < (ks.length : Int) := by omega
          have hinzb : decide ((t : Int) < (ks.length : Int)) = false := decide_eq_false hinz
          go_upto_region 7 with fail
          have DQ2 : Aside0 (Drawn0 w1 wr.drew) := ⟨DQ.out.step 1⟩
          refine start_ (n := 20) (ds := []) (S := fun w' => True) (V 20 0) (by rfl) (by rfl) (by kernel_rfl) (trivial) (fun hHeld => ?_); refine with_tabW tab91_7 bits91_7 (fun HT_ HW_ => ?_)
          refine pure_ (i := 0) (N := some 20) (v := ?_) (a' := ?_) (V 20 1) rfl rfl (any_of HT_.out (by kernel_rfl)) (fun _ _ _ h => h) (Or.inl ⟨by rfl, ?_⟩) ?_ ?_; rotate_left
          · intro w'; go_simp; with_reducible rfl
          rotate_left
          · simp only [Act.put, List.setIfInBounds_toArray, List.set_cons_zero, List.set_cons_succ, i64_w, i32_w]; rfl
          refine pure_ (i := 1) (N := some 21) (v := ?_) (a' := ?_) (V 20 3) rfl rfl (any_of HT_.out (by kernel_rfl)) (fun _ _ _ h => h) (Or.inl ⟨by rfl, ?_⟩) ?_ ?_; rotate_left
          · intro w'; go_simp; with_reducible rfl
          rotate_left
          · simp only [Act.put, List.setIfInBounds_toArray, List.set_cons_zero, List.set_cons_succ, i64_w, i32_w]; rfl
          refine pure_ (i := 2) (N := some 22) (v := ?_) (a' := ?_) (V 20 7) rfl rfl (any_of HT_.out (by kernel_rfl)) (fun _ _ _ h => h) (Or.inl ⟨by rfl, ?_⟩) ?_ ?_; rotate_left
          · intro w'; go_simp; with_reducible rfl
          rotate_left
          · simp only [Act.put, List.setIfInBounds_toArray, List.set_cons_zero, List.set_cons_succ, i64_w, i32_w]; rfl
          refine pure_ (i := 3) (N := some 23) (v := ?_) (a' := ?_) (V 20 15) rfl rfl (any_of HT_.out (by kernel_rfl)) (fun _ _ _ h => h) (Or.inl ⟨by rfl, ?_⟩) ?_ ?_; rotate_left
          · intro w'; go_simp; with_reducible rfl
          rotate_left
          · simp only [Act.put, List.setIfInBounds_toArray, List.set_cons_zero, List.set_cons_succ, i64_w, i32_w]; rfl
          refine pure_ (i := 4) (N := some 24) (v := ?_) (a' := ?_) (V 20 31) rfl rfl (any_of HT_.out (by kernel_rfl)) (fun _ _ _ h => h) (Or.inl ⟨by rfl, ?_⟩) ?_ ?_; rotate_left
          · intro w'; go_simp; with_reducible rfl
          rotate_left
          · simp only [Act.put, List.setIfInBounds_toArray, List.set_cons_zero, List.set_cons_succ, i64_w, i32_w]; rfl
          refine pure_ (i := 5) (N := some 25) (v := undef) (a' := ?_) (V 20 63) rfl rfl (any_of HT_.out (by kernel_rfl)) (fun _ _ _ h => h) (Or.inr ⟨by rfl, rfl⟩) ?_ ?_; rotate_left
          · simp only [Act.put, List.setIfInBounds_toArray, List.set_cons_zero, List.set_cons_succ, i64_w, i32_w]; rfl
          refine pure_ (i := 6) (N := some 26) (v := undef) (a' := ?_) (V 20 127) rfl rfl (any_of HT_.out (by kernel_rfl)) (fun _ _ _ h => h) (Or.inr ⟨by rfl, rfl⟩) ?_ ?_; rotate_left
          · simp only [Act.put, List.setIfInBounds_toArray, List.set_cons_zero, List.set_cons_succ, i64_w, i32_w]; rfl
          refine pure_ (i := 7) (N := some 27) (v := undef) (a' := ?_) (V 20 255) rfl rfl (any_of HT_.out (by kernel_rfl)) (fun _ _ _ h => h) (Or.inr ⟨by rfl, rfl⟩) ?_ ?_; rotate_left
          · simp only [Act.put, List.setIfInBounds_toArray, List.set_cons_zero, List.set_cons_succ, i64_w, i32_w]; rfl
          refine pure_ (i := 8) (N := some 28) (v := undef) (a' := ?_) (V 20 511) rfl rfl (any_of HT_.out (by kernel_rfl)) (fun _ _ _ h => h) (Or.inr ⟨by rfl, rfl⟩) ?_ ?_; rotate_left
          · simp only [Act.put, List.setIfInBounds_toArray, List.set_cons_zero, List.set_cons_succ, i64_w, i32_w]; rfl
          refine pure_ (i := 9) (N := some 29) (v := undef) (a' := ?_) (V 20 1023) rfl rfl (any_of HT_.out (by kernel_rfl)) (fun _ _ _ h => h) (Or.inr ⟨by rfl, rfl⟩) ?_ ?_; rotate_left
          · simp only [Act.put, List.setIfInBounds_toArray, List.set_cons_zero, List.set_cons_succ, i64_w, i32_w]; rfl
          refine pure_ (i := 10) (N := some 30) (v := undef) (a' := ?_) (V 20 2047) rfl rfl (any_of HT_.out (by kernel_rfl)) (fun _ _ _ h => h) (Or.inr ⟨by rfl, rfl⟩) ?_ ?_; rotate_left
          · simp only [Act.put, List.setIfInBounds_toArray, List.set_cons_zero, List.set_cons_succ, i64_w, i32_w]; rfl
          refine pure_ (i := 11) (N := some 31) (v := undef) (a' := ?_) (V 20 4095) rfl rfl (any_of HT_.out (by kernel_rfl)) (fun _ _ _ h => h) (Or.inr ⟨by rfl, rfl⟩) ?_ ?_; rotate_left
          · simp only [Act.put, List.setIfInBounds_toArray, List.set_cons_zero, List.set_cons_succ, i64_w, i32_w]; rfl
          refine pure_ (i := 12) (N := some 32) (v := undef) (a' := ?_) (V 20 8191) rfl rfl (any_of HT_.out (by kernel_rfl)) (fun _ _ _ h => h) (Or.inr ⟨by rfl, rfl⟩) ?_ ?_; rotate_left
          · simp only [Act.put, List.setIfInBounds_toArray, List.set_cons_zero, List.set_cons_succ, i64_w, i32_w]; rfl
          refine pure_ (i := 13) (N := some 33) (v := undef) (a' := ?_) (V 20 16383) rfl rfl (any_of HT_.out (by kernel_rfl)) (fun _ _ _ h => h) (Or.inr ⟨by rfl, rfl⟩) ?_ ?_; rotate_left
          · simp only [Act.put, List.setIfInBounds_toArray, List.set_cons_zero, List.set_cons_succ, i64_w, i32_w]; rfl
          refine pure_ (i := 14) (N := some 34) (v := undef) (a' := ?_) (V 20 32767) rfl rfl (any_of HT_.out (by kernel_rfl)) (fun _ _ _ h => h) (Or.inr ⟨by rfl, rfl⟩) ?_ ?_; rotate_left
          · simp only [Act.put, List.setIfInBounds_toArray, List.set_cons_zero, List.set_cons_succ, i64_w, i32_w]; rfl
          refine pure_ (i := 15) (N := some 35) (v := undef) (a' := ?_) (V 20 65535) rfl rfl (any_of HT_.out (by kernel_rfl)) (fun _ _ _ h => h) (Or.inr ⟨by rfl, rfl⟩) ?_ ?_; rotate_left
          · simp only [Act.put, List.setIfInBounds_toArray, List.set_cons_zero, List.set_cons_succ, i64_w, i32_w]; rfl
          refine pure_ (i := 16) (N := some 36) (v := undef) (a' := ?_) (V 20 131071) rfl rfl (any_of HT_.out (by kernel_rfl)) (fun _ _ _ h => h) (Or.inr ⟨by rfl, rfl⟩) ?_ ?_; rotate_left
          · simp only [Act.put, List.setIfInBounds_toArray, List.set_cons_zero, List.set_cons_succ, i64_w, i32_w]; rfl
          refine pure_ (i := 17) (N := some 37) (v := undef) (a' := ?_) (V 20 262143) rfl rfl (any_of HT_.out (by kernel_rfl)) (fun _ _ _ h => h) (Or.inr ⟨by rfl, rfl⟩) ?_ ?_; rotate_left
          · simp only [Act.put, List.setIfInBounds_toArray, List.set_cons_zero, List.set_cons_succ, i64_w, i32_w]; rfl
          refine pure_ (i := 18) (N := some 38) (v := undef) (a' := ?_) (V 20 524287) rfl rfl (any_of HT_.out (by kernel_rfl)) (fun _ _ _ h => h) (Or.inr ⟨by rfl, rfl⟩) ?_ ?_; rotate_left
          · simp only [Act.put, List.setIfInBounds_toArray, List.set_cons_zero, List.set_cons_succ, i64_w, i32_w]; rfl
          refine pure_ (i := 19) (N := some 39) (v := ?_) (a' := ?_) (V 20 1048575) rfl rfl (any_of HT_.out (by kernel_rfl)) (fun _ _ _ h => h) (Or.inl ⟨by rfl, ?_⟩) ?_ ?_; rotate_left
          · intro w'; go_simp; with_reducible rfl
          rotate_left
          · simp only [Act.put, List.setIfInBounds_toArray, List.set_cons_zero, List.set_cons_succ, i64_w, i32_w]; rfl
          refine done_ (done_of HT_.out (by kernel_rfl)) ?_
          clear hHeld HT_ HW_
          have htt := HTT.out
          obtain rfl : j = m := by omega
          obtain ⟨a6, ea6, _, p1, p2, _⟩ := at_T148 (Kd.C_below HD.out DQ2.out.below) (n : Int) (by omega) hltz
          rw [← HY.out, Int.toNat_natCast] at p1 p2
          have hm1 := HM.out.1; have hm2 := HM.out.2
          have p3 : ¬ (j : Int) < y.f1 := by omega
          have p4 : ¬ y.f2 < (j : Int) := by omega
          generalize y.f1 = lo at p1 p3; generalize y.f2 = hi at p2 p4
          clear hm1 hm2
          have HRU : Aside0 (runs (Cs.drop (n + 1)) (kn.drop (at0 + j))) := ⟨by rw [show kn.drop (at0 + j) = (kn.drop at0).drop j by rw [List.drop_drop], HL.out.1, List.drop_left' List.length_replicate]; exact HL.out.2.2⟩
          have HEA6 := Aside0.mk ea6
          first | subst ea6 | (obtain rfl := Option.some.inj ea6)
          go_wp2_with fail
          go_roundg (Cs.length - (n + 1))
          case measure => omega
          case rel => exact ⟨at0 + j, n + 1, by omega, by omega, by omega, by first | rfl | (rw [Int.natCast_add]), by go_num, DQ2, HRU⟩
    · have hltz : ¬ (n : Int) < (Cs.length : Int) := by omega
      have hru := RU.out
      rw [List.drop_of_length_le (by omega)] at hru
      have hz : kn.drop at0 = [] := hru
      have e : at0 = ks.length := by
        have := congrArg List.length hz
        rw [List.length_drop, List.length_nil] at this
        omega
      subst e
      clear hru hz
      go_wp2_with fail
      go_ret
      exact ⟨by first | rfl | simp, below_step BW.out DW.out.below⟩
abbrev nod (L : List S133) (i : Nat) : S133 := rd_T133 L (i : Int)
/-- What the tree of a message is like, whatever its leaves say. -/
structure Shape (L : List S133) : Prop where
  lo : 0 < L.length
  hi : L.length ≤ 38
  tree : TreeOK L
  root : par L 0 = -1
  inn : ∀ i : Nat, 0 < i → i < L.length → 0 ≤ par L (i : Int)
  near : ∀ i : Nat, 0 < i → i < L.length → Near L (par L (i : Int)) ((i : Int) - 1)
  dep : ∀ i : Nat, i < L.length → Dep L 4 (i : Int)
  nam : ∀ i : Nat, i < L.length → nameF (nod L i).f1 = true ∧ (nod L i).f1.size ≤ 1000
  txt : ∀ i : Nat, i < L.length → (nod L i).f2.size ≤ 1000000
  att0 : (nod L 0).f3 = [xm]
  att : ∀ i : Nat, 0 < i → i < L.length → (nod L i).f3 = []
  cont : ∀ i : Nat, 0 < i → i < L.length → (rd_T133 L (par L (i : Int))).f2 = ⟨#[]⟩
  doc : (nod L 0).f1.toList = [68, 111, 99, 117, 109, 101, 110, 116]
  mod : ∀ i : Nat, i < L.length → (modelF (nod L i).f1).2 = true → (nod L i).f2 = ⟨#[]⟩ ∧ runs (modelF (nod L i).f1).1 (kidNames L (i : Int))
  leaf : ∀ i : Nat, i < L.length → (modelF (nod L i).f1).2 = false → 0 < i ∧ kidsIx L (i : Int) = []
/-- All texts are of signs. -/
def TextsOK (L : List S133) : Prop := ∀ i : Nat, i < L.length → (bs (nod L i).f2).all ink = true
set_option maxHeartbeats 16000000 in
set_option maxRecDepth 100000 in
theorem canon_e (A : Option Addr) (c : Nat) (L : List S133) (w : World) (hC : k133.C w A L.length L) (hc : L.length ≤ c) (hS : Shape L) : Calls Tryz.prog 88 #[.slice A L.length c] w (OutB (fun b => TextsOK L → b = true) w) := by
  have hu133 := Aside0.mk Tryz.underlying133
  have HS := Aside0.mk hS
  have hn1 : L.length ≤ 100 := Nat.le_trans hS.hi (by decide)
  have hn0 : 0 < L.length := hS.lo
  have HC := Aside0.mk hC
  have hn0z : (0 : Int) < (L.length : Int) := by omega
  have hn1z : ¬ (500 : Int) < (L.length : Int) := by omega
  have hneq : ((L.length : Int) == 0) = false := beq_eq_false_iff_ne.mpr (by omega)
  obtain ⟨ad, A3, c3, ea, c0, _⟩ := at_T133 HC.out 0 (by decide) hn0z
  have HA := Aside0.mk ea
  have e0 : ad.add ((0 : Int).toNat * 4) = ad := by cases ad; rfl
  rw [e0, show (rd_T133 L 0).f0 = -1 from HS.out.root] at c0
  clear hC hS e0
  subst ea
  go_enter Tryz.func88, Tryz.ntmps88
  go_wp2_with fail
  clear c0
  go_loopg [3] L.length (fun gg s3 wr => ∃ kk : Nat, kk ≤ L.length ∧ L.length - kk ≤ gg ∧ s3 = .int .i64 kk ∧ Aside0 (Below w.heap.size w wr))
  case atStart => exact ⟨0, Nat.zero_le _, by omega, rfl, ⟨Below.refl _ _⟩⟩
  case round =>
    obtain ⟨kk, hkk, hg, rfl, BW⟩ := hrel
    by_cases hlt : kk < L.length
    · have hltz : (kk : Int) < (L.length : Int) := by omega
      obtain ⟨ad2, A3, c3, ea2, c0, c1, c2, c3', l3, g3⟩ := at_T133 (Kd.C_below HC.out BW.out) (kk : Int) (by omega) hltz
      have HA2 := Aside0.mk ea2
      obtain rfl := Option.some.inj ea2
      rw [Int.toNat_natCast] at c0 c1 c2 c3'
      obtain ⟨y, HY⟩ : ∃ y, Aside0 (y = nod L kk) := ⟨_, ⟨rfl⟩⟩
      change wr.cell? (ad.add (kk * 4)) = some (.int .i64 (nod L kk).f0) at c0
      rw [← HY.out] at c0
      change wr.cell? ⟨(ad.add (kk * 4)).block, (ad.add (kk * 4)).off + 1, none⟩ = some (.string (nod L kk).f1) at c1
      rw [← HY.out] at c1
      change wr.cell? ⟨(ad.add (kk * 4)).block, (ad.add (kk * 4)).off + 2, none⟩ = some (.string (nod L kk).f2) at c2
      rw [← HY.out] at c2
      change wr.cell? ⟨(ad.add (kk * 4)).block, (ad.add (kk * 4)).off + 3, none⟩ = some (.slice A3 (nod L kk).f3.length c3) at c3'
      change (nod L kk).f3.length ≤ c3 at l3
      change k130.C wr A3 (nod L kk).f3.length (nod L kk).f3 at g3
      rw [← HY.out] at c3' l3 g3
      have HG := Aside0.mk g3
      clear g3
      go_upto_region 7 with ((with_reducible refine gate_store (t := 133) (p := 4) rfl ?_); refine Go.Proofs.YthapknnppabdaaaGreat.Fill.store_event rfl 133 _ _ rfl wr.heap.size #[.int .i64 y.f0, .string y.f1, .string y.f2, .slice A3 y.f3.length c3] rfl rfl 133 #[.int .i64 0, .string ⟨#[]⟩, .string ⟨#[]⟩, .slice none 0 0] (blk_new wr _) (by kernel_rfl) (by rfl) (by rw [← Array.all_toList]; rfl) ?_; intro w1 ea eb ec; have J1 := Aside0.mk (And.intro ea (ec _ _ (below_alloc (Below.refl _ wr) _) (Nat.le_refl _))); clear ea eb ec)
      obtain ⟨p, HP⟩ : ∃ p, Aside0 (p = wr.heap.size) := ⟨_, ⟨rfl⟩⟩
      rw [← HP.out]
      have HB : Aside0 (w1.heap[p]? = some (.cells #[.int .i64 y.f0, .string y.f1, .string y.f2, .slice A3 y.f3.length c3] 133 (0, 0))) := ⟨by rw [HP.out]; exact J1.out.1⟩
      have BX := Aside0.mk (below_step BW.out J1.out.2)
      have HG1 := Aside0.mk (Kd.C_below HG.out J1.out.2)
      clear c0 c1 c2 c3' J1 HG BW
      have d1 := (blk_cell HB.out 1).trans (show _ = some (Value.string y.f1) from rfl)
      have HSZ : Aside0 (y.f1.size ≤ 140737488355328 ∧ y.f2.size ≤ 140737488355328) := ⟨by have a := (HS.out.nam kk hlt).2; have b := HS.out.txt kk hlt; rw [← HY.out] at a b; omega⟩
      have HNM : Aside0 (nameF y.f1 = true) := ⟨by rw [HY.out]; exact (HS.out.nam kk hlt).1⟩
      have HAT : Aside0 (y.f3 = [] ∨ y.f3 = [xm]) := ⟨by
        rw [HY.out]
        rcases Nat.eq_zero_or_pos kk with h | h
        · subst h; exact .inr HS.out.att0
        · exact .inl (HS.out.att kk h hlt)⟩
      have HDP : Aside0 (Dep L 4 (kk : Int)) := ⟨HS.out.dep kk hlt⟩
      by_cases k0 : kk = 0
      · have k0z : ¬ (0 : Int) < (kk : Int) := by omega
        replace k0 := Aside0.mk k0
        go_wp2_with fail
        refine (name_e y.f1 _ HSZ.out.1 HNM.out).mono ?_
        rintro e w3 ⟨rfl, hb⟩
        have hb := hb.below
        have BX3 := Aside0.mk (below_step BX.out hb)
        have HB3 := Aside0.mk (blk_below HB.out hb)
        have HG3 := Aside0.mk (Kd.C_below HG1.out hb)
        clear hb
        have d2 := (blk_cell HB3.out 2).trans (show _ = some (Value.string y.f2) from rfl)
        go_wp2_with fail
        refine (utf8_e y.f2 _ HSZ.out.2).mono ?_
        rintro e w4 ⟨b, rfl, hb1, hb⟩
        have HU := Aside0.mk hb1
        have BX4 := Aside0.mk (below_step BX3.out hb)
        have HB4 := Aside0.mk (blk_below HB3.out hb)
        have HG4 := Aside0.mk (Kd.C_below HG3.out hb)
        clear hb hb1 d2
        cases b with
        | false =>
          have NT : Aside0 (¬ TextsOK L) := ⟨fun h => by have := h kk hlt; rw [← HY.out] at this; exact absurd (HU.out this) (by decide)⟩
          go_wp2_with fail
          go_ret
          exact ⟨_, rfl, fun h => absurd h NT.out, BX4.out⟩
        | true =>
          have d3 := (blk_cell HB4.out 3).trans (show _ = some (Value.slice A3 y.f3.length c3) from rfl)
          go_wp2_with fail
          refine (attrs_e A3 c3 y.f3 _ HG4.out HAT.out).mono ?_
          rintro e w5 ⟨rfl, hb⟩
          have BX5 := Aside0.mk (below_step BX4.out hb)
          clear hb d3
          go_wp2_with fail
          refine (depth_e (some ad) c L (kk : Int) _ (Kd.C_below HC.out BX5.out) hc HS.out.tree (by omega) hltz).mono ?_
          rintro e w6 ⟨dn, rfl, hd, hb⟩
          have hd4 := hd HDP.out
          have hd32 : ¬ 32 < dn := by omega
          have BX6 := Aside0.mk (below_step BX5.out hb)
          clear hb hd hd4
          go_wp2_with fail
          go_roundg (L.length - (kk + 1))
          case measure => omega
          case rel => exact ⟨kk + 1, by omega, by omega, by go_num, BX6⟩
      · have k0z : (0 : Int) < (kk : Int) := by omega
        have d0 := (blk_cell HB.out 0).trans (show _ = some (Value.int .i64 y.f0) from rfl)
        have hp0 : 0 ≤ y.f0 := by rw [HY.out]; exact HS.out.inn kk (by omega) hlt
        have hp1 : y.f0 < (kk : Int) := by rw [HY.out]; exact (HS.out.tree kk hlt).2
        have hp0' : ¬ y.f0 < 0 := by omega
        have hp1' : ¬ (kk : Int) ≤ y.f0 := by omega
        have e1 : (kk : Int) - 1 = ((kk - 1 : Nat) : Int) := by omega
        have e2 : wrap64 ((kk : Int) - 1) = ((kk - 1 : Nat) : Int) := by unfold wrap64; omega
        have HNR : Aside0 (Near L y.f0 ((kk - 1 : Nat) : Int)) := ⟨by rw [← e1, HY.out]; exact HS.out.near kk (by omega) hlt⟩
        have HQ := Aside0.mk (And.intro hp0 hp1)
        generalize hf : y.f0 = r at d0 hp0 hp1 hp0' hp1' HNR HQ
        replace hf := Aside0.mk hf
        have HKZ := Aside0.mk k0z
        go_wp2_with fail
        refine (opens_e (some ad) c L r ((kk - 1 : Nat) : Int) _ (Kd.C_below HC.out BX.out) hc HS.out.tree HQ.out.1 (by omega) (by omega)).mono ?_
        rintro e w2 ⟨b, rfl, hb1, hb⟩
        obtain rfl := hb1 HNR.out
        have BX2 := Aside0.mk (below_step BX.out hb)
        have HB2 := Aside0.mk (blk_below HB.out hb)
        have HG2 := Aside0.mk (Kd.C_below HG1.out hb)
        clear hb hb1 d0 d1 e1 e2
        have d1 := (blk_cell HB2.out 1).trans (show _ = some (Value.string y.f1) from rfl)
        go_wp2_with fail
        refine (name_e y.f1 _ HSZ.out.1 HNM.out).mono ?_
        rintro e w3 ⟨rfl, hb⟩
        have hb := hb.below
        have BX3 := Aside0.mk (below_step BX2.out hb)
        have HB3 := Aside0.mk (blk_below HB2.out hb)
        have HG3 := Aside0.mk (Kd.C_below HG2.out hb)
        clear hb
        have d2 := (blk_cell HB3.out 2).trans (show _ = some (Value.string y.f2) from rfl)
        go_wp2_with fail
        refine (utf8_e y.f2 _ HSZ.out.2).mono ?_
        rintro e w4 ⟨b, rfl, hb1, hb⟩
        have HU := Aside0.mk hb1
        have BX4 := Aside0.mk (below_step BX3.out hb)
        have HB4 := Aside0.mk (blk_below HB3.out hb)
        have HG4 := Aside0.mk (Kd.C_below HG3.out hb)
        clear hb hb1 d2
        cases b with
        | false =>
          have NT : Aside0 (¬ TextsOK L) := ⟨fun h => by have := h kk hlt; rw [← HY.out] at this; exact absurd (HU.out this) (by decide)⟩
          go_wp2_with fail
          go_ret
          exact ⟨_, rfl, fun h => absurd h NT.out, BX4.out⟩
        | true =>
          have d3 := (blk_cell HB4.out 3).trans (show _ = some (Value.slice A3 y.f3.length c3) from rfl)
          go_wp2_with fail
          refine (attrs_e A3 c3 y.f3 _ HG4.out HAT.out).mono ?_
          rintro e w5 ⟨rfl, hb⟩
          have BX5 := Aside0.mk (below_step BX4.out hb)
          clear hb d3
          go_wp2_with fail
          refine (depth_e (some ad) c L (kk : Int) _ (Kd.C_below HC.out BX5.out) hc HS.out.tree (by omega) hltz).mono ?_
          rintro e w6 ⟨dn, rfl, hd, hb⟩
          have hd4 := hd HDP.out
          have hd32 : ¬ 32 < dn := by omega
          have BX6 := Aside0.mk (below_step BX5.out hb)
          clear hb hd hd4
          go_wp2_with fail
          go_roundg (L.length - (kk + 1))
          case measure => omega
          case rel => exact ⟨kk + 1, by omega, by omega, by go_num, BX6⟩
    · have hltz : ¬ (kk : Int) < (L.length : Int) := by omega
      go_wp2_with fail
      go_loopg [5] L.length (fun gg s5 wq => ∃ j : Nat, 1 ≤ j ∧ j ≤ L.length ∧ L.length - j ≤ gg ∧ s5 = .int .i64 j ∧ Aside0 (Below w.heap.size w wq))
      case atStart => exact ⟨1, Nat.le_refl _, by omega, by omega, rfl, BW⟩
      case round =>
        obtain ⟨j, hj1, hj, hg, rfl, BQ⟩ := hrel
        by_cases hlt : j < L.length
        · have hltz : (j : Int) < (L.length : Int) := by omega
          obtain ⟨ad2, A3, c3, ea2, c0, _⟩ := at_T133 (Kd.C_below HC.out BQ.out) (j : Int) (by omega) hltz
          have HA2 := Aside0.mk ea2
          obtain rfl := Option.some.inj ea2
          rw [Int.toNat_natCast] at c0
          obtain ⟨r, HR⟩ : ∃ r, Aside0 (r = (rd_T133 L (j : Int)).f0) := ⟨_, ⟨rfl⟩⟩
          rw [← HR.out] at c0
          have hr0 : 0 ≤ r := by rw [HR.out]; exact HS.out.inn j (by omega) hlt
          have hr1 : r < (L.length : Int) := Int.lt_trans (show r < (j : Int) by rw [HR.out]; exact (HS.out.tree j hlt).2) hltz
          obtain ⟨ad3, A4, c4, ea3, _, _, c2, _⟩ := at_T133 (Kd.C_below HC.out BQ.out) r hr0 hr1
          have HA3 := Aside0.mk ea3
          obtain rfl := Option.some.inj ea3
          have hx : (rd_T133 L r).f2 = ⟨#[]⟩ := by rw [HR.out]; exact HS.out.cont j (by omega) hlt
          rw [hx] at c2
          clear hx
          go_wp2_with fail
          go_roundg (L.length - (j + 1))
          case measure => omega
          case rel => exact ⟨j + 1, by omega, by omega, by omega, by go_num, BQ⟩
        · have hltz : ¬ (j : Int) < (L.length : Int) := by omega
          go_wp2_with fail
          go_ret
          exact ⟨_, rfl, fun _ => by rfl, BQ.out⟩
end Go.Proofs.YthapknnppabdaaaGreat.MQ
