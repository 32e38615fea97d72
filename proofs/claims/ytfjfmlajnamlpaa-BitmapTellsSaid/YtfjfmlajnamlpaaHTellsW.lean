/- comptoirlaw03.BitmapTells walked: any numbers as a map, and any bytes as numbers, or why not; what is handed in stays. -/
import Derived.Test.YtfjfmlajnamlpaaHOwn
namespace Go.Proofs.Ytfjfmlajnamlpaa.MB
open Go.RowKit Go.Proofs.YtfjfmlajnamlpaaW.PrintWords Go.Proofs.YtfjfmlajnamlpaaW.PrintLast Go.Proofs.YtfjfmlajnamlpaaW.PrintMore
set_option linter.unusedVariables false
set_option linter.unusedSimpArgs false

theorem bytes_eq (x : List Int) : comptoirhelp_Bytes.f x x = some true := by unfold comptoirhelp_Bytes.f; simp
theorem plain_eq (x : List Int) : comptoirhelp_Plain_int.f x x = some true := by unfold comptoirhelp_Plain_int.f; rw [alike]
set_option maxHeartbeats 8000000 in
set_option maxRecDepth 100000 in
theorem tells_gone (A0 : Option Addr) (c0 : Nat) (l0 : List Int) (A1 : Option Addr) (c1 : Nat) (l1 : List Int) (w : World) (h : 200 < l0.length ∨ 100 < l1.length) :
    Calls Try.prog 5 #[.slice A0 l0.length c0, .slice A1 l1.length c1] w fun e w' => e = .returned (.bool true) ∧ Below w.heap.size w w' := by
  by_cases c : 200 < l0.length
  · have q0 : decide ((l0.length : Int) > 200) = true := decide_eq_true (by omega)
    have q0' : decide (200 < l0.length) = true := decide_eq_true c
    clear c h
    go_enter Try.func5, Try.ntmps5
    go_wp2_with (go_at_call 9; refine (comptoirlaw03_awake.calls true _ awake_yes).mono ?_; rintro e w4 ⟨rfl, hb⟩; have HB6 := Aside0.mk hb; clear hb)
    go_ret
    exact ⟨rfl, HB6.out⟩
  · have q0 : decide ((l0.length : Int) > 200) = false := decide_eq_false (by omega)
    have q0' : decide (200 < l0.length) = false := decide_eq_false c
    have q1 : decide ((l1.length : Int) > 100) = true := decide_eq_true (by omega)
    have q1' : decide (100 < l1.length) = true := decide_eq_true (by omega)
    clear c h
    go_enter Try.func5, Try.ntmps5
    go_wp2_with (go_at_call 9; refine (comptoirlaw03_awake.calls true _ awake_yes).mono ?_; rintro e w4 ⟨rfl, hb⟩; have HB6 := Aside0.mk hb; clear hb)
    go_ret
    exact ⟨rfl, HB6.out⟩
set_option maxHeartbeats 8000000 in
set_option maxRecDepth 100000 in
theorem tells_walk (A0 : Option Addr) (c0 : Nat) (l0 : List Int) (A1 : Option Addr) (c1 : Nat) (l1 : List Int) (w : World) (hr0 : Kd.C (Kd.int .i64) w A0 l0.length l0) (hc0 : l0.length ≤ c0) (hr1 : Kd.C (Kd.int .u8) w A1 l1.length l1) (hc1 : l1.length ≤ c1) (h8 : Bytes8 l1) (h0 : l0.length ≤ 200) (h1 : l1.length ≤ 100) :
    Calls Try.prog 5 #[.slice A0 l0.length c0, .slice A1 l1.length c1] w fun e w' => e = .returned (.bool true) ∧ Below w.heap.size w w' := by
  have q0 : decide ((l0.length : Int) > 200) = false := decide_eq_false (by omega)
  have q0' : decide (200 < l0.length) = false := decide_eq_false (by omega)
  have q1 : decide ((l1.length : Int) > 100) = false := decide_eq_false (by omega)
  have q1' : decide (100 < l1.length) = false := decide_eq_false (by omega)
  obtain ⟨K1, hK1⟩ := write_alike l0 h0
  obtain ⟨K2, hK2⟩ := parse_alike l1 h8 h1
  have hW := write_is l0
  have hP : bitmap_Parse.f l1 = some (parseL 3 6 l1) := by unfold bitmap_Parse.f; rw [if_pos ⟨by omega, h8⟩]
  generalize writeL l0 = X at hK1 hW
  generalize parseL 3 6 l1 = Y at hK2 hP
  obtain ⟨x, ex⟩ := X
  obtain ⟨y, m, ey⟩ := Y
  have HR0 := Aside0.mk hr0
  have HR1 := Aside0.mk hr1
  have HC0 := Aside0.mk hc0
  have HC1 := Aside0.mk hc1
  have HL := Aside0.mk (And.intro h0 h1)
  have HK1 := Aside0.mk hK1
  have HK2 := Aside0.mk hK2
  have HW := Aside0.mk hW
  have HP := Aside0.mk hP
  clear hr0 hr1 hc0 hc1 h0 h1 h8 hK1 hK2 hW hP
  go_enter Try.func5, Try.ntmps5
  go_wp2_with fail
  refine (own_int A0 c0 l0 71 w HR0.out (by have := HL.out; omega)).mono ?_
  rintro e w1 ⟨g1, rfl, f1, _, hb⟩
  have F1 := Aside0.mk f1
  have B1 := Aside0.mk hb
  clear f1 hb
  go_wp2_with fail
  refine (own_byte A1 c1 l1 71 w1 (Kd.C_below HR1.out B1.out) (by have := HL.out; omega)).mono ?_
  rintro e w2 ⟨g2, rfl, f2, _, hb⟩
  have G1 := Aside0.mk (F1.out.kept hb)
  have G2 := Aside0.mk f2
  have B2 := Aside0.mk (below_step B1.out hb)
  clear f2 hb F1 B1
  go_wp2_with fail
  obtain ⟨_, e2, hC⟩ := own_Ck (G1.out.own (by have := HL.out; omega))
  refine (bitmap_Write.calls (some ⟨g1, 0, none⟩) (l0.length + 3) l0 x ex w2 hC e2 HW.out).mono ?_
  rintro e w3 ⟨v1, rfl, r1, hb⟩
  obtain ⟨Ax, cx, hv⟩ := Kd.R_slice r1
  subst hv
  have R1 := Aside0.mk (Kd.R_lower r1 (Nat.zero_le _))
  have H1 := Aside0.mk (G1.out.kept hb)
  have H2 := Aside0.mk (G2.out.kept hb)
  have B3 := Aside0.mk (below_step B2.out hb)
  clear r1 hb G1 G2 B2 hC e2
  go_wp2_with fail
  refine (comptoirref01_WriteMap.calls K1 A0 c0 l0 x ex w3 (Kd.C_below HR0.out B3.out) HC0.out HK1.out).mono ?_
  rintro e w4 ⟨v2, rfl, r2, hb⟩
  obtain ⟨Ay, cy, hv⟩ := Kd.R_slice r2
  subst hv
  have R2 := Aside0.mk (Kd.R_lower r2 (Nat.zero_le _))
  have R1 := Aside0.mk (Kd.R_below R1.out hb)
  have G1 := Aside0.mk (H1.out.kept hb)
  have G2 := Aside0.mk (H2.out.kept hb)
  have B4 := Aside0.mk (below_step B3.out hb)
  clear r2 hb H1 H2 B3
  go_wp2_with fail
  obtain ⟨_, e2, hC⟩ := own_Ck (G2.out.own (by have := HL.out; omega))
  refine (bitmap_Parse.calls (some ⟨g2, 0, none⟩) (l1.length + 3) l1 y m ey w4 hC e2 HP.out).mono ?_
  rintro e w5 ⟨v3, rfl, r3, hb⟩
  obtain ⟨Ap, cp, hv⟩ := Kd.R_slice r3
  subst hv
  have R3 := Aside0.mk (Kd.R_lower r3 (Nat.zero_le _))
  have R1 := Aside0.mk (Kd.R_below R1.out hb)
  have R2 := Aside0.mk (Kd.R_below R2.out hb)
  have H1 := Aside0.mk (G1.out.kept hb)
  have H2 := Aside0.mk (G2.out.kept hb)
  have B5 := Aside0.mk (below_step B4.out hb)
  clear r3 hb G1 G2 B4 hC e2
  go_wp2_with fail
  refine (comptoirref01_ParseMap.calls K2 A1 c1 l1 y m ey w5 (Kd.C_below HR1.out B5.out) HC1.out HK2.out).mono ?_
  rintro e w6 ⟨v4, rfl, r4, hb⟩
  obtain ⟨Aq, cq, hv⟩ := Kd.R_slice r4
  subst hv
  have R4 := Aside0.mk (Kd.R_lower r4 (Nat.zero_le _))
  have R1 := Aside0.mk (Kd.R_below R1.out hb)
  have R2 := Aside0.mk (Kd.R_below R2.out hb)
  have R3 := Aside0.mk (Kd.R_below R3.out hb)
  have G1 := Aside0.mk (H1.out.kept hb)
  have G2 := Aside0.mk (H2.out.kept hb)
  have B6 := Aside0.mk (below_step B5.out hb)
  clear r4 hb H1 H2 B5
  go_wp2_with fail
  refine (comptoirlaw03_awake.calls true _ awake_yes).mono ?_
  rintro e w7 ⟨rfl, hb⟩
  have R1 := Aside0.mk (Kd.R_below R1.out hb)
  have R2 := Aside0.mk (Kd.R_below R2.out hb)
  have R3 := Aside0.mk (Kd.R_below R3.out hb)
  have R4 := Aside0.mk (Kd.R_below R4.out hb)
  have H1 := Aside0.mk (G1.out.kept hb)
  have H2 := Aside0.mk (G2.out.kept hb)
  have B7 := Aside0.mk (below_step B6.out hb)
  have P1 := Aside0.mk (Kd.R_reads' R1.out)
  have P2 := Aside0.mk (Kd.R_reads' R2.out)
  clear hb G1 G2 B6
  go_wp2_with fail
  refine (comptoirhelp_Bytes.calls Ax cx x Ay cy x true w7 P1.out.2.2 P1.out.2.1 P2.out.2.2 P2.out.2.1 (bytes_eq x)).mono ?_
  rintro e w8 ⟨rfl, ⟨nd, rfl⟩⟩
  have D8 := Aside0.mk (pw_below_drewN (Below.refl w7.heap.size w7) nd)
  have P3 := Aside0.mk (Kd.R_reads' (Kd.R_below R3.out D8.out))
  have P4 := Aside0.mk (Kd.R_reads' (Kd.R_below R4.out D8.out))
  go_wp2_with fail
  refine (comptoirhelp_Plain_int.calls Ap cp y Aq cq y true _ P3.out.2.2 P3.out.2.1 P4.out.2.2 P4.out.2.1 (plain_eq y)).mono ?_
  rintro e w9 ⟨rfl, ⟨nd9, rfl⟩⟩
  have D9 := Aside0.mk (pw_below_drewN D8.out nd9)
  have B9 := Aside0.mk (below_step B7.out D9.out)
  have G1 := Aside0.mk (H1.out.kept D9.out)
  have G2 := Aside0.mk (H2.out.kept D9.out)
  clear D8 D9 P3 P4 P1 P2 R1 R2 R3 R4 H1 H2 B7
  generalize (w7.drewN nd).drewN nd9 = w10 at *
  go_wp2_with fail
  refine (kept_int g1 A0 c0 l0 71 w10 G1.out (Kd.C_below HR0.out B9.out) HC0.out (by have := HL.out; omega)).mono ?_
  rintro e w11 ⟨rfl, hb⟩
  have B11 := Aside0.mk (below_step B9.out hb)
  have H2 := Aside0.mk (G2.out.kept hb)
  clear hb
  go_wp2_with fail
  refine (kept_byte g2 A1 c1 l1 71 w11 H2.out (Kd.C_below HR1.out B11.out) HC1.out (by have := HL.out; omega)).mono ?_
  rintro e w12 ⟨rfl, hb⟩
  have B12 := Aside0.mk (below_step B11.out hb)
  clear hb
  go_wp2
  go_ret
  exact ⟨rfl, B12.out⟩
theorem tells_all (A0 : Option Addr) (c0 : Nat) (l0 : List Int) (A1 : Option Addr) (c1 : Nat) (l1 : List Int) (w : World) (hr0 : Kd.C (Kd.int .i64) w A0 l0.length l0) (hc0 : l0.length ≤ c0) (_ : l0.length ≤ maxLen ∧ l0.length * 8 ≤ 140737488351232 ∧ ∀ x ∈ l0, (fun x : Int => (Lit.int .i64 x).wf = true) x) (hr1 : Kd.C (Kd.int .u8) w A1 l1.length l1) (hc1 : l1.length ≤ c1) (h : l1.length ≤ maxLen ∧ l1.length * 1 ≤ 140737488351232 ∧ ∀ x ∈ l1, (fun x : Int => (Lit.int .u8 x).wf = true) x) :
    Calls Try.prog 5 #[.slice A0 l0.length c0, .slice A1 l1.length c1] w fun e w' => e = .returned (.bool true) ∧ Below w.heap.size w w' := by
  by_cases c : 200 < l0.length ∨ 100 < l1.length
  · exact tells_gone A0 c0 l0 A1 c1 l1 w c
  · exact tells_walk A0 c0 l0 A1 c1 l1 w hr0 hc0 hr1 hc1 (bytes_wf h.2.2) (by omega) (by omega)
end Go.Proofs.Ytfjfmlajnamlpaa.MB
