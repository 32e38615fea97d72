/- TextBytes walked, for each class of bytes. -/
import Derived.Test.YtjhamgodpgkkjaaDoorHBytes
import Derived.Test.YtjhamgodpgkkjaaDoorMTx4
namespace Go.Proofs.YtjhamgodpgkkjaaDoor.MT
open Go.RowKit Go.Proofs.YtjhamgodpgkkjaaDoorW.PrintWords Go.Proofs.YtjhamgodpgkkjaaDoorW.PrintLast Go.Proofs.YtjhamgodpgkkjaaDoorW.PrintMore
set_option linter.unusedVariables false
set_option linter.unusedSimpArgs false
set_option maxHeartbeats 8000000 in
set_option maxRecDepth 100000 in
theorem bytes_walk4 (c : Int) (hlo : 13 ≤ c) (hhi : c ≤ 13) (y : List Int) (hy : y = [c]) (hz : (strOfNums y).size = 1) (hW : comptoirlaw04_awake.f = some true) (hU : text_Utf8.f (strOfNums y) = some true) (hP : text_Plain.f (strOfNums y) 1 1 = some false) (hA : text_Ans.f (strOfNums y) 1 = some false) (hL : text_Aln.f (strOfNums y) 1 1 = some false) (hA2 : text_Ans.f (strOfNums y ++ strOfNums y) 1 = some false) (w : World) (hT_ : Tabs w) :
    Calls Tryd.prog 7 #[.int .u8 c] w fun e w' => e = .returned (.bool true) ∧ Below w.heap.size w w' := by
  have HTB_ := Aside0.mk hT_
  have HB := Aside0.mk (Below.refl w.heap.size w)
  have AW := Aside0.mk hW
  have AU := Aside0.mk hU
  have AP := Aside0.mk hP
  have AA := Aside0.mk hA
  have AL := Aside0.mk hL
  have A2 := Aside0.mk hA2
  have A0 := Aside0.mk none_ans
  have L0 := Aside0.mk none_aln
  have Ny := Aside0.mk hy
  have f0 : decide (c < 128) = true := decide_eq_true (by omega)
  have f1 : decide (32 ≤ c) = false := decide_eq_false (by omega)
  have f2 : (c == 9) = false := beq_eq_false_iff_ne.2 (by omega)
  have f3 : (c == 10) = false := beq_eq_false_iff_ne.2 (by omega)
  have f4 : (c == 13) = true := beq_iff_eq.2 (by omega)
  have f5 : decide (32 < c) = false := decide_eq_false (by omega)
  have f6 : decide (c ≤ 126) = true := decide_eq_true (by omega)
  have f7 : decide (48 ≤ c) = false := decide_eq_false (by omega)
  have f8 : decide (c ≤ 57) = true := decide_eq_true (by omega)
  have f9 : decide (65 ≤ c) = false := decide_eq_false (by omega)
  have f10 : decide (c ≤ 90) = true := decide_eq_true (by omega)
  have f11 : decide (97 ≤ c) = false := decide_eq_false (by omega)
  have f12 : decide (c ≤ 122) = true := decide_eq_true (by omega)
  have z0 : (strOfNums y).size + (strOfNums y).size ≤ 9223372036854775807 := by omega
  have z1 := eq_true z0
  have z2 : decide ((strOfNums y).size + (strOfNums y).size ≤ 9223372036854775807) = true := decide_eq_true z0
  have z3 : (9223372036854775807 < (strOfNums y).size + (strOfNums y).size) = False := eq_false (Nat.not_lt.2 z0)
  clear hT_ hW hU hP hA hL hA2 hy hlo hhi hz z0
  go_enter Tryd.func7, Tryd.ntmps7
  go_wp2_with (first | ((with_reducible refine gate_dst (N := 6) rfl ?_); refine Kd.R_lit (Kd.int .u8) _ 5 ?hg (N := 6) ?hd (xs := ([c] : List Int)) (inner := [.int .u8 c]) (ok := fun _ => True) (okp := fun _ => True) ?hr ?hp (fun _ hk => hk) trivial (Below.refl _ _) (Nat.le_refl _) (by simp) ?_; (case hd => rfl); (case hg => rfl); (case hr => first | (go_simp; done) | (go_simp; rfl)); (case hp => exact (Reps.one (show Kd.M (Kd.int .u8) _ _ _ c [.int .u8 c] from rfl) (Reps.none _ _))); intro v116 w0_ ho hb hg_ hnew_; clear hg_ hnew_; rw [← Ny.out] at ho; have n1_ := Aside0.mk (below_step (by repeat (first | (with_reducible first | exact HB.out | apply below_alloc | apply pw_below_drewN | apply below_drew1) | exact HB.out)) hb); clear HB; have HB := n1_; clear n1_ hb; have hcv := own_string (P := Tryd.prog) Tryd.underlying30 Tryd.underlying5 Tryd.underlying9 (Kd.own_of_R ho)) | (go_at_call 8; (with_reducible refine (comptoirlaw04_awake.calls true _ ?side1 AW.out).mono ?_); (case side1 => exact HTB_.out.below (by repeat (first | (with_reducible first | exact HB.out | apply below_alloc | apply pw_below_drewN | apply below_drew1) | exact HB.out))); rintro e w1_ ⟨rfl, hb⟩; have n1_ := Aside0.mk (below_step (by repeat (first | (with_reducible first | exact HB.out | apply below_alloc | apply pw_below_drewN | apply below_drew1) | exact HB.out)) hb); clear HB; have HB := n1_; clear n1_ hb))
  (go_at_call 9; (with_reducible refine (text_Utf8.calls (strOfNums y) true _ ?side1 AU.out).mono ?_); (case side1 => exact HTB_.out.below (by repeat (first | (with_reducible first | exact HB.out | apply below_alloc | apply pw_below_drewN | apply below_drew1) | exact HB.out))); rintro e w1_ ⟨rfl, hb⟩; have n1_ := Aside0.mk (below_step (by repeat (first | (with_reducible first | exact HB.out | apply below_alloc | apply pw_below_drewN | apply below_drew1) | exact HB.out)) hb); clear HB; have HB := n1_; clear n1_ hb)
  iterate 2 (first | go_values | go_skip | go_guarded | go_step | go_upon | go_back | go_simp)
  simp only [List.append_eq, List.cons_append, List.nil_append]
  go_wp2_with (first | (go_at_call 13; (with_reducible refine (text_Plain.calls (strOfNums y) 1 1 false _ ?side1 AP.out).mono ?_); (case side1 => exact HTB_.out.below (by repeat (first | (with_reducible first | exact HB.out | apply below_alloc | apply pw_below_drewN | apply below_drew1) | exact HB.out))); rintro e w1_ ⟨rfl, hb⟩; have n1_ := Aside0.mk (below_step (by repeat (first | (with_reducible first | exact HB.out | apply below_alloc | apply pw_below_drewN | apply below_drew1) | exact HB.out)) hb); clear HB; have HB := n1_; clear n1_ hb) | (go_at_call 15; (with_reducible refine (text_Ans.calls (strOfNums y) 1 false _ AA.out).mono ?_); rintro e w1_ ⟨rfl, hb⟩; have n1_ := Aside0.mk (below_step (by repeat (first | (with_reducible first | exact HB.out | apply below_alloc | apply pw_below_drewN | apply below_drew1) | exact HB.out)) hb); clear HB; have HB := n1_; clear n1_ hb) | (go_at_call 17; (with_reducible refine (text_Aln.calls (strOfNums y) 1 1 false _ AL.out).mono ?_); rintro e w1_ ⟨rfl, hb⟩; have n1_ := Aside0.mk (below_step (by repeat (first | (with_reducible first | exact HB.out | apply below_alloc | apply pw_below_drewN | apply below_drew1) | exact HB.out)) hb); clear HB; have HB := n1_; clear n1_ hb) | (go_at_call 15; (with_reducible refine (text_Ans.calls (⟨#[]⟩ : ByteArray) 5 false _ A0.out).mono ?_); rintro e w1_ ⟨rfl, hb⟩; have n1_ := Aside0.mk (below_step (by repeat (first | (with_reducible first | exact HB.out | apply below_alloc | apply pw_below_drewN | apply below_drew1) | exact HB.out)) hb); clear HB; have HB := n1_; clear n1_ hb) | (go_at_call 17; (with_reducible refine (text_Aln.calls (⟨#[]⟩ : ByteArray) 0 0 true _ L0.out).mono ?_); rintro e w1_ ⟨rfl, hb⟩; have n1_ := Aside0.mk (below_step (by repeat (first | (with_reducible first | exact HB.out | apply below_alloc | apply pw_below_drewN | apply below_drew1) | exact HB.out)) hb); clear HB; have HB := n1_; clear n1_ hb) | (go_at_call 15; (with_reducible refine (text_Ans.calls (strOfNums y ++ strOfNums y) 1 false _ A2.out).mono ?_); rintro e w1_ ⟨rfl, hb⟩; have n1_ := Aside0.mk (below_step (by repeat (first | (with_reducible first | exact HB.out | apply below_alloc | apply pw_below_drewN | apply below_drew1) | exact HB.out)) hb); clear HB; have HB := n1_; clear n1_ hb))
  all_goals (go_ret; exact ⟨rfl, HB.out⟩)
set_option maxHeartbeats 8000000 in
set_option maxRecDepth 100000 in
theorem bytes_walk5 (c : Int) (hlo : 14 ≤ c) (hhi : c ≤ 31) (y : List Int) (hy : y = [c]) (hz : (strOfNums y).size = 1) (hW : comptoirlaw04_awake.f = some true) (hU : text_Utf8.f (strOfNums y) = some false) (hP : text_Plain.f (strOfNums y) 1 1 = some false) (hA : text_Ans.f (strOfNums y) 1 = some false) (hL : text_Aln.f (strOfNums y) 1 1 = some false) (hA2 : text_Ans.f (strOfNums y ++ strOfNums y) 1 = some false) (w : World) (hT_ : Tabs w) :
    Calls Tryd.prog 7 #[.int .u8 c] w fun e w' => e = .returned (.bool true) ∧ Below w.heap.size w w' := by
  have HTB_ := Aside0.mk hT_
  have HB := Aside0.mk (Below.refl w.heap.size w)
  have AW := Aside0.mk hW
  have AU := Aside0.mk hU
  have AP := Aside0.mk hP
  have AA := Aside0.mk hA
  have AL := Aside0.mk hL
  have A2 := Aside0.mk hA2
  have A0 := Aside0.mk none_ans
  have L0 := Aside0.mk none_aln
  have Ny := Aside0.mk hy
  have f0 : decide (c < 128) = true := decide_eq_true (by omega)
  have f1 : decide (32 ≤ c) = false := decide_eq_false (by omega)
  have f2 : (c == 9) = false := beq_eq_false_iff_ne.2 (by omega)
  have f3 : (c == 10) = false := beq_eq_false_iff_ne.2 (by omega)
  have f4 : (c == 13) = false := beq_eq_false_iff_ne.2 (by omega)
  have f5 : decide (32 < c) = false := decide_eq_false (by omega)
  have f6 : decide (c ≤ 126) = true := decide_eq_true (by omega)
  have f7 : decide (48 ≤ c) = false := decide_eq_false (by omega)
  have f8 : decide (c ≤ 57) = true := decide_eq_true (by omega)
  have f9 : decide (65 ≤ c) = false := decide_eq_false (by omega)
  have f10 : decide (c ≤ 90) = true := decide_eq_true (by omega)
  have f11 : decide (97 ≤ c) = false := decide_eq_false (by omega)
  have f12 : decide (c ≤ 122) = true := decide_eq_true (by omega)
  have z0 : (strOfNums y).size + (strOfNums y).size ≤ 9223372036854775807 := by omega
  have z1 := eq_true z0
  have z2 : decide ((strOfNums y).size + (strOfNums y).size ≤ 9223372036854775807) = true := decide_eq_true z0
  have z3 : (9223372036854775807 < (strOfNums y).size + (strOfNums y).size) = False := eq_false (Nat.not_lt.2 z0)
  clear hT_ hW hU hP hA hL hA2 hy hlo hhi hz z0
  go_enter Tryd.func7, Tryd.ntmps7
  go_wp2_with (first | ((with_reducible refine gate_dst (N := 6) rfl ?_); refine Kd.R_lit (Kd.int .u8) _ 5 ?hg (N := 6) ?hd (xs := ([c] : List Int)) (inner := [.int .u8 c]) (ok := fun _ => True) (okp := fun _ => True) ?hr ?hp (fun _ hk => hk) trivial (Below.refl _ _) (Nat.le_refl _) (by simp) ?_; (case hd => rfl); (case hg => rfl); (case hr => first | (go_simp; done) | (go_simp; rfl)); (case hp => exact (Reps.one (show Kd.M (Kd.int .u8) _ _ _ c [.int .u8 c] from rfl) (Reps.none _ _))); intro v116 w0_ ho hb hg_ hnew_; clear hg_ hnew_; rw [← Ny.out] at ho; have n1_ := Aside0.mk (below_step (by repeat (first | (with_reducible first | exact HB.out | apply below_alloc | apply pw_below_drewN | apply below_drew1) | exact HB.out)) hb); clear HB; have HB := n1_; clear n1_ hb; have hcv := own_string (P := Tryd.prog) Tryd.underlying30 Tryd.underlying5 Tryd.underlying9 (Kd.own_of_R ho)) | (go_at_call 8; (with_reducible refine (comptoirlaw04_awake.calls true _ ?side1 AW.out).mono ?_); (case side1 => exact HTB_.out.below (by repeat (first | (with_reducible first | exact HB.out | apply below_alloc | apply pw_below_drewN | apply below_drew1) | exact HB.out))); rintro e w1_ ⟨rfl, hb⟩; have n1_ := Aside0.mk (below_step (by repeat (first | (with_reducible first | exact HB.out | apply below_alloc | apply pw_below_drewN | apply below_drew1) | exact HB.out)) hb); clear HB; have HB := n1_; clear n1_ hb))
  (go_at_call 9; (with_reducible refine (text_Utf8.calls (strOfNums y) false _ ?side1 AU.out).mono ?_); (case side1 => exact HTB_.out.below (by repeat (first | (with_reducible first | exact HB.out | apply below_alloc | apply pw_below_drewN | apply below_drew1) | exact HB.out))); rintro e w1_ ⟨rfl, hb⟩; have n1_ := Aside0.mk (below_step (by repeat (first | (with_reducible first | exact HB.out | apply below_alloc | apply pw_below_drewN | apply below_drew1) | exact HB.out)) hb); clear HB; have HB := n1_; clear n1_ hb)
  iterate 2 (first | go_values | go_skip | go_guarded | go_step | go_upon | go_back | go_simp)
  simp only [List.append_eq, List.cons_append, List.nil_append]
  go_wp2_with (first | (go_at_call 13; (with_reducible refine (text_Plain.calls (strOfNums y) 1 1 false _ ?side1 AP.out).mono ?_); (case side1 => exact HTB_.out.below (by repeat (first | (with_reducible first | exact HB.out | apply below_alloc | apply pw_below_drewN | apply below_drew1) | exact HB.out))); rintro e w1_ ⟨rfl, hb⟩; have n1_ := Aside0.mk (below_step (by repeat (first | (with_reducible first | exact HB.out | apply below_alloc | apply pw_below_drewN | apply below_drew1) | exact HB.out)) hb); clear HB; have HB := n1_; clear n1_ hb) | (go_at_call 15; (with_reducible refine (text_Ans.calls (strOfNums y) 1 false _ AA.out).mono ?_); rintro e w1_ ⟨rfl, hb⟩; have n1_ := Aside0.mk (below_step (by repeat (first | (with_reducible first | exact HB.out | apply below_alloc | apply pw_below_drewN | apply below_drew1) | exact HB.out)) hb); clear HB; have HB := n1_; clear n1_ hb) | (go_at_call 17; (with_reducible refine (text_Aln.calls (strOfNums y) 1 1 false _ AL.out).mono ?_); rintro e w1_ ⟨rfl, hb⟩; have n1_ := Aside0.mk (below_step (by repeat (first | (with_reducible first | exact HB.out | apply below_alloc | apply pw_below_drewN | apply below_drew1) | exact HB.out)) hb); clear HB; have HB := n1_; clear n1_ hb) | (go_at_call 15; (with_reducible refine (text_Ans.calls (⟨#[]⟩ : ByteArray) 5 false _ A0.out).mono ?_); rintro e w1_ ⟨rfl, hb⟩; have n1_ := Aside0.mk (below_step (by repeat (first | (with_reducible first | exact HB.out | apply below_alloc | apply pw_below_drewN | apply below_drew1) | exact HB.out)) hb); clear HB; have HB := n1_; clear n1_ hb) | (go_at_call 17; (with_reducible refine (text_Aln.calls (⟨#[]⟩ : ByteArray) 0 0 true _ L0.out).mono ?_); rintro e w1_ ⟨rfl, hb⟩; have n1_ := Aside0.mk (below_step (by repeat (first | (with_reducible first | exact HB.out | apply below_alloc | apply pw_below_drewN | apply below_drew1) | exact HB.out)) hb); clear HB; have HB := n1_; clear n1_ hb) | (go_at_call 15; (with_reducible refine (text_Ans.calls (strOfNums y ++ strOfNums y) 1 false _ A2.out).mono ?_); rintro e w1_ ⟨rfl, hb⟩; have n1_ := Aside0.mk (below_step (by repeat (first | (with_reducible first | exact HB.out | apply below_alloc | apply pw_below_drewN | apply below_drew1) | exact HB.out)) hb); clear HB; have HB := n1_; clear n1_ hb))
  all_goals (go_ret; exact ⟨rfl, HB.out⟩)
set_option maxHeartbeats 8000000 in
set_option maxRecDepth 100000 in
theorem bytes_walk6 (c : Int) (hlo : 32 ≤ c) (hhi : c ≤ 32) (y : List Int) (hy : y = [c]) (hz : (strOfNums y).size = 1) (hW : comptoirlaw04_awake.f = some true) (hU : text_Utf8.f (strOfNums y) = some true) (hP : text_Plain.f (strOfNums y) 1 1 = some false) (hA : text_Ans.f (strOfNums y) 1 = some true) (hL : text_Aln.f (strOfNums y) 1 1 = some false) (hA2 : text_Ans.f (strOfNums y ++ strOfNums y) 1 = some false) (w : World) (hT_ : Tabs w) :
    Calls Tryd.prog 7 #[.int .u8 c] w fun e w' => e = .returned (.bool true) ∧ Below w.heap.size w w' := by
  have HTB_ := Aside0.mk hT_
  have HB := Aside0.mk (Below.refl w.heap.size w)
  have AW := Aside0.mk hW
  have AU := Aside0.mk hU
  have AP := Aside0.mk hP
  have AA := Aside0.mk hA
  have AL := Aside0.mk hL
  have A2 := Aside0.mk hA2
  have A0 := Aside0.mk none_ans
  have L0 := Aside0.mk none_aln
  have Ny := Aside0.mk hy
  have f0 : decide (c < 128) = true := decide_eq_true (by omega)
  have f1 : decide (32 ≤ c) = true := decide_eq_true (by omega)
  have f2 : (c == 9) = false := beq_eq_false_iff_ne.2 (by omega)
  have f3 : (c == 10) = false := beq_eq_false_iff_ne.2 (by omega)
  have f4 : (c == 13) = false := beq_eq_false_iff_ne.2 (by omega)
  have f5 : decide (32 < c) = false := decide_eq_false (by omega)
  have f6 : decide (c ≤ 126) = true := decide_eq_true (by omega)
  have f7 : decide (48 ≤ c) = false := decide_eq_false (by omega)
  have f8 : decide (c ≤ 57) = true := decide_eq_true (by omega)
  have f9 : decide (65 ≤ c) = false := decide_eq_false (by omega)
  have f10 : decide (c ≤ 90) = true := decide_eq_true (by omega)
  have f11 : decide (97 ≤ c) = false := decide_eq_false (by omega)
  have f12 : decide (c ≤ 122) = true := decide_eq_true (by omega)
  have z0 : (strOfNums y).size + (strOfNums y).size ≤ 9223372036854775807 := by omega
  have z1 := eq_true z0
  have z2 : decide ((strOfNums y).size + (strOfNums y).size ≤ 9223372036854775807) = true := decide_eq_true z0
  have z3 : (9223372036854775807 < (strOfNums y).size + (strOfNums y).size) = False := eq_false (Nat.not_lt.2 z0)
  clear hT_ hW hU hP hA hL hA2 hy hlo hhi hz z0
  go_enter Tryd.func7, Tryd.ntmps7
  go_wp2_with (first | ((with_reducible refine gate_dst (N := 6) rfl ?_); refine Kd.R_lit (Kd.int .u8) _ 5 ?hg (N := 6) ?hd (xs := ([c] : List Int)) (inner := [.int .u8 c]) (ok := fun _ => True) (okp := fun _ => True) ?hr ?hp (fun _ hk => hk) trivial (Below.refl _ _) (Nat.le_refl _) (by simp) ?_; (case hd => rfl); (case hg => rfl); (case hr => first | (go_simp; done) | (go_simp; rfl)); (case hp => exact (Reps.one (show Kd.M (Kd.int .u8) _ _ _ c [.int .u8 c] from rfl) (Reps.none _ _))); intro v116 w0_ ho hb hg_ hnew_; clear hg_ hnew_; rw [← Ny.out] at ho; have n1_ := Aside0.mk (below_step (by repeat (first | (with_reducible first | exact HB.out | apply below_alloc | apply pw_below_drewN | apply below_drew1) | exact HB.out)) hb); clear HB; have HB := n1_; clear n1_ hb; have hcv := own_string (P := Tryd.prog) Tryd.underlying30 Tryd.underlying5 Tryd.underlying9 (Kd.own_of_R ho)) | (go_at_call 8; (with_reducible refine (comptoirlaw04_awake.calls true _ ?side1 AW.out).mono ?_); (case side1 => exact HTB_.out.below (by repeat (first | (with_reducible first | exact HB.out | apply below_alloc | apply pw_below_drewN | apply below_drew1) | exact HB.out))); rintro e w1_ ⟨rfl, hb⟩; have n1_ := Aside0.mk (below_step (by repeat (first | (with_reducible first | exact HB.out | apply below_alloc | apply pw_below_drewN | apply below_drew1) | exact HB.out)) hb); clear HB; have HB := n1_; clear n1_ hb))
  (go_at_call 9; (with_reducible refine (text_Utf8.calls (strOfNums y) true _ ?side1 AU.out).mono ?_); (case side1 => exact HTB_.out.below (by repeat (first | (with_reducible first | exact HB.out | apply below_alloc | apply pw_below_drewN | apply below_drew1) | exact HB.out))); rintro e w1_ ⟨rfl, hb⟩; have n1_ := Aside0.mk (below_step (by repeat (first | (with_reducible first | exact HB.out | apply below_alloc | apply pw_below_drewN | apply below_drew1) | exact HB.out)) hb); clear HB; have HB := n1_; clear n1_ hb)
  iterate 2 (first | go_values | go_skip | go_guarded | go_step | go_upon | go_back | go_simp)
  simp only [List.append_eq, List.cons_append, List.nil_append]
  go_wp2_with (first | (go_at_call 13; (with_reducible refine (text_Plain.calls (strOfNums y) 1 1 false _ ?side1 AP.out).mono ?_); (case side1 => exact HTB_.out.below (by repeat (first | (with_reducible first | exact HB.out | apply below_alloc | apply pw_below_drewN | apply below_drew1) | exact HB.out))); rintro e w1_ ⟨rfl, hb⟩; have n1_ := Aside0.mk (below_step (by repeat (first | (with_reducible first | exact HB.out | apply below_alloc | apply pw_below_drewN | apply below_drew1) | exact HB.out)) hb); clear HB; have HB := n1_; clear n1_ hb) | (go_at_call 15; (with_reducible refine (text_Ans.calls (strOfNums y) 1 true _ AA.out).mono ?_); rintro e w1_ ⟨rfl, hb⟩; have n1_ := Aside0.mk (below_step (by repeat (first | (with_reducible first | exact HB.out | apply below_alloc | apply pw_below_drewN | apply below_drew1) | exact HB.out)) hb); clear HB; have HB := n1_; clear n1_ hb) | (go_at_call 17; (with_reducible refine (text_Aln.calls (strOfNums y) 1 1 false _ AL.out).mono ?_); rintro e w1_ ⟨rfl, hb⟩; have n1_ := Aside0.mk (below_step (by repeat (first | (with_reducible first | exact HB.out | apply below_alloc | apply pw_below_drewN | apply below_drew1) | exact HB.out)) hb); clear HB; have HB := n1_; clear n1_ hb) | (go_at_call 15; (with_reducible refine (text_Ans.calls (⟨#[]⟩ : ByteArray) 5 false _ A0.out).mono ?_); rintro e w1_ ⟨rfl, hb⟩; have n1_ := Aside0.mk (below_step (by repeat (first | (with_reducible first | exact HB.out | apply below_alloc | apply pw_below_drewN | apply below_drew1) | exact HB.out)) hb); clear HB; have HB := n1_; clear n1_ hb) | (go_at_call 17; (with_reducible refine (text_Aln.calls (⟨#[]⟩ : ByteArray) 0 0 true _ L0.out).mono ?_); rintro e w1_ ⟨rfl, hb⟩; have n1_ := Aside0.mk (below_step (by repeat (first | (with_reducible first | exact HB.out | apply below_alloc | apply pw_below_drewN | apply below_drew1) | exact HB.out)) hb); clear HB; have HB := n1_; clear n1_ hb) | (go_at_call 15; (with_reducible refine (text_Ans.calls (strOfNums y ++ strOfNums y) 1 false _ A2.out).mono ?_); rintro e w1_ ⟨rfl, hb⟩; have n1_ := Aside0.mk (below_step (by repeat (first | (with_reducible first | exact HB.out | apply below_alloc | apply pw_below_drewN | apply below_drew1) | exact HB.out)) hb); clear HB; have HB := n1_; clear n1_ hb))
  all_goals (go_ret; exact ⟨rfl, HB.out⟩)
set_option maxHeartbeats 8000000 in
set_option maxRecDepth 100000 in
theorem bytes_walk7 (c : Int) (hlo : 33 ≤ c) (hhi : c ≤ 47) (y : List Int) (hy : y = [c]) (hz : (strOfNums y).size = 1) (hW : comptoirlaw04_awake.f = some true) (hU : text_Utf8.f (strOfNums y) = some true) (hP : text_Plain.f (strOfNums y) 1 1 = some true) (hA : text_Ans.f (strOfNums y) 1 = some true) (hL : text_Aln.f (strOfNums y) 1 1 = some false) (hA2 : text_Ans.f (strOfNums y ++ strOfNums y) 1 = some false) (w : World) (hT_ : Tabs w) :
    Calls Tryd.prog 7 #[.int .u8 c] w fun e w' => e = .returned (.bool true) ∧ Below w.heap.size w w' := by
  have HTB_ := Aside0.mk hT_
  have HB := Aside0.mk (Below.refl w.heap.size w)
  have AW := Aside0.mk hW
  have AU := Aside0.mk hU
  have AP := Aside0.mk hP
  have AA := Aside0.mk hA
  have AL := Aside0.mk hL
  have A2 := Aside0.mk hA2
  have A0 := Aside0.mk none_ans
  have L0 := Aside0.mk none_aln
  have Ny := Aside0.mk hy
  have f0 : decide (c < 128) = true := decide_eq_true (by omega)
  have f1 : decide (32 ≤ c) = true := decide_eq_true (by omega)
  have f2 : (c == 9) = false := beq_eq_false_iff_ne.2 (by omega)
  have f3 : (c == 10) = false := beq_eq_false_iff_ne.2 (by omega)
  have f4 : (c == 13) = false := beq_eq_false_iff_ne.2 (by omega)
  have f5 : decide (32 < c) = true := decide_eq_true (by omega)
  have f6 : decide (c ≤ 126) = true := decide_eq_true (by omega)
  have f7 : decide (48 ≤ c) = false := decide_eq_false (by omega)
  have f8 : decide (c ≤ 57) = true := decide_eq_true (by omega)
  have f9 : decide (65 ≤ c) = false := decide_eq_false (by omega)
  have f10 : decide (c ≤ 90) = true := decide_eq_true (by omega)
  have f11 : decide (97 ≤ c) = false := decide_eq_false (by omega)
  have f12 : decide (c ≤ 122) = true := decide_eq_true (by omega)
  have z0 : (strOfNums y).size + (strOfNums y).size ≤ 9223372036854775807 := by omega
  have z1 := eq_true z0
  have z2 : decide ((strOfNums y).size + (strOfNums y).size ≤ 9223372036854775807) = true := decide_eq_true z0
  have z3 : (9223372036854775807 < (strOfNums y).size + (strOfNums y).size) = False := eq_false (Nat.not_lt.2 z0)
  clear hT_ hW hU hP hA hL hA2 hy hlo hhi hz z0
  go_enter Tryd.func7, Tryd.ntmps7
  go_wp2_with (first | ((with_reducible refine gate_dst (N := 6) rfl ?_); refine Kd.R_lit (Kd.int .u8) _ 5 ?hg (N := 6) ?hd (xs := ([c] : List Int)) (inner := [.int .u8 c]) (ok := fun _ => True) (okp := fun _ => True) ?hr ?hp (fun _ hk => hk) trivial (Below.refl _ _) (Nat.le_refl _) (by simp) ?_; (case hd => rfl); (case hg => rfl); (case hr => first | (go_simp; done) | (go_simp; rfl)); (case hp => exact (Reps.one (show Kd.M (Kd.int .u8) _ _ _ c [.int .u8 c] from rfl) (Reps.none _ _))); intro v116 w0_ ho hb hg_ hnew_; clear hg_ hnew_; rw [← Ny.out] at ho; have n1_ := Aside0.mk (below_step (by repeat (first | (with_reducible first | exact HB.out | apply below_alloc | apply pw_below_drewN | apply below_drew1) | exact HB.out)) hb); clear HB; have HB := n1_; clear n1_ hb; have hcv := own_string (P := Tryd.prog) Tryd.underlying30 Tryd.underlying5 Tryd.underlying9 (Kd.own_of_R ho)) | (go_at_call 8; (with_reducible refine (comptoirlaw04_awake.calls true _ ?side1 AW.out).mono ?_); (case side1 => exact HTB_.out.below (by repeat (first | (with_reducible first | exact HB.out | apply below_alloc | apply pw_below_drewN | apply below_drew1) | exact HB.out))); rintro e w1_ ⟨rfl, hb⟩; have n1_ := Aside0.mk (below_step (by repeat (first | (with_reducible first | exact HB.out | apply below_alloc | apply pw_below_drewN | apply below_drew1) | exact HB.out)) hb); clear HB; have HB := n1_; clear n1_ hb))
  (go_at_call 9; (with_reducible refine (text_Utf8.calls (strOfNums y) true _ ?side1 AU.out).mono ?_); (case side1 => exact HTB_.out.below (by repeat (first | (with_reducible first | exact HB.out | apply below_alloc | apply pw_below_drewN | apply below_drew1) | exact HB.out))); rintro e w1_ ⟨rfl, hb⟩; have n1_ := Aside0.mk (below_step (by repeat (first | (with_reducible first | exact HB.out | apply below_alloc | apply pw_below_drewN | apply below_drew1) | exact HB.out)) hb); clear HB; have HB := n1_; clear n1_ hb)
  iterate 2 (first | go_values | go_skip | go_guarded | go_step | go_upon | go_back | go_simp)
  simp only [List.append_eq, List.cons_append, List.nil_append]
  go_wp2_with (first | (go_at_call 13; (with_reducible refine (text_Plain.calls (strOfNums y) 1 1 true _ ?side1 AP.out).mono ?_); (case side1 => exact HTB_.out.below (by repeat (first | (with_reducible first | exact HB.out | apply below_alloc | apply pw_below_drewN | apply below_drew1) | exact HB.out))); rintro e w1_ ⟨rfl, hb⟩; have n1_ := Aside0.mk (below_step (by repeat (first | (with_reducible first | exact HB.out | apply below_alloc | apply pw_below_drewN | apply below_drew1) | exact HB.out)) hb); clear HB; have HB := n1_; clear n1_ hb) | (go_at_call 15; (with_reducible refine (text_Ans.calls (strOfNums y) 1 true _ AA.out).mono ?_); rintro e w1_ ⟨rfl, hb⟩; have n1_ := Aside0.mk (below_step (by repeat (first | (with_reducible first | exact HB.out | apply below_alloc | apply pw_below_drewN | apply below_drew1) | exact HB.out)) hb); clear HB; have HB := n1_; clear n1_ hb) | (go_at_call 17; (with_reducible refine (text_Aln.calls (strOfNums y) 1 1 false _ AL.out).mono ?_); rintro e w1_ ⟨rfl, hb⟩; have n1_ := Aside0.mk (below_step (by repeat (first | (with_reducible first | exact HB.out | apply below_alloc | apply pw_below_drewN | apply below_drew1) | exact HB.out)) hb); clear HB; have HB := n1_; clear n1_ hb) | (go_at_call 15; (with_reducible refine (text_Ans.calls (⟨#[]⟩ : ByteArray) 5 false _ A0.out).mono ?_); rintro e w1_ ⟨rfl, hb⟩; have n1_ := Aside0.mk (below_step (by repeat (first | (with_reducible first | exact HB.out | apply below_alloc | apply pw_below_drewN | apply below_drew1) | exact HB.out)) hb); clear HB; have HB := n1_; clear n1_ hb) | (go_at_call 17; (with_reducible refine (text_Aln.calls (⟨#[]⟩ : ByteArray) 0 0 true _ L0.out).mono ?_); rintro e w1_ ⟨rfl, hb⟩; have n1_ := Aside0.mk (below_step (by repeat (first | (with_reducible first | exact HB.out | apply below_alloc | apply pw_below_drewN | apply below_drew1) | exact HB.out)) hb); clear HB; have HB := n1_; clear n1_ hb) | (go_at_call 15; (with_reducible refine (text_Ans.calls (strOfNums y ++ strOfNums y) 1 false _ A2.out).mono ?_); rintro e w1_ ⟨rfl, hb⟩; have n1_ := Aside0.mk (below_step (by repeat (first | (with_reducible first | exact HB.out | apply below_alloc | apply pw_below_drewN | apply below_drew1) | exact HB.out)) hb); clear HB; have HB := n1_; clear n1_ hb))
  all_goals (go_ret; exact ⟨rfl, HB.out⟩)
end Go.Proofs.YtjhamgodpgkkjaaDoor.MT
