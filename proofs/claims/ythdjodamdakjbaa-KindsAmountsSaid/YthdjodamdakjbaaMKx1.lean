-- laid by wip/tools/mixprint.py over the kit's print (functions of function values by hand)
import Derived.Test.YthdjodamdakjbaaMKx0
namespace Go.Proofs.Ythdjodamdakjbaa.MK
open Go.RowKit Go.Proofs.YthdjodamdakjbaaW.PrintWords Go.Proofs.YthdjodamdakjbaaW.PrintLast Go.Proofs.YthdjodamdakjbaaW.PrintMore
attribute [local go_sem] max2_int min2_int max_two min_two max_three min_three max_four min_four   -- for this text's walks alone
set_option linter.unusedVariables false
set_option linter.unusedSimpArgs false

/-! ### kinds_rows: function 57 -/
def kinds_rows.f  : Option ((List (S68))) := some (([(⟨(⟨#[65, 85, 84, 81]⟩ : ByteArray), (⟨#[50, 49, 48, 48]⟩ : ByteArray), 27, 1092⟩ : S68), (⟨(⟨#[65, 85, 84, 80]⟩ : ByteArray), (⟨#[50, 49, 49, 48]⟩ : ByteArray), 128, 1063⟩ : S68), (⟨(⟨#[67, 77, 80, 86]⟩ : ByteArray), (⟨#[50, 50, 50, 48]⟩ : ByteArray), 27, 740⟩ : S68), (⟨(⟨#[67, 77, 80, 75]⟩ : ByteArray), (⟨#[50, 50, 51, 48]⟩ : ByteArray), 128, 4⟩ : S68), (⟨(⟨#[82, 86, 82, 65]⟩ : ByteArray), (⟨#[50, 52, 50, 48]⟩ : ByteArray), 771, 28⟩ : S68), (⟨(⟨#[82, 86, 82, 82]⟩ : ByteArray), (⟨#[50, 52, 51, 48]⟩ : ByteArray), 128, 4⟩ : S68), (⟨(⟨#[82, 67, 76, 81]⟩ : ByteArray), (⟨#[50, 53, 50, 48]⟩ : ByteArray), 2, 0⟩ : S68), (⟨(⟨#[82, 67, 76, 80]⟩ : ByteArray), (⟨#[50, 53, 51, 48]⟩ : ByteArray), 128, 2⟩ : S68), (⟨(⟨#[68, 71, 78, 81]⟩ : ByteArray), (⟨#[50, 56, 48, 48]⟩ : ByteArray), 0, 0⟩ : S68), (⟨(⟨#[68, 71, 78, 80]⟩ : ByteArray), (⟨#[50, 56, 49, 48]⟩ : ByteArray), 128, 0⟩ : S68), (⟨(⟨#[82, 74, 67, 84]⟩ : ByteArray), (⟨#[50, 54, 52, 52]⟩ : ByteArray), 256, 0⟩ : S68)] : List (S68)))
set_option maxHeartbeats 8000000 in
set_option maxRecDepth 100000 in
theorem kinds_rows.calls  (r : List (S68)) (w : World) (h : kinds_rows.f  = some r) :
    Calls Try.prog 57 #[] w fun e w' => ∃ v0_ : Value, e = .returned (v0_) ∧ Kd.R k68 68 w' w.heap.size (fun _ => True) v0_ r ∧ Below w.heap.size w w' := by
  have hu68 := Try.underlying68
  have HB := Aside0.mk (Below.refl w.heap.size w)
  have H : (some (([(⟨(⟨#[65, 85, 84, 81]⟩ : ByteArray), (⟨#[50, 49, 48, 48]⟩ : ByteArray), 27, 1092⟩ : S68), (⟨(⟨#[65, 85, 84, 80]⟩ : ByteArray), (⟨#[50, 49, 49, 48]⟩ : ByteArray), 128, 1063⟩ : S68), (⟨(⟨#[67, 77, 80, 86]⟩ : ByteArray), (⟨#[50, 50, 50, 48]⟩ : ByteArray), 27, 740⟩ : S68), (⟨(⟨#[67, 77, 80, 75]⟩ : ByteArray), (⟨#[50, 50, 51, 48]⟩ : ByteArray), 128, 4⟩ : S68), (⟨(⟨#[82, 86, 82, 65]⟩ : ByteArray), (⟨#[50, 52, 50, 48]⟩ : ByteArray), 771, 28⟩ : S68), (⟨(⟨#[82, 86, 82, 82]⟩ : ByteArray), (⟨#[50, 52, 51, 48]⟩ : ByteArray), 128, 4⟩ : S68), (⟨(⟨#[82, 67, 76, 81]⟩ : ByteArray), (⟨#[50, 53, 50, 48]⟩ : ByteArray), 2, 0⟩ : S68), (⟨(⟨#[82, 67, 76, 80]⟩ : ByteArray), (⟨#[50, 53, 51, 48]⟩ : ByteArray), 128, 2⟩ : S68), (⟨(⟨#[68, 71, 78, 81]⟩ : ByteArray), (⟨#[50, 56, 48, 48]⟩ : ByteArray), 0, 0⟩ : S68), (⟨(⟨#[68, 71, 78, 80]⟩ : ByteArray), (⟨#[50, 56, 49, 48]⟩ : ByteArray), 128, 0⟩ : S68), (⟨(⟨#[82, 74, 67, 84]⟩ : ByteArray), (⟨#[50, 54, 52, 52]⟩ : ByteArray), 256, 0⟩ : S68)] : List (S68)))) = some r := h
  clear h
  obtain ⟨y101, hy101⟩ : ∃ y_ : List (S68), y_ = (([(⟨(⟨#[65, 85, 84, 81]⟩ : ByteArray), (⟨#[50, 49, 48, 48]⟩ : ByteArray), 27, 1092⟩ : S68), (⟨(⟨#[65, 85, 84, 80]⟩ : ByteArray), (⟨#[50, 49, 49, 48]⟩ : ByteArray), 128, 1063⟩ : S68), (⟨(⟨#[67, 77, 80, 86]⟩ : ByteArray), (⟨#[50, 50, 50, 48]⟩ : ByteArray), 27, 740⟩ : S68), (⟨(⟨#[67, 77, 80, 75]⟩ : ByteArray), (⟨#[50, 50, 51, 48]⟩ : ByteArray), 128, 4⟩ : S68), (⟨(⟨#[82, 86, 82, 65]⟩ : ByteArray), (⟨#[50, 52, 50, 48]⟩ : ByteArray), 771, 28⟩ : S68), (⟨(⟨#[82, 86, 82, 82]⟩ : ByteArray), (⟨#[50, 52, 51, 48]⟩ : ByteArray), 128, 4⟩ : S68), (⟨(⟨#[82, 67, 76, 81]⟩ : ByteArray), (⟨#[50, 53, 50, 48]⟩ : ByteArray), 2, 0⟩ : S68), (⟨(⟨#[82, 67, 76, 80]⟩ : ByteArray), (⟨#[50, 53, 51, 48]⟩ : ByteArray), 128, 2⟩ : S68), (⟨(⟨#[68, 71, 78, 81]⟩ : ByteArray), (⟨#[50, 56, 48, 48]⟩ : ByteArray), 0, 0⟩ : S68), (⟨(⟨#[68, 71, 78, 80]⟩ : ByteArray), (⟨#[50, 56, 49, 48]⟩ : ByteArray), 128, 0⟩ : S68), (⟨(⟨#[82, 74, 67, 84]⟩ : ByteArray), (⟨#[50, 54, 52, 52]⟩ : ByteArray), 256, 0⟩ : S68)] : List (S68))) := ⟨_, rfl⟩
  replace H : (some y101) = some r := by first | (rw [hy101]; with_reducible exact H) | (have H2_ := (Option.bind_some _ _).symm.trans H; rw [hy101]; with_reducible exact H2_) | (have H2_ := (Option.bind_some _ _).symm.trans H; with_reducible exact H2_) | with_reducible exact H | (rw [hy101]; exact H) | exact H
  have Ny101 := Aside0.mk hy101
  clear hy101
  obtain rfl := Option.some.inj H
  simp only [Option.some.injEq, Prod.mk.injEq] at H
  obtain ⟨rfl⟩ := H
  go_enter Try.func57, Try.ntmps57
  go_wp2_with (first | ((with_reducible refine gate_dst (N := 12) rfl ?_); refine Kd.R_lit k68 _ 68 ?hg (N := 12) ?hd (xs := ([(⟨(⟨#[65, 85, 84, 81]⟩ : ByteArray), (⟨#[50, 49, 48, 48]⟩ : ByteArray), 27, 1092⟩ : S68), (⟨(⟨#[65, 85, 84, 80]⟩ : ByteArray), (⟨#[50, 49, 49, 48]⟩ : ByteArray), 128, 1063⟩ : S68), (⟨(⟨#[67, 77, 80, 86]⟩ : ByteArray), (⟨#[50, 50, 50, 48]⟩ : ByteArray), 27, 740⟩ : S68), (⟨(⟨#[67, 77, 80, 75]⟩ : ByteArray), (⟨#[50, 50, 51, 48]⟩ : ByteArray), 128, 4⟩ : S68), (⟨(⟨#[82, 86, 82, 65]⟩ : ByteArray), (⟨#[50, 52, 50, 48]⟩ : ByteArray), 771, 28⟩ : S68), (⟨(⟨#[82, 86, 82, 82]⟩ : ByteArray), (⟨#[50, 52, 51, 48]⟩ : ByteArray), 128, 4⟩ : S68), (⟨(⟨#[82, 67, 76, 81]⟩ : ByteArray), (⟨#[50, 53, 50, 48]⟩ : ByteArray), 2, 0⟩ : S68), (⟨(⟨#[82, 67, 76, 80]⟩ : ByteArray), (⟨#[50, 53, 51, 48]⟩ : ByteArray), 128, 2⟩ : S68), (⟨(⟨#[68, 71, 78, 81]⟩ : ByteArray), (⟨#[50, 56, 48, 48]⟩ : ByteArray), 0, 0⟩ : S68), (⟨(⟨#[68, 71, 78, 80]⟩ : ByteArray), (⟨#[50, 56, 49, 48]⟩ : ByteArray), 128, 0⟩ : S68), (⟨(⟨#[82, 74, 67, 84]⟩ : ByteArray), (⟨#[50, 54, 52, 52]⟩ : ByteArray), 256, 0⟩ : S68)] : List (S68))) (inner := [.string (⟨#[65, 85, 84, 81]⟩ : ByteArray), .string (⟨#[50, 49, 48, 48]⟩ : ByteArray), .int .i64 27, .int .i64 1092, .string (⟨#[65, 85, 84, 80]⟩ : ByteArray), .string (⟨#[50, 49, 49, 48]⟩ : ByteArray), .int .i64 128, .int .i64 1063, .string (⟨#[67, 77, 80, 86]⟩ : ByteArray), .string (⟨#[50, 50, 50, 48]⟩ : ByteArray), .int .i64 27, .int .i64 740, .string (⟨#[67, 77, 80, 75]⟩ : ByteArray), .string (⟨#[50, 50, 51, 48]⟩ : ByteArray), .int .i64 128, .int .i64 4, .string (⟨#[82, 86, 82, 65]⟩ : ByteArray), .string (⟨#[50, 52, 50, 48]⟩ : ByteArray), .int .i64 771, .int .i64 28, .string (⟨#[82, 86, 82, 82]⟩ : ByteArray), .string (⟨#[50, 52, 51, 48]⟩ : ByteArray), .int .i64 128, .int .i64 4, .string (⟨#[82, 67, 76, 81]⟩ : ByteArray), .string (⟨#[50, 53, 50, 48]⟩ : ByteArray), .int .i64 2, .int .i64 0, .string (⟨#[82, 67, 76, 80]⟩ : ByteArray), .string (⟨#[50, 53, 51, 48]⟩ : ByteArray), .int .i64 128, .int .i64 2, .string (⟨#[68, 71, 78, 81]⟩ : ByteArray), .string (⟨#[50, 56, 48, 48]⟩ : ByteArray), .int .i64 0, .int .i64 0, .string (⟨#[68, 71, 78, 80]⟩ : ByteArray), .string (⟨#[50, 56, 49, 48]⟩ : ByteArray), .int .i64 128, .int .i64 0, .string (⟨#[82, 74, 67, 84]⟩ : ByteArray), .string (⟨#[50, 54, 52, 52]⟩ : ByteArray), .int .i64 256, .int .i64 0]) (ok := fun _ => True) (okp := fun _ => True) ?hr ?hp (fun _ hk => hk) trivial (Below.refl _ _) (Nat.le_refl _) (by simp) ?_; (case hd => rfl); (case hg => rfl); (case hr => first | (go_simp; done) | (go_simp; rfl) | (go_simp; simp only [show ∀ l_ : List UInt8, (l_ != []) = !l_.isEmpty from fun l_ => by cases l_ <;> rfl]; done)); (case hp => exact (Reps.c4 (show Kd.M k68 _ _ _ (⟨(⟨#[65, 85, 84, 81]⟩ : ByteArray), (⟨#[50, 49, 48, 48]⟩ : ByteArray), 27, 1092⟩ : S68) [.string (⟨#[65, 85, 84, 81]⟩ : ByteArray), .string (⟨#[50, 49, 48, 48]⟩ : ByteArray), .int .i64 27, .int .i64 1092] from (k68_mkM _ _ _ (⟨(⟨#[65, 85, 84, 81]⟩ : ByteArray), (⟨#[50, 49, 48, 48]⟩ : ByteArray), 27, 1092⟩ : S68) )) (Reps.c4 (show Kd.M k68 _ _ _ (⟨(⟨#[65, 85, 84, 80]⟩ : ByteArray), (⟨#[50, 49, 49, 48]⟩ : ByteArray), 128, 1063⟩ : S68) [.string (⟨#[65, 85, 84, 80]⟩ : ByteArray), .string (⟨#[50, 49, 49, 48]⟩ : ByteArray), .int .i64 128, .int .i64 1063] from (k68_mkM _ _ _ (⟨(⟨#[65, 85, 84, 80]⟩ : ByteArray), (⟨#[50, 49, 49, 48]⟩ : ByteArray), 128, 1063⟩ : S68) )) (Reps.c4 (show Kd.M k68 _ _ _ (⟨(⟨#[67, 77, 80, 86]⟩ : ByteArray), (⟨#[50, 50, 50, 48]⟩ : ByteArray), 27, 740⟩ : S68) [.string (⟨#[67, 77, 80, 86]⟩ : ByteArray), .string (⟨#[50, 50, 50, 48]⟩ : ByteArray), .int .i64 27, .int .i64 740] from (k68_mkM _ _ _ (⟨(⟨#[67, 77, 80, 86]⟩ : ByteArray), (⟨#[50, 50, 50, 48]⟩ : ByteArray), 27, 740⟩ : S68) )) (Reps.c4 (show Kd.M k68 _ _ _ (⟨(⟨#[67, 77, 80, 75]⟩ : ByteArray), (⟨#[50, 50, 51, 48]⟩ : ByteArray), 128, 4⟩ : S68) [.string (⟨#[67, 77, 80, 75]⟩ : ByteArray), .string (⟨#[50, 50, 51, 48]⟩ : ByteArray), .int .i64 128, .int .i64 4] from (k68_mkM _ _ _ (⟨(⟨#[67, 77, 80, 75]⟩ : ByteArray), (⟨#[50, 50, 51, 48]⟩ : ByteArray), 128, 4⟩ : S68) )) (Reps.c4 (show Kd.M k68 _ _ _ (⟨(⟨#[82, 86, 82, 65]⟩ : ByteArray), (⟨#[50, 52, 50, 48]⟩ : ByteArray), 771, 28⟩ : S68) [.string (⟨#[82, 86, 82, 65]⟩ : ByteArray), .string (⟨#[50, 52, 50, 48]⟩ : ByteArray), .int .i64 771, .int .i64 28] from (k68_mkM _ _ _ (⟨(⟨#[82, 86, 82, 65]⟩ : ByteArray), (⟨#[50, 52, 50, 48]⟩ : ByteArray), 771, 28⟩ : S68) )) (Reps.c4 (show Kd.M k68 _ _ _ (⟨(⟨#[82, 86, 82, 82]⟩ : ByteArray), (⟨#[50, 52, 51, 48]⟩ : ByteArray), 128, 4⟩ : S68) [.string (⟨#[82, 86, 82, 82]⟩ : ByteArray), .string (⟨#[50, 52, 51, 48]⟩ : ByteArray), .int .i64 128, .int .i64 4] from (k68_mkM _ _ _ (⟨(⟨#[82, 86, 82, 82]⟩ : ByteArray), (⟨#[50, 52, 51, 48]⟩ : ByteArray), 128, 4⟩ : S68) )) (Reps.c4 (show Kd.M k68 _ _ _ (⟨(⟨#[82, 67, 76, 81]⟩ : ByteArray), (⟨#[50, 53, 50, 48]⟩ : ByteArray), 2, 0⟩ : S68) [.string (⟨#[82, 67, 76, 81]⟩ : ByteArray), .string (⟨#[50, 53, 50, 48]⟩ : ByteArray), .int .i64 2, .int .i64 0] from (k68_mkM _ _ _ (⟨(⟨#[82, 67, 76, 81]⟩ : ByteArray), (⟨#[50, 53, 50, 48]⟩ : ByteArray), 2, 0⟩ : S68) )) (Reps.c4 (show Kd.M k68 _ _ _ (⟨(⟨#[82, 67, 76, 80]⟩ : ByteArray), (⟨#[50, 53, 51, 48]⟩ : ByteArray), 128, 2⟩ : S68) [.string (⟨#[82, 67, 76, 80]⟩ : ByteArray), .string (⟨#[50, 53, 51, 48]⟩ : ByteArray), .int .i64 128, .int .i64 2] from (k68_mkM _ _ _ (⟨(⟨#[82, 67, 76, 80]⟩ : ByteArray), (⟨#[50, 53, 51, 48]⟩ : ByteArray), 128, 2⟩ : S68) )) (Reps.c4 (show Kd.M k68 _ _ _ (⟨(⟨#[68, 71, 78, 81]⟩ : ByteArray), (⟨#[50, 56, 48, 48]⟩ : ByteArray), 0, 0⟩ : S68) [.string (⟨#[68, 71, 78, 81]⟩ : ByteArray), .string (⟨#[50, 56, 48, 48]⟩ : ByteArray), .int .i64 0, .int .i64 0] from (k68_mkM _ _ _ (⟨(⟨#[68, 71, 78, 81]⟩ : ByteArray), (⟨#[50, 56, 48, 48]⟩ : ByteArray), 0, 0⟩ : S68) )) (Reps.c4 (show Kd.M k68 _ _ _ (⟨(⟨#[68, 71, 78, 80]⟩ : ByteArray), (⟨#[50, 56, 49, 48]⟩ : ByteArray), 128, 0⟩ : S68) [.string (⟨#[68, 71, 78, 80]⟩ : ByteArray), .string (⟨#[50, 56, 49, 48]⟩ : ByteArray), .int .i64 128, .int .i64 0] from (k68_mkM _ _ _ (⟨(⟨#[68, 71, 78, 80]⟩ : ByteArray), (⟨#[50, 56, 49, 48]⟩ : ByteArray), 128, 0⟩ : S68) )) (Reps.c4 (show Kd.M k68 _ _ _ (⟨(⟨#[82, 74, 67, 84]⟩ : ByteArray), (⟨#[50, 54, 52, 52]⟩ : ByteArray), 256, 0⟩ : S68) [.string (⟨#[82, 74, 67, 84]⟩ : ByteArray), .string (⟨#[50, 54, 52, 52]⟩ : ByteArray), .int .i64 256, .int .i64 0] from (k68_mkM _ _ _ (⟨(⟨#[82, 74, 67, 84]⟩ : ByteArray), (⟨#[50, 54, 52, 52]⟩ : ByteArray), 256, 0⟩ : S68) )) (Reps.none _ _))))))))))))); intro v102 w1 ho2 hb hg_ hnew_; clear hg_ hnew_; (first | rw [← Ny101.out] at ho2 | (simp only [Int.reduceToNat] at ho2; rw [← Ny101.out] at ho2)); have n0_ := Aside0.mk (Kd.R_lower ho2 (below_size (by repeat (first | (with_reducible first | exact HB.out | apply below_alloc | apply pw_below_drewN | apply below_drew1) | exact HB.out)))); have n1_ := Aside0.mk (below_step (by repeat (first | (with_reducible first | exact HB.out | apply below_alloc | apply pw_below_drewN | apply below_drew1) | exact HB.out)) hb); clear HB; have HO103 := n0_; have HB := n1_; clear n0_ n1_; clear hb ho2))
  go_ret
  exact ⟨_, by first | rfl | (simp [errW_none, errW_some] <;> rfl) | (simp [*, errW_none, errW_some] <;> rfl), by (with_reducible repeat (first | apply Kd.R_alloc | apply Kd.R_drewN | apply Kd.R_drew)); exact HO103.out, by repeat (first | (with_reducible first | exact HB.out | apply below_alloc | apply pw_below_drewN | apply below_drew1) | exact HB.out)⟩

/-! ### kinds_of: function 39 -/
def kinds_of.f (a0 : Int) : Option (ByteArray × ByteArray × Int × Int) := if a0 < 1 then (some ((⟨#[]⟩ : ByteArray), (⟨#[]⟩ : ByteArray), 0, 0)) else (if a0 > 11 then (some ((⟨#[]⟩ : ByteArray), (⟨#[]⟩ : ByteArray), 0, 0)) else ((kinds_rows.f).bind fun t105 => (if 0 ≤ (wrap64 (a0 - 1)) then (if (wrap64 (a0 - 1)) < (t105.length : Int) then (some ((rd_T68 t105 (wrap64 (a0 - 1))).f0, (rd_T68 t105 (wrap64 (a0 - 1))).f1, (rd_T68 t105 (wrap64 (a0 - 1))).f2, (rd_T68 t105 (wrap64 (a0 - 1))).f3)) else (none)) else (none))))
set_option maxHeartbeats 8000000 in
set_option maxRecDepth 100000 in
theorem kinds_of.calls (a0 : Int) (r1 : ByteArray) (r2 : ByteArray) (r3 : Int) (r4 : Int) (w : World) (h : kinds_of.f a0 = some (r1, r2, r3, r4)) :
    Calls Try.prog 39 #[.int .i64 a0] w fun e w' => e = .returned (.agg #[.string r1, .string r2, .int .i64 r3, .int .i64 r4]) ∧ Below w.heap.size w w' := by
  have hu68 := Try.underlying68
  have HB := Aside0.mk (Below.refl w.heap.size w)
  have H : (if a0 < 1 then (some ((⟨#[]⟩ : ByteArray), (⟨#[]⟩ : ByteArray), 0, 0)) else (if a0 > 11 then (some ((⟨#[]⟩ : ByteArray), (⟨#[]⟩ : ByteArray), 0, 0)) else ((kinds_rows.f).bind fun t105 => (if 0 ≤ (wrap64 (a0 - 1)) then (if (wrap64 (a0 - 1)) < (t105.length : Int) then (some ((rd_T68 t105 (wrap64 (a0 - 1))).f0, (rd_T68 t105 (wrap64 (a0 - 1))).f1, (rd_T68 t105 (wrap64 (a0 - 1))).f2, (rd_T68 t105 (wrap64 (a0 - 1))).f3)) else (none)) else (none))))) = some (r1, r2, r3, r4) := h
  clear h
  by_cases c2 : a0 < 1
  · rw [if_pos c2] at H
    have c2b0 : decide (a0 < 1) = true := decide_eq_true c2
    clear c2
    simp only [Option.some.injEq, Prod.mk.injEq] at H
    obtain ⟨rfl, rfl, rfl, rfl⟩ := H
    go_enter Try.func39, Try.ntmps39
    go_wp2_with (first | ((with_reducible refine gate_dst (N := 2) rfl ?_); refine box_event ?hg (N := 2) ?hd (cs := #[.string (⟨#[]⟩ : ByteArray), .string (⟨#[]⟩ : ByteArray), .int .i64 0, .int .i64 0]) (t := 68) ?hr ?_; (case hd => rfl); (case hg => rfl); (case hr => first | (go_simp; done) | (go_simp; rfl) | (go_simp; simp only [show ∀ l_ : List UInt8, (l_ != []) = !l_.isEmpty from fun l_ => by cases l_ <;> rfl]; done)); intro gb104 hg w3 hbox hb; have n0_ := Aside0.mk (below_step (by repeat (first | (with_reducible first | exact HB.out | apply below_alloc | apply pw_below_drewN | apply below_drew1) | exact HB.out)) hb); have n1_ := Aside0.mk (hbox); have n2_ := Aside0.mk ((by rw [hg]; exact (below_size (by repeat (first | (with_reducible first | exact HB.out | apply below_alloc | apply pw_below_drewN | apply below_drew1) | exact HB.out))) : w.heap.size ≤ gb104)); have n3_ := Aside0.mk ((by rw [hg]; exact (below_size (by repeat (first | (with_reducible first | exact HB.out | apply below_alloc | apply pw_below_drewN | apply below_drew1) | exact HB.out))) : w.heap.size ≤ gb104)); clear HB; have HB := n0_; have BK104 := n1_; have GW104 := n2_; have GE104 := n3_; clear n0_ n1_ n2_ n3_; clear hb hbox hg; have hcz4_0 : w3.cell? ⟨gb104, 0, none⟩ = some (.string (⟨#[]⟩ : ByteArray)) := (blk_cell BK104.out 0).trans rfl; have hcz4_1 : w3.cell? ⟨gb104, 1, none⟩ = some (.string (⟨#[]⟩ : ByteArray)) := (blk_cell BK104.out 1).trans rfl; have hcz4_2 : w3.cell? ⟨gb104, 2, none⟩ = some (.int .i64 0) := (blk_cell BK104.out 2).trans rfl; have hcz4_3 : w3.cell? ⟨gb104, 3, none⟩ = some (.int .i64 0) := (blk_cell BK104.out 3).trans rfl; have hfz4_0 := blk_frozen BK104.out 0; have hfz4_1 := blk_frozen BK104.out 1; have hfz4_2 := blk_frozen BK104.out 2; have hfz4_3 := blk_frozen BK104.out 3))
    refine bodyPost_ret (results_cell_row rfl _ _ gb104 68 #[.string (⟨#[]⟩ : ByteArray), .string (⟨#[]⟩ : ByteArray), .int .i64 0, .int .i64 0] (0, 0) _ rfl (by (with_reducible repeat (first | refine blk_drewN ?_ _ | refine blk_drew ?_ | refine blk_alloc ?_ _)); refine blk_put (cs := #[.string (⟨#[]⟩ : ByteArray), .string (⟨#[]⟩ : ByteArray), .int .i64 0, .int .i64 0]) ?_ 3 _ rfl; (with_reducible repeat (first | refine blk_drewN ?_ _ | refine blk_drew ?_ | refine blk_alloc ?_ _)); refine blk_put (cs := #[.string (⟨#[]⟩ : ByteArray), .string (⟨#[]⟩ : ByteArray), .int .i64 0, .int .i64 0]) ?_ 2 _ rfl; (with_reducible repeat (first | refine blk_drewN ?_ _ | refine blk_drew ?_ | refine blk_alloc ?_ _)); refine blk_put (cs := #[.string (⟨#[]⟩ : ByteArray), .string (⟨#[]⟩ : ByteArray), .int .i64 0, .int .i64 0]) ?_ 1 _ rfl; (with_reducible repeat (first | refine blk_drewN ?_ _ | refine blk_drew ?_ | refine blk_alloc ?_ _)); refine blk_put (cs := #[.string (⟨#[]⟩ : ByteArray), .string (⟨#[]⟩ : ByteArray), .int .i64 0, .int .i64 0]) ?_ 0 _ rfl; (with_reducible repeat (first | refine blk_drewN ?_ _ | refine blk_drew ?_ | refine blk_alloc ?_ _)); exact BK104.out) Try.underlying68 rfl (by kernel_rfl)) rfl ?_
    exact ⟨by first | rfl | (simp [errW_none, errW_some] <;> rfl) | (simp [*, errW_none, errW_some] <;> rfl), by repeat (first | (with_reducible first | exact HB.out | apply below_alloc | apply pw_below_drewN | apply below_drew1 | refine below_set ?_ GE104.out) | exact HB.out)⟩
  · rw [if_neg c2] at H
    have c2b0 : decide (a0 < 1) = false := decide_eq_false c2
    clear c2
    by_cases c5 : a0 > 11
    · rw [if_pos c5] at H
      have c5b0 : decide (11 < a0) = true := decide_eq_true c5
      clear c5
      simp only [Option.some.injEq, Prod.mk.injEq] at H
      obtain ⟨rfl, rfl, rfl, rfl⟩ := H
      go_enter Try.func39, Try.ntmps39
      go_wp2_with (first | ((with_reducible refine gate_dst (N := 2) rfl ?_); refine box_event ?hg (N := 2) ?hd (cs := #[.string (⟨#[]⟩ : ByteArray), .string (⟨#[]⟩ : ByteArray), .int .i64 0, .int .i64 0]) (t := 68) ?hr ?_; (case hd => rfl); (case hg => rfl); (case hr => first | (go_simp; done) | (go_simp; rfl) | (go_simp; simp only [show ∀ l_ : List UInt8, (l_ != []) = !l_.isEmpty from fun l_ => by cases l_ <;> rfl]; done)); intro gb104 hg w6 hbox hb; have n0_ := Aside0.mk (below_step (by repeat (first | (with_reducible first | exact HB.out | apply below_alloc | apply pw_below_drewN | apply below_drew1) | exact HB.out)) hb); have n1_ := Aside0.mk (hbox); have n2_ := Aside0.mk ((by rw [hg]; exact (below_size (by repeat (first | (with_reducible first | exact HB.out | apply below_alloc | apply pw_below_drewN | apply below_drew1) | exact HB.out))) : w.heap.size ≤ gb104)); have n3_ := Aside0.mk ((by rw [hg]; exact (below_size (by repeat (first | (with_reducible first | exact HB.out | apply below_alloc | apply pw_below_drewN | apply below_drew1) | exact HB.out))) : w.heap.size ≤ gb104)); clear HB; have HB := n0_; have BK104 := n1_; have GW104 := n2_; have GE104 := n3_; clear n0_ n1_ n2_ n3_; clear hb hbox hg; have hcz7_0 : w6.cell? ⟨gb104, 0, none⟩ = some (.string (⟨#[]⟩ : ByteArray)) := (blk_cell BK104.out 0).trans rfl; have hcz7_1 : w6.cell? ⟨gb104, 1, none⟩ = some (.string (⟨#[]⟩ : ByteArray)) := (blk_cell BK104.out 1).trans rfl; have hcz7_2 : w6.cell? ⟨gb104, 2, none⟩ = some (.int .i64 0) := (blk_cell BK104.out 2).trans rfl; have hcz7_3 : w6.cell? ⟨gb104, 3, none⟩ = some (.int .i64 0) := (blk_cell BK104.out 3).trans rfl; have hfz7_0 := blk_frozen BK104.out 0; have hfz7_1 := blk_frozen BK104.out 1; have hfz7_2 := blk_frozen BK104.out 2; have hfz7_3 := blk_frozen BK104.out 3))
      refine bodyPost_ret (results_cell_row rfl _ _ gb104 68 #[.string (⟨#[]⟩ : ByteArray), .string (⟨#[]⟩ : ByteArray), .int .i64 0, .int .i64 0] (0, 0) _ rfl (by (with_reducible repeat (first | refine blk_drewN ?_ _ | refine blk_drew ?_ | refine blk_alloc ?_ _)); refine blk_put (cs := #[.string (⟨#[]⟩ : ByteArray), .string (⟨#[]⟩ : ByteArray), .int .i64 0, .int .i64 0]) ?_ 3 _ rfl; (with_reducible repeat (first | refine blk_drewN ?_ _ | refine blk_drew ?_ | refine blk_alloc ?_ _)); refine blk_put (cs := #[.string (⟨#[]⟩ : ByteArray), .string (⟨#[]⟩ : ByteArray), .int .i64 0, .int .i64 0]) ?_ 2 _ rfl; (with_reducible repeat (first | refine blk_drewN ?_ _ | refine blk_drew ?_ | refine blk_alloc ?_ _)); refine blk_put (cs := #[.string (⟨#[]⟩ : ByteArray), .string (⟨#[]⟩ : ByteArray), .int .i64 0, .int .i64 0]) ?_ 1 _ rfl; (with_reducible repeat (first | refine blk_drewN ?_ _ | refine blk_drew ?_ | refine blk_alloc ?_ _)); refine blk_put (cs := #[.string (⟨#[]⟩ : ByteArray), .string (⟨#[]⟩ : ByteArray), .int .i64 0, .int .i64 0]) ?_ 0 _ rfl; (with_reducible repeat (first | refine blk_drewN ?_ _ | refine blk_drew ?_ | refine blk_alloc ?_ _)); exact BK104.out) Try.underlying68 rfl (by kernel_rfl)) rfl ?_
      exact ⟨by first | rfl | (simp [errW_none, errW_some] <;> rfl) | (simp [*, errW_none, errW_some] <;> rfl), by repeat (first | (with_reducible first | exact HB.out | apply below_alloc | apply pw_below_drewN | apply below_drew1 | refine below_set ?_ GE104.out) | exact HB.out)⟩
    · rw [if_neg c5] at H
      have c5b0 : decide (11 < a0) = false := decide_eq_false c5
      clear c5
      replace H := Option.bind_eq_some_iff.mp H
      obtain ⟨t105, A80, H⟩ := H
      replace H : (if 0 ≤ (wrap64 (a0 - 1)) then (if (wrap64 (a0 - 1)) < (t105.length : Int) then (some ((rd_T68 t105 (wrap64 (a0 - 1))).f0, (rd_T68 t105 (wrap64 (a0 - 1))).f1, (rd_T68 t105 (wrap64 (a0 - 1))).f2, (rd_T68 t105 (wrap64 (a0 - 1))).f3)) else (none)) else (none)) = some (r1, r2, r3, r4) := H
      have A8 := Aside0.mk A80
      clear A80
      obtain ⟨ji9, hji9⟩ : ∃ j_ : Int, (wrap64 (a0 - 1)) = j_ := ⟨_, rfl⟩
      replace H : (if 0 ≤ (ji9) then (if (ji9) < (t105.length : Int) then (some ((rd_T68 t105 (ji9)).f0, (rd_T68 t105 (ji9)).f1, (rd_T68 t105 (ji9)).f2, (rd_T68 t105 (ji9)).f3)) else (none)) else (none)) = some (r1, r2, r3, r4) := by first | (rw [hji9] at H; exact H) | (simp only [hji9] at H ⊢; exact H)
      (try rw [hji9] at A8)
      have hji9w : (IntKind.i64.wrap (a0 - 1)) = ji9 := (i64_w _).trans hji9
      by_cases c10 : 0 ≤ (ji9)
      · rw [if_pos c10] at H
        have c10b0 : decide (0 ≤ (ji9)) = true := decide_eq_true c10
        clear c10
        by_cases c11 : (ji9) < (t105.length : Int)
        · rw [if_pos c11] at H
          have c11b0 : decide ((ji9) < (t105.length : Int)) = true := decide_eq_true c11
          clear c11
          simp only [Option.some.injEq, Prod.mk.injEq] at H
          obtain ⟨rfl, rfl, rfl, rfl⟩ := H
          go_enter Try.func39, Try.ntmps39
          go_wp2_with (first | ((with_reducible refine gate_dst (N := 2) rfl ?_); refine box_event ?hg (N := 2) ?hd (cs := #[.string (⟨#[]⟩ : ByteArray), .string (⟨#[]⟩ : ByteArray), .int .i64 0, .int .i64 0]) (t := 68) ?hr ?_; (case hd => rfl); (case hg => rfl); (case hr => first | (go_simp; done) | (go_simp; rfl) | (go_simp; simp only [show ∀ l_ : List UInt8, (l_ != []) = !l_.isEmpty from fun l_ => by cases l_ <;> rfl]; done)); intro gb104 hg w12 hbox hb; have n0_ := Aside0.mk (below_step (by repeat (first | (with_reducible first | exact HB.out | apply below_alloc | apply pw_below_drewN | apply below_drew1) | exact HB.out)) hb); have n1_ := Aside0.mk (hbox); have n2_ := Aside0.mk ((by rw [hg]; exact (below_size (by repeat (first | (with_reducible first | exact HB.out | apply below_alloc | apply pw_below_drewN | apply below_drew1) | exact HB.out))) : w.heap.size ≤ gb104)); have n3_ := Aside0.mk ((by rw [hg]; exact (below_size (by repeat (first | (with_reducible first | exact HB.out | apply below_alloc | apply pw_below_drewN | apply below_drew1) | exact HB.out))) : w.heap.size ≤ gb104)); clear HB; have HB := n0_; have BK104 := n1_; have GW104 := n2_; have GE104 := n3_; clear n0_ n1_ n2_ n3_; clear hb hbox hg) | ((with_reducible refine gate_callee (f := 57) rfl ?_); refine goesL_ (some 10) rfl rfl Try.func57 (by kernel_rfl) rfl #[] rfl (by (try simp only [List.map_toArray, List.map_cons, List.map_nil]); first | done | rfl | (simp only [List.length_drop, List.length_take]; rfl)) ?_; (with_reducible refine (kinds_rows.calls  t105 _ A8.out).mono ?_); rintro e w13 ⟨v106, rfl, ho0, hb⟩; refine ⟨_, rfl, ?_⟩; have n0_ := Aside0.mk (Kd.R_lower (Kd.R_newB ho0 (g := gb104) (o := .cells #[.string (⟨#[]⟩ : ByteArray), .string (⟨#[]⟩ : ByteArray), .int .i64 0, .int .i64 0] 68 (0, 0)) (by (with_reducible repeat (first | refine blk_drewN ?_ _ | refine blk_drew ?_ | refine blk_alloc ?_ _)); exact BK104.out)) (below_size (by repeat (first | (with_reducible first | exact HB.out | apply below_alloc | apply pw_below_drewN | apply below_drew1 | refine below_set ?_ GE104.out) | exact HB.out)))); have n1_ := Aside0.mk (blk_below (g := gb104) (o := .cells #[.string (⟨#[]⟩ : ByteArray), .string (⟨#[]⟩ : ByteArray), .int .i64 0, .int .i64 0] 68 (0, 0)) (by (with_reducible repeat (first | refine blk_drewN ?_ _ | refine blk_drew ?_ | refine blk_alloc ?_ _)); exact BK104.out) hb); have n2_ := Aside0.mk (below_step (by repeat (first | (with_reducible first | exact HB.out | apply below_alloc | apply pw_below_drewN | apply below_drew1 | refine below_set ?_ GE104.out) | exact HB.out)) hb); clear BK104; clear HB; have HO107 := n0_; have BK104 := n1_; have HB := n2_; clear n0_ n1_ n2_; (try clear hb); (try clear hb2); (try clear hk); (try clear hi); (try clear ho0); obtain ⟨Ao14, co14, eo14⟩ := Kd.R_slice HO107.out; subst eo14; have p108 : 0 ≤ ((ji9) : Int) := of_decide_eq_true (by first | (with_reducible assumption) | assumption); have q108 : (ji9) < (t105.length : Int) := of_decide_eq_true (by first | (with_reducible assumption) | assumption); obtain ⟨ad108, e108, hx108_0, hx108_1, hx108_2, hx108_3⟩ := at_T68 (Kd.R_reads' HO107.out).2.2 (ji9) p108 q108; cases e108; replace p108 := eq_true p108; replace q108 := eq_true q108; have hcz15_0 : w13.cell? ⟨gb104, 0, none⟩ = some (.string (⟨#[]⟩ : ByteArray)) := (blk_cell BK104.out 0).trans rfl; have hcz15_1 : w13.cell? ⟨gb104, 1, none⟩ = some (.string (⟨#[]⟩ : ByteArray)) := (blk_cell BK104.out 1).trans rfl; have hcz15_2 : w13.cell? ⟨gb104, 2, none⟩ = some (.int .i64 0) := (blk_cell BK104.out 2).trans rfl; have hcz15_3 : w13.cell? ⟨gb104, 3, none⟩ = some (.int .i64 0) := (blk_cell BK104.out 3).trans rfl; have hfz15_0 := blk_frozen BK104.out 0; have hfz15_1 := blk_frozen BK104.out 1; have hfz15_2 := blk_frozen BK104.out 2; have hfz15_3 := blk_frozen BK104.out 3))
          refine bodyPost_ret (results_cell_row rfl _ _ gb104 68 #[.string ((rd_T68 t105 (ji9)).f0), .string ((rd_T68 t105 (ji9)).f1), .int .i64 ((rd_T68 t105 (ji9)).f2), .int .i64 ((rd_T68 t105 (ji9)).f3)] (0, 0) _ rfl (by (with_reducible repeat (first | refine blk_drewN ?_ _ | refine blk_drew ?_ | refine blk_alloc ?_ _)); refine blk_put (cs := #[.string ((rd_T68 t105 (ji9)).f0), .string ((rd_T68 t105 (ji9)).f1), .int .i64 ((rd_T68 t105 (ji9)).f2), .int .i64 0]) ?_ 3 _ rfl; (with_reducible repeat (first | refine blk_drewN ?_ _ | refine blk_drew ?_ | refine blk_alloc ?_ _)); refine blk_put (cs := #[.string ((rd_T68 t105 (ji9)).f0), .string ((rd_T68 t105 (ji9)).f1), .int .i64 0, .int .i64 0]) ?_ 2 _ rfl; (with_reducible repeat (first | refine blk_drewN ?_ _ | refine blk_drew ?_ | refine blk_alloc ?_ _)); refine blk_put (cs := #[.string ((rd_T68 t105 (ji9)).f0), .string (⟨#[]⟩ : ByteArray), .int .i64 0, .int .i64 0]) ?_ 1 _ rfl; (with_reducible repeat (first | refine blk_drewN ?_ _ | refine blk_drew ?_ | refine blk_alloc ?_ _)); refine blk_put (cs := #[.string (⟨#[]⟩ : ByteArray), .string (⟨#[]⟩ : ByteArray), .int .i64 0, .int .i64 0]) ?_ 0 _ rfl; (with_reducible repeat (first | refine blk_drewN ?_ _ | refine blk_drew ?_ | refine blk_alloc ?_ _)); exact BK104.out) Try.underlying68 rfl (by kernel_rfl)) rfl ?_
          exact ⟨by first | rfl | (simp [errW_none, errW_some] <;> rfl) | (simp only [← hji9]; first | rfl | (simp [errW_none, errW_some] <;> rfl)) | (simp [*, errW_none, errW_some] <;> rfl), by repeat (first | (with_reducible first | exact HB.out | apply below_alloc | apply pw_below_drewN | apply below_drew1 | refine below_set ?_ GE104.out) | exact HB.out)⟩
        · rw [if_neg c11] at H
          exact absurd H (by simp)
      · rw [if_neg c10] at H
        exact absurd H (by simp)

/-! ### kinds_parts: function 41 -/
def kinds_parts.l0 : Nat → Int → List Bool → Int → Int → Option (Int)
  | 0, _, _, _, _ => none
  | k + 1, x3, x41, x42, x43 => if x43 < x42 then (if 0 ≤ x43 then (if x43 < (x41.length : Int) then (if rdOf false x41 x43 = true then (kinds_parts.l0 k (Go.bits .or .i64 x3 (shl .i64 1 x43)) x41 x42 (wrap64 (x43 + 1))) else (kinds_parts.l0 k x3 x41 x42 (wrap64 (x43 + 1)))) else (none)) else (none)) else (some x3)
def kinds_parts.f (k : Nat) (a0_0 : Int) (a0_1 : Int) (a0_2 : ByteArray) (a0_3 : ByteArray) (a0_4 : ByteArray) (a0_5 : ByteArray) (a0_6 : Int) (a0_7 : ByteArray) (a0_8 : ByteArray) (a0_9 : ByteArray) (a0_10 : ByteArray) (a0_11 : Int) (a0_12 : ByteArray) (a0_13 : ByteArray) (a0_14 : Int) (a0_15 : ByteArray) (l0_16 : List (S51)) (a0_17 : ByteArray) (a0_18 : ByteArray) (l0_19 : List (S53)) (l0_20 : List (S55)) : Option (Int) := (some (([(a0_4.toList != ([] : List UInt8)), (a0_5.toList != ([] : List UInt8)), (a0_7.toList != ([] : List UInt8)), (a0_8.toList != ([] : List UInt8)), (a0_9.toList != ([] : List UInt8)), (a0_10.toList != ([] : List UInt8)), (a0_11 != 0), (a0_12.toList != ([] : List UInt8)), (a0_13.toList != ([] : List UInt8)), (a0_15.toList != ([] : List UInt8)), decide ((l0_16.length : Int) > 0)] : List Bool) : List Bool)).bind fun y110 => (kinds_parts.l0 k 0 y110 (y110.length : Int) 0)
theorem kinds_parts.mono_l : ∀ k, (∀ y0 y1 y2 y3, LeO (kinds_parts.l0 k y0 y1 y2 y3) (kinds_parts.l0 (k + 1) y0 y1 y2 y3))
  | 0 => fun _ _ _ _ r h => by simp [kinds_parts.l0] at h
  | k + 1 => by
    have ih0 := kinds_parts.mono_l k
    · intro y0 y1 y2 y3
      unfold kinds_parts.l0
      repeat' first
      | (with_reducible exact ih0 _ _ _ _)
      | (with_reducible exact LeO.refl _)
      | (with_reducible exact LeO.none _)
      | (with_reducible refine LeO.ite ?_ ?_)
      | (with_reducible refine LeO.bind ?_ (fun _ => ?_))
      | exact ih0 _ _ _ _
      | exact LeO.none _
      | refine LeO.ite ?_ ?_
      | refine LeO.bind ?_ (fun _ => ?_)
theorem kinds_parts.mono : ∀ a0 a1 a2 a3 a4 a5 a6 a7 a8 a9 a10 a11 a12 a13 a14 a15 a16 a17 a18 a19 a20 k, LeO (kinds_parts.f k a0 a1 a2 a3 a4 a5 a6 a7 a8 a9 a10 a11 a12 a13 a14 a15 a16 a17 a18 a19 a20) (kinds_parts.f (k + 1) a0 a1 a2 a3 a4 a5 a6 a7 a8 a9 a10 a11 a12 a13 a14 a15 a16 a17 a18 a19 a20) := by
  intro a0 a1 a2 a3 a4 a5 a6 a7 a8 a9 a10 a11 a12 a13 a14 a15 a16 a17 a18 a19 a20 k
  have ih0 := kinds_parts.mono_l k
  unfold kinds_parts.f
  repeat' first
      | (with_reducible exact ih0 _ _ _ _)
      | (with_reducible exact LeO.refl _)
      | (with_reducible exact LeO.none _)
      | (with_reducible refine LeO.ite ?_ ?_)
      | (with_reducible refine LeO.bind ?_ (fun _ => ?_))
      | exact ih0 _ _ _ _
      | exact LeO.none _
      | refine LeO.ite ?_ ?_
      | refine LeO.bind ?_ (fun _ => ?_)
set_option maxHeartbeats 8000000 in
set_option maxRecDepth 100000 in
theorem kinds_parts.calls (k : Nat) (a0_0 : Int) (a0_1 : Int) (a0_2 : ByteArray) (a0_3 : ByteArray) (a0_4 : ByteArray) (a0_5 : ByteArray) (a0_6 : Int) (a0_7 : ByteArray) (a0_8 : ByteArray) (a0_9 : ByteArray) (a0_10 : ByteArray) (a0_11 : Int) (a0_12 : ByteArray) (a0_13 : ByteArray) (a0_14 : Int) (a0_15 : ByteArray) (A0_16 : Option Addr) (c0_16 : Nat) (l0_16 : List (S51)) (a0_17 : ByteArray) (a0_18 : ByteArray) (A0_19 : Option Addr) (c0_19 : Nat) (l0_19 : List (S53)) (A0_20 : Option Addr) (c0_20 : Nat) (l0_20 : List (S55)) (r : Int) (w : World) (hr0_16 : Kd.C k51 w A0_16 l0_16.length l0_16) (hc0_16 : l0_16.length ≤ c0_16) (hr0_19 : Kd.C k53 w A0_19 l0_19.length l0_19) (hc0_19 : l0_19.length ≤ c0_19) (hr0_20 : Kd.C k55 w A0_20 l0_20.length l0_20) (hc0_20 : l0_20.length ≤ c0_20) (h : kinds_parts.f k a0_0 a0_1 a0_2 a0_3 a0_4 a0_5 a0_6 a0_7 a0_8 a0_9 a0_10 a0_11 a0_12 a0_13 a0_14 a0_15 l0_16 a0_17 a0_18 l0_19 l0_20 = some r) :
    Calls Try.prog 41 #[.agg #[.int .i64 a0_0, .int .i64 a0_1, .string a0_2, .string a0_3, .string a0_4, .string a0_5, .int .u64 a0_6, .string a0_7, .string a0_8, .string a0_9, .string a0_10, .int .i64 a0_11, .string a0_12, .string a0_13, .int .i64 a0_14, .string a0_15, .slice A0_16 l0_16.length c0_16, .string a0_17, .string a0_18, .slice A0_19 l0_19.length c0_19, .slice A0_20 l0_20.length c0_20]] w fun e w' => e = .returned (.int .i64 r) ∧ Below w.heap.size w w' := by
  have hu29 := Try.underlying29
  have hu24 := Try.underlying24
  have HR0_16 := Aside0.mk hr0_16
  have HC0_16 := Aside0.mk hc0_16
  clear hr0_16 hc0_16
  have HR0_19 := Aside0.mk hr0_19
  have HC0_19 := Aside0.mk hc0_19
  clear hr0_19 hc0_19
  have HR0_20 := Aside0.mk hr0_20
  have HC0_20 := Aside0.mk hc0_20
  clear hr0_20 hc0_20
  have HB := Aside0.mk (Below.refl w.heap.size w)
  have H : ((some (([(a0_4.toList != ([] : List UInt8)), (a0_5.toList != ([] : List UInt8)), (a0_7.toList != ([] : List UInt8)), (a0_8.toList != ([] : List UInt8)), (a0_9.toList != ([] : List UInt8)), (a0_10.toList != ([] : List UInt8)), (a0_11 != 0), (a0_12.toList != ([] : List UInt8)), (a0_13.toList != ([] : List UInt8)), (a0_15.toList != ([] : List UInt8)), decide ((l0_16.length : Int) > 0)] : List Bool) : List Bool)).bind fun y110 => (kinds_parts.l0 k 0 y110 (y110.length : Int) 0)) = some r := h
  clear h
  obtain ⟨y110, hy110⟩ : ∃ y_ : List Bool, y_ = (([(a0_4.toList != ([] : List UInt8)), (a0_5.toList != ([] : List UInt8)), (a0_7.toList != ([] : List UInt8)), (a0_8.toList != ([] : List UInt8)), (a0_9.toList != ([] : List UInt8)), (a0_10.toList != ([] : List UInt8)), (a0_11 != 0), (a0_12.toList != ([] : List UInt8)), (a0_13.toList != ([] : List UInt8)), (a0_15.toList != ([] : List UInt8)), decide ((l0_16.length : Int) > 0)] : List Bool)) := ⟨_, rfl⟩
  replace H : (kinds_parts.l0 k 0 y110 (y110.length : Int) 0) = some r := by first | (rw [hy110]; with_reducible exact H) | (have H2_ := (Option.bind_some _ _).symm.trans H; rw [hy110]; with_reducible exact H2_) | (have H2_ := (Option.bind_some _ _).symm.trans H; with_reducible exact H2_) | with_reducible exact H | (rw [hy110]; exact H) | exact H
  have Ny110 := Aside0.mk hy110
  clear hy110
  have H' := Aside0.mk H
  clear H
  go_enter Try.func41, Try.ntmps41
  go_wp2_with (first | ((with_reducible refine gate_dst (N := 1) rfl ?_); refine box_event ?hg (N := 1) ?hd (cs := #[.int .i64 a0_0, .int .i64 a0_1, .string a0_2, .string a0_3, .string a0_4, .string a0_5, .int .u64 a0_6, .string a0_7, .string a0_8, .string a0_9, .string a0_10, .int .i64 a0_11, .string a0_12, .string a0_13, .int .i64 a0_14, .string a0_15, .slice A0_16 l0_16.length c0_16, .string a0_17, .string a0_18, .slice A0_19 l0_19.length c0_19, .slice A0_20 l0_20.length c0_20]) (t := 29) ?hr ?_; (case hd => rfl); (case hg => rfl); (case hr => first | (go_simp; done) | (go_simp; rfl) | (go_simp; simp only [show ∀ l_ : List UInt8, (l_ != []) = !l_.isEmpty from fun l_ => by cases l_ <;> rfl]; done)); intro gb109 hg w2 hbox hb; have n0_ := Aside0.mk (below_step (by repeat (first | (with_reducible first | exact HB.out | apply below_alloc | apply pw_below_drewN | apply below_drew1) | exact HB.out)) hb); have n1_ := Aside0.mk (hbox); have n2_ := Aside0.mk ((by rw [hg]; exact (below_size (by repeat (first | (with_reducible first | exact HB.out | apply below_alloc | apply pw_below_drewN | apply below_drew1) | exact HB.out))) : w.heap.size ≤ gb109)); have n3_ := Aside0.mk ((by rw [hg]; exact (below_size (by repeat (first | (with_reducible first | exact HB.out | apply below_alloc | apply pw_below_drewN | apply below_drew1) | exact HB.out))) : w.heap.size ≤ gb109)); clear HB; have HB := n0_; have BK109 := n1_; have GW109 := n2_; have GE109 := n3_; clear n0_ n1_ n2_ n3_; clear hb hbox hg; have hcz3_0 : w2.cell? ⟨gb109, 0, none⟩ = some (.int .i64 a0_0) := (blk_cell BK109.out 0).trans rfl; have hcz3_1 : w2.cell? ⟨gb109, 1, none⟩ = some (.int .i64 a0_1) := (blk_cell BK109.out 1).trans rfl; have hcz3_2 : w2.cell? ⟨gb109, 2, none⟩ = some (.string a0_2) := (blk_cell BK109.out 2).trans rfl; have hcz3_3 : w2.cell? ⟨gb109, 3, none⟩ = some (.string a0_3) := (blk_cell BK109.out 3).trans rfl; have hcz3_4 : w2.cell? ⟨gb109, 4, none⟩ = some (.string a0_4) := (blk_cell BK109.out 4).trans rfl; have hcz3_5 : w2.cell? ⟨gb109, 5, none⟩ = some (.string a0_5) := (blk_cell BK109.out 5).trans rfl; have hcz3_6 : w2.cell? ⟨gb109, 6, none⟩ = some (.int .u64 a0_6) := (blk_cell BK109.out 6).trans rfl; have hcz3_7 : w2.cell? ⟨gb109, 7, none⟩ = some (.string a0_7) := (blk_cell BK109.out 7).trans rfl; have hcz3_8 : w2.cell? ⟨gb109, 8, none⟩ = some (.string a0_8) := (blk_cell BK109.out 8).trans rfl; have hcz3_9 : w2.cell? ⟨gb109, 9, none⟩ = some (.string a0_9) := (blk_cell BK109.out 9).trans rfl; have hcz3_10 : w2.cell? ⟨gb109, 10, none⟩ = some (.string a0_10) := (blk_cell BK109.out 10).trans rfl; have hcz3_11 : w2.cell? ⟨gb109, 11, none⟩ = some (.int .i64 a0_11) := (blk_cell BK109.out 11).trans rfl; have hcz3_12 : w2.cell? ⟨gb109, 12, none⟩ = some (.string a0_12) := (blk_cell BK109.out 12).trans rfl; have hcz3_13 : w2.cell? ⟨gb109, 13, none⟩ = some (.string a0_13) := (blk_cell BK109.out 13).trans rfl; have hcz3_14 : w2.cell? ⟨gb109, 14, none⟩ = some (.int .i64 a0_14) := (blk_cell BK109.out 14).trans rfl; have hcz3_15 : w2.cell? ⟨gb109, 15, none⟩ = some (.string a0_15) := (blk_cell BK109.out 15).trans rfl; have hcz3_16 : w2.cell? ⟨gb109, 16, none⟩ = some (.slice A0_16 l0_16.length c0_16) := (blk_cell BK109.out 16).trans rfl; have hcz3_17 : w2.cell? ⟨gb109, 17, none⟩ = some (.string a0_17) := (blk_cell BK109.out 17).trans rfl; have hcz3_18 : w2.cell? ⟨gb109, 18, none⟩ = some (.string a0_18) := (blk_cell BK109.out 18).trans rfl; have hcz3_19 : w2.cell? ⟨gb109, 19, none⟩ = some (.slice A0_19 l0_19.length c0_19) := (blk_cell BK109.out 19).trans rfl; have hcz3_20 : w2.cell? ⟨gb109, 20, none⟩ = some (.slice A0_20 l0_20.length c0_20) := (blk_cell BK109.out 20).trans rfl; have hfz3_0 := blk_frozen BK109.out 0; have hfz3_1 := blk_frozen BK109.out 1; have hfz3_2 := blk_frozen BK109.out 2; have hfz3_3 := blk_frozen BK109.out 3; have hfz3_4 := blk_frozen BK109.out 4; have hfz3_5 := blk_frozen BK109.out 5; have hfz3_6 := blk_frozen BK109.out 6; have hfz3_7 := blk_frozen BK109.out 7; have hfz3_8 := blk_frozen BK109.out 8; have hfz3_9 := blk_frozen BK109.out 9; have hfz3_10 := blk_frozen BK109.out 10; have hfz3_11 := blk_frozen BK109.out 11; have hfz3_12 := blk_frozen BK109.out 12; have hfz3_13 := blk_frozen BK109.out 13; have hfz3_14 := blk_frozen BK109.out 14; have hfz3_15 := blk_frozen BK109.out 15; have hfz3_16 := blk_frozen BK109.out 16; have hfz3_17 := blk_frozen BK109.out 17; have hfz3_18 := blk_frozen BK109.out 18; have hfz3_19 := blk_frozen BK109.out 19; have hfz3_20 := blk_frozen BK109.out 20) | ((with_reducible refine gate_dst (N := 41) rfl ?_); refine Kd.R_lit Kd.bool _ 4 ?hg (N := 41) ?hd (xs := ([(a0_4.toList != ([] : List UInt8)), (a0_5.toList != ([] : List UInt8)), (a0_7.toList != ([] : List UInt8)), (a0_8.toList != ([] : List UInt8)), (a0_9.toList != ([] : List UInt8)), (a0_10.toList != ([] : List UInt8)), (a0_11 != 0), (a0_12.toList != ([] : List UInt8)), (a0_13.toList != ([] : List UInt8)), (a0_15.toList != ([] : List UInt8)), decide ((l0_16.length : Int) > 0)] : List Bool)) (inner := [.bool (a0_4.toList != ([] : List UInt8)), .bool (a0_5.toList != ([] : List UInt8)), .bool (a0_7.toList != ([] : List UInt8)), .bool (a0_8.toList != ([] : List UInt8)), .bool (a0_9.toList != ([] : List UInt8)), .bool (a0_10.toList != ([] : List UInt8)), .bool (a0_11 != 0), .bool (a0_12.toList != ([] : List UInt8)), .bool (a0_13.toList != ([] : List UInt8)), .bool (a0_15.toList != ([] : List UInt8)), .bool (decide ((l0_16.length : Int) > 0))]) (ok := fun _ => True) (okp := fun _ => True) ?hr ?hp (fun _ hk => hk) trivial (Below.refl _ _) (Nat.le_refl _) (by simp) ?_; (case hd => rfl); (case hg => rfl); (case hr => first | (go_simp; done) | (go_simp; rfl) | (go_simp; simp only [show ∀ l_ : List UInt8, (l_ != []) = !l_.isEmpty from fun l_ => by cases l_ <;> rfl]; done)); (case hp => exact (Reps.one (show Kd.M Kd.bool _ _ _ (a0_4.toList != ([] : List UInt8)) [.bool (a0_4.toList != ([] : List UInt8))] from rfl) (Reps.one (show Kd.M Kd.bool _ _ _ (a0_5.toList != ([] : List UInt8)) [.bool (a0_5.toList != ([] : List UInt8))] from rfl) (Reps.one (show Kd.M Kd.bool _ _ _ (a0_7.toList != ([] : List UInt8)) [.bool (a0_7.toList != ([] : List UInt8))] from rfl) (Reps.one (show Kd.M Kd.bool _ _ _ (a0_8.toList != ([] : List UInt8)) [.bool (a0_8.toList != ([] : List UInt8))] from rfl) (Reps.one (show Kd.M Kd.bool _ _ _ (a0_9.toList != ([] : List UInt8)) [.bool (a0_9.toList != ([] : List UInt8))] from rfl) (Reps.one (show Kd.M Kd.bool _ _ _ (a0_10.toList != ([] : List UInt8)) [.bool (a0_10.toList != ([] : List UInt8))] from rfl) (Reps.one (show Kd.M Kd.bool _ _ _ (a0_11 != 0) [.bool (a0_11 != 0)] from rfl) (Reps.one (show Kd.M Kd.bool _ _ _ (a0_12.toList != ([] : List UInt8)) [.bool (a0_12.toList != ([] : List UInt8))] from rfl) (Reps.one (show Kd.M Kd.bool _ _ _ (a0_13.toList != ([] : List UInt8)) [.bool (a0_13.toList != ([] : List UInt8))] from rfl) (Reps.one (show Kd.M Kd.bool _ _ _ (a0_15.toList != ([] : List UInt8)) [.bool (a0_15.toList != ([] : List UInt8))] from rfl) (Reps.one (show Kd.M Kd.bool _ _ _ (decide ((l0_16.length : Int) > 0)) [.bool (decide ((l0_16.length : Int) > 0))] from rfl) (Reps.none _ _))))))))))))); intro v111 w4 ho5 hb hg_ hnew_; clear hg_ hnew_; (first | rw [← Ny110.out] at ho5 | (simp only [Int.reduceToNat] at ho5; rw [← Ny110.out] at ho5)); have n0_ := Aside0.mk (Kd.R_lower ho5 (below_size (by repeat (first | (with_reducible first | exact HB.out | apply below_alloc | apply pw_below_drewN | apply below_drew1 | refine below_set ?_ GE109.out) | exact HB.out)))); have n1_ := Aside0.mk (blk_below (g := gb109) (o := .cells #[.int .i64 a0_0, .int .i64 a0_1, .string a0_2, .string a0_3, .string a0_4, .string a0_5, .int .u64 a0_6, .string a0_7, .string a0_8, .string a0_9, .string a0_10, .int .i64 a0_11, .string a0_12, .string a0_13, .int .i64 a0_14, .string a0_15, .slice A0_16 l0_16.length c0_16, .string a0_17, .string a0_18, .slice A0_19 l0_19.length c0_19, .slice A0_20 l0_20.length c0_20] 29 (0, 0)) (by (with_reducible repeat (first | refine blk_drewN ?_ _ | refine blk_drew ?_ | refine blk_alloc ?_ _)); exact BK109.out) hb); have n2_ := Aside0.mk (below_step (by repeat (first | (with_reducible first | exact HB.out | apply below_alloc | apply pw_below_drewN | apply below_drew1 | refine below_set ?_ GE109.out) | exact HB.out)) hb); clear BK109; clear HB; have HO112 := n0_; have BK109 := n1_; have HB := n2_; clear n0_ n1_ n2_; clear hb ho5; obtain ⟨Ao6, co6, eo6⟩ := Kd.R_slice HO112.out; subst eo6))
  go_loopg [3, 43] k (fun kq v3 v43 w' => ∃ (x3_1 : Int) (x43_1 : Int), v3 = .int .i64 x3_1 ∧ v43 = .int .i64 x43_1 ∧ Aside0 (kinds_parts.l0 kq x3_1 y110 (y110.length : Int) x43_1 = some r) ∧ Aside0 (kq ≤ k) ∧ Aside0 (Kd.R Kd.bool 4 w' w.heap.size (fun _ => True) (.slice Ao6 y110.length co6) y110) ∧ Aside0 (w'.heap[gb109]? = some (.cells #[.int .i64 a0_0, .int .i64 a0_1, .string a0_2, .string a0_3, .string a0_4, .string a0_5, .int .u64 a0_6, .string a0_7, .string a0_8, .string a0_9, .string a0_10, .int .i64 a0_11, .string a0_12, .string a0_13, .int .i64 a0_14, .string a0_15, (.slice A0_16 l0_16.length c0_16), .string a0_17, .string a0_18, (.slice A0_19 l0_19.length c0_19), (.slice A0_20 l0_20.length c0_20)] 29 (0, 0))) ∧ Aside0 (Below w.heap.size w w'))
  case atStart => exact ⟨(0), (0), (by first | rfl | (simp; done) | (simp [*]; done)), (by first | rfl | (simp; done) | (simp [*]; done)), H', ⟨Nat.le_refl _⟩, ⟨by (with_reducible repeat (first | apply Kd.R_alloc | apply Kd.R_drewN | apply Kd.R_drew)); exact HO112.out⟩, ⟨by (with_reducible repeat (first | refine blk_drewN ?_ _ | refine blk_drew ?_ | refine blk_alloc ?_ _)); exact BK109.out⟩, ⟨by repeat (first | (with_reducible first | exact HB.out | apply below_alloc | apply pw_below_drewN | apply below_drew1 | refine below_set ?_ GE109.out) | exact HB.out)⟩⟩
  case round =>
    clear H'
    try clear p2
    try clear c4
    try clear hcz3_0
    try clear hcz3_1
    try clear hcz3_10
    try clear hcz3_11
    try clear hcz3_12
    try clear hcz3_13
    try clear hcz3_14
    try clear hcz3_15
    try clear hcz3_16
    try clear hcz3_17
    try clear hcz3_18
    try clear hcz3_19
    try clear hcz3_2
    try clear hcz3_20
    try clear hcz3_3
    try clear hcz3_4
    try clear hcz3_5
    try clear hcz3_6
    try clear hcz3_7
    try clear hcz3_8
    try clear hcz3_9
    try clear hfz3_0
    try clear hfz3_1
    try clear hfz3_10
    try clear hfz3_11
    try clear hfz3_12
    try clear hfz3_13
    try clear hfz3_14
    try clear hfz3_15
    try clear hfz3_16
    try clear hfz3_17
    try clear hfz3_18
    try clear hfz3_19
    try clear hfz3_2
    try clear hfz3_20
    try clear hfz3_3
    try clear hfz3_4
    try clear hfz3_5
    try clear hfz3_6
    try clear hfz3_7
    try clear hfz3_8
    try clear hfz3_9
    obtain ⟨x3_1, x43_1, rfl, rfl, HA, HK1, HO_41, BK109, HB⟩ := hrel
    cases gk with
    | zero => exact absurd HA.out (by simp [kinds_parts.l0])
    | succ k1 =>
      have H := HA.out
      clear HA
      simp only [kinds_parts.l0] at H
      by_cases c7 : x43_1 < (y110.length : Int)
      · rw [if_pos c7] at H
        have c7b0 : decide (x43_1 < (y110.length : Int)) = true := decide_eq_true c7
        clear c7
        by_cases c8 : 0 ≤ x43_1
        · rw [if_pos c8] at H
          have c8b0 : decide (0 ≤ x43_1) = true := decide_eq_true c8
          clear c8
          by_cases c9 : x43_1 < (y110.length : Int)
          · rw [if_pos c9] at H
            have c9b0 : decide (x43_1 < (y110.length : Int)) = true := decide_eq_true c9
            clear c9
            obtain ⟨bq10, hbq10⟩ : ∃ b_ : Bool, b_ = (rdOf false y110 x43_1) := ⟨_, rfl⟩
            replace H : (if bq10 = true then (kinds_parts.l0 k1 (Go.bits .or .i64 x3_1 (shl .i64 1 x43_1)) y110 (y110.length : Int) (wrap64 (x43_1 + 1))) else (kinds_parts.l0 k1 x3_1 y110 (y110.length : Int) (wrap64 (x43_1 + 1)))) = some r := by rw [← hbq10] at H; exact H
            have Nbq10 := Aside0.mk hbq10
            clear hbq10
            by_cases c11 : bq10 = true
            · subst c11
              have H1 : (kinds_parts.l0 k1 (Go.bits .or .i64 x3_1 (shl .i64 1 x43_1)) y110 (y110.length : Int) (wrap64 (x43_1 + 1))) = some r := by rw [if_pos rfl] at H; exact H
              clear H
              have H := H1
              clear H1
              have c12b0 := eq_true (of_decide_eq_true (by first | (with_reducible assumption) | assumption) : 0 ≤ x43_1)
              obtain ⟨ji13, hji13⟩ : ∃ j_ : Int, (shl .i64 1 x43_1) = j_ := ⟨_, rfl⟩
              replace H : (kinds_parts.l0 k1 (Go.bits .or .i64 x3_1 (ji13)) y110 (y110.length : Int) (wrap64 (x43_1 + 1))) = some r := by first | (rw [hji13] at H; exact H) | (simp only [hji13] at H ⊢; exact H)
              have hji13_ : (IntKind.i64.wrap (1 * 2 ^ min x43_1.toNat 64)) = ji13 := hji13
              have hji13z : x43_1 ≤ 64 → (IntKind.i64.wrap (1 * 2 ^ x43_1.toNat)) = ji13 := shl_small hji13
              have hji13u : (IntKind.i64.wrap (2 ^ min x43_1.toNat 64)) = ji13 := by have h_ := hji13_; rw [Int.one_mul] at h_; exact h_
              have hji13v : x43_1 ≤ 64 → (IntKind.i64.wrap (2 ^ x43_1.toNat)) = ji13 := fun hle_ => by have h_ := hji13z hle_; rw [Int.one_mul] at h_; exact h_
              have hji13y : (wrap64 (1 * 2 ^ min x43_1.toNat 64)) = ji13 := (i64_w _).symm.trans hji13_
              have hji13x : x43_1 ≤ 64 → (wrap64 (1 * 2 ^ x43_1.toNat)) = ji13 := fun h_ => (i64_w _).symm.trans (hji13z h_)
              have H' := Aside0.mk H
              clear H
              have p113 : 0 ≤ (x43_1 : Int) := of_decide_eq_true (by first | (with_reducible assumption) | assumption)
              have q113 : x43_1 < (y110.length : Int) := of_decide_eq_true (by first | (with_reducible assumption) | assumption)
              obtain ⟨ad113, e113, hx113_0⟩ := Kd.at_bool (Kd.R_reads' HO_41.out).2.2 x43_1 p113 q113
              (try rw [← Nbq10.out] at hx113_0)
              cases e113
              replace p113 := eq_true p113
              replace q113 := eq_true q113
              go_wp2
              go_roundg k1
              case measure => have := HK1.out; omega
              case rel => exact ⟨(Go.bits .or .i64 x3_1 (ji13)), (wrap64 (x43_1 + 1)), (by first | rfl | (simp; done) | (simp only [← hji13] <;> (first | rfl | simp)) | (simp [*]; done)), (by first | rfl | (simp; done) | (simp [*]; done)), H', ⟨by have := HK1.out; omega⟩, ⟨by (with_reducible repeat (first | apply Kd.R_alloc | apply Kd.R_drewN | apply Kd.R_drew)); exact HO_41.out⟩, ⟨by (with_reducible repeat (first | refine blk_drewN ?_ _ | refine blk_drew ?_ | refine blk_alloc ?_ _)); exact BK109.out⟩, ⟨by repeat (first | (with_reducible first | exact HB.out | apply below_alloc | apply pw_below_drewN | apply below_drew1 | refine below_set ?_ GE109.out) | exact HB.out)⟩⟩
            · replace c11 := Bool.eq_false_iff.mpr c11
              subst c11
              have H1 : (kinds_parts.l0 k1 x3_1 y110 (y110.length : Int) (wrap64 (x43_1 + 1))) = some r := by rw [if_neg (show ¬ (false = true) by decide)] at H; exact H
              clear H
              have H := H1
              clear H1
              have H' := Aside0.mk H
              clear H
              have p113 : 0 ≤ (x43_1 : Int) := of_decide_eq_true (by first | (with_reducible assumption) | assumption)
              have q113 : x43_1 < (y110.length : Int) := of_decide_eq_true (by first | (with_reducible assumption) | assumption)
              obtain ⟨ad113, e113, hx113_0⟩ := Kd.at_bool (Kd.R_reads' HO_41.out).2.2 x43_1 p113 q113
              (try rw [← Nbq10.out] at hx113_0)
              cases e113
              replace p113 := eq_true p113
              replace q113 := eq_true q113
              go_wp2
              go_roundg k1
              case measure => have := HK1.out; omega
              case rel => exact ⟨(x3_1), (wrap64 (x43_1 + 1)), (by first | rfl | (simp; done) | (simp [*]; done)), (by first | rfl | (simp; done) | (simp [*]; done)), H', ⟨by have := HK1.out; omega⟩, ⟨by (with_reducible repeat (first | apply Kd.R_alloc | apply Kd.R_drewN | apply Kd.R_drew)); exact HO_41.out⟩, ⟨by (with_reducible repeat (first | refine blk_drewN ?_ _ | refine blk_drew ?_ | refine blk_alloc ?_ _)); exact BK109.out⟩, ⟨by repeat (first | (with_reducible first | exact HB.out | apply below_alloc | apply pw_below_drewN | apply below_drew1 | refine below_set ?_ GE109.out) | exact HB.out)⟩⟩
          · rw [if_neg c9] at H
            exact absurd H (by simp)
        · rw [if_neg c8] at H
          exact absurd H (by simp)
      · rw [if_neg c7] at H
        have c7b0 : decide (x43_1 < (y110.length : Int)) = false := decide_eq_false c7
        clear c7
        obtain rfl := Option.some.inj H
        simp only [Option.some.injEq, Prod.mk.injEq] at H
        obtain ⟨rfl⟩ := H
        go_wp2
        go_ret
        exact ⟨by first | rfl | (simp [errW_none, errW_some] <;> rfl) | (simp [*, errW_none, errW_some] <;> rfl), by repeat (first | (with_reducible first | exact HB.out | apply below_alloc | apply pw_below_drewN | apply below_drew1 | refine below_set ?_ GE109.out) | exact HB.out)⟩

/-! ### kinds_Answer: function 16 -/
def kinds_Answer.f (a0 : Int) : Option (Int) := if a0 = 1 then (some (wrap64 (a0 + 1))) else (if a0 = 3 then (some (wrap64 (a0 + 1))) else (if a0 = 5 then (some (wrap64 (a0 + 1))) else (if a0 = 7 then (some (wrap64 (a0 + 1))) else (if a0 = 9 then (some (wrap64 (a0 + 1))) else (some 0)))))
set_option maxHeartbeats 8000000 in
set_option maxRecDepth 100000 in
theorem kinds_Answer.calls (a0 : Int) (r : Int) (w : World) (h : kinds_Answer.f a0 = some r) :
    Calls Try.prog 16 #[.int .i64 a0] w fun e w' => e = .returned (.int .i64 r) ∧ Drawn0 w w' := by
  have H : (if a0 = 1 then (some (wrap64 (a0 + 1))) else (if a0 = 3 then (some (wrap64 (a0 + 1))) else (if a0 = 5 then (some (wrap64 (a0 + 1))) else (if a0 = 7 then (some (wrap64 (a0 + 1))) else (if a0 = 9 then (some (wrap64 (a0 + 1))) else (some 0)))))) = some r := h
  clear h
  by_cases c2 : a0 = 1
  · rw [if_pos c2] at H
    have c2b0 : (a0 == 1) = true := beq_iff_eq.mpr c2
    have c2b1 : (a0 != 1) = false := bne_eq_false_iff_eq.mpr c2
    clear c2
    obtain rfl := Option.some.inj H
    simp only [Option.some.injEq, Prod.mk.injEq] at H
    obtain ⟨rfl⟩ := H
    go_enter Try.func16, Try.ntmps16
    go_wp2
    go_ret
    exact ⟨by first | rfl | (simp; done) | (simp [*]; done), by repeat (first | exact Drawn0.refl _ | apply Drawn0.step)⟩
  · rw [if_neg c2] at H
    have c2b0 : (a0 == 1) = false := beq_eq_false_iff_ne.mpr c2
    have c2b1 : (a0 != 1) = true := bne_iff_ne.mpr c2
    by_cases c3 : a0 = 3
    · rw [if_pos c3] at H
      have c3b0 : (a0 == 3) = true := beq_iff_eq.mpr c3
      have c3b1 : (a0 != 3) = false := bne_eq_false_iff_eq.mpr c3
      clear c3
      obtain rfl := Option.some.inj H
      simp only [Option.some.injEq, Prod.mk.injEq] at H
      obtain ⟨rfl⟩ := H
      go_enter Try.func16, Try.ntmps16
      go_wp2
      go_ret
      exact ⟨by first | rfl | (simp; done) | (simp [*]; done), by repeat (first | exact Drawn0.refl _ | apply Drawn0.step)⟩
    · rw [if_neg c3] at H
      have c3b0 : (a0 == 3) = false := beq_eq_false_iff_ne.mpr c3
      have c3b1 : (a0 != 3) = true := bne_iff_ne.mpr c3
      by_cases c4 : a0 = 5
      · rw [if_pos c4] at H
        have c4b0 : (a0 == 5) = true := beq_iff_eq.mpr c4
        have c4b1 : (a0 != 5) = false := bne_eq_false_iff_eq.mpr c4
        clear c4
        obtain rfl := Option.some.inj H
        simp only [Option.some.injEq, Prod.mk.injEq] at H
        obtain ⟨rfl⟩ := H
        go_enter Try.func16, Try.ntmps16
        go_wp2
        go_ret
        exact ⟨by first | rfl | (simp; done) | (simp [*]; done), by repeat (first | exact Drawn0.refl _ | apply Drawn0.step)⟩
      · rw [if_neg c4] at H
        have c4b0 : (a0 == 5) = false := beq_eq_false_iff_ne.mpr c4
        have c4b1 : (a0 != 5) = true := bne_iff_ne.mpr c4
        by_cases c5 : a0 = 7
        · rw [if_pos c5] at H
          have c5b0 : (a0 == 7) = true := beq_iff_eq.mpr c5
          have c5b1 : (a0 != 7) = false := bne_eq_false_iff_eq.mpr c5
          clear c5
          obtain rfl := Option.some.inj H
          simp only [Option.some.injEq, Prod.mk.injEq] at H
          obtain ⟨rfl⟩ := H
          go_enter Try.func16, Try.ntmps16
          go_wp2
          go_ret
          exact ⟨by first | rfl | (simp; done) | (simp [*]; done), by repeat (first | exact Drawn0.refl _ | apply Drawn0.step)⟩
        · rw [if_neg c5] at H
          have c5b0 : (a0 == 7) = false := beq_eq_false_iff_ne.mpr c5
          have c5b1 : (a0 != 7) = true := bne_iff_ne.mpr c5
          by_cases c6 : a0 = 9
          · rw [if_pos c6] at H
            have c6b0 : (a0 == 9) = true := beq_iff_eq.mpr c6
            have c6b1 : (a0 != 9) = false := bne_eq_false_iff_eq.mpr c6
            clear c6
            obtain rfl := Option.some.inj H
            simp only [Option.some.injEq, Prod.mk.injEq] at H
            obtain ⟨rfl⟩ := H
            go_enter Try.func16, Try.ntmps16
            go_wp2
            go_ret
            exact ⟨by first | rfl | (simp; done) | (simp [*]; done), by repeat (first | exact Drawn0.refl _ | apply Drawn0.step)⟩
          · rw [if_neg c6] at H
            have c6b0 : (a0 == 9) = false := beq_eq_false_iff_ne.mpr c6
            have c6b1 : (a0 != 9) = true := bne_iff_ne.mpr c6
            obtain rfl := Option.some.inj H
            simp only [Option.some.injEq, Prod.mk.injEq] at H
            obtain ⟨rfl⟩ := H
            go_enter Try.func16, Try.ntmps16
            go_wp2
            go_ret
            exact ⟨by first | rfl | (simp; done) | (simp [*]; done), by repeat (first | exact Drawn0.refl _ | apply Drawn0.step)⟩

/-! ### kinds_Money: function 17 -/
def kinds_Money.f (a0 : Int) : Option (Bool) := if a0 = 1 then (some true) else (some (a0 == 3))
set_option maxHeartbeats 8000000 in
set_option maxRecDepth 100000 in
theorem kinds_Money.calls (a0 : Int) (r : Bool) (w : World) (h : kinds_Money.f a0 = some r) :
    Calls Try.prog 17 #[.int .i64 a0] w fun e w' => e = .returned (.bool r) ∧ Drawn0 w w' := by
  have H : (if a0 = 1 then (some true) else (some (a0 == 3))) = some r := h
  clear h
  by_cases c2 : a0 = 1
  · rw [if_pos c2] at H
    have c2b0 : (a0 == 1) = true := beq_iff_eq.mpr c2
    have c2b1 : (a0 != 1) = false := bne_eq_false_iff_eq.mpr c2
    clear c2
    obtain rfl := Option.some.inj H
    simp only [Option.some.injEq, Prod.mk.injEq] at H
    obtain ⟨rfl⟩ := H
    go_enter Try.func17, Try.ntmps17
    go_wp2
    go_ret
    exact ⟨by first | rfl | (simp; done) | (simp [*]; done), by repeat (first | exact Drawn0.refl _ | apply Drawn0.step)⟩
  · rw [if_neg c2] at H
    have c2b0 : (a0 == 1) = false := beq_eq_false_iff_ne.mpr c2
    have c2b1 : (a0 != 1) = true := bne_iff_ne.mpr c2
    obtain rfl := Option.some.inj H
    simp only [Option.some.injEq, Prod.mk.injEq] at H
    obtain ⟨rfl⟩ := H
    go_enter Try.func17, Try.ntmps17
    go_wp2
    go_ret
    exact ⟨by first | rfl | (simp; done) | (simp [*]; done), by repeat (first | exact Drawn0.refl _ | apply Drawn0.step)⟩

/-! ### kinds_Code: function 19 -/
def kinds_Code.f (a0 : Int) : Option (ByteArray) := (kinds_of.f a0).bind fun bt114 => (some bt114.1)
set_option maxHeartbeats 8000000 in
set_option maxRecDepth 100000 in
theorem kinds_Code.calls (a0 : Int) (r : ByteArray) (w : World) (h : kinds_Code.f a0 = some r) :
    Calls Try.prog 19 #[.int .i64 a0] w fun e w' => e = .returned (.string r) ∧ Below w.heap.size w w' := by
  have hu68 := Try.underlying68
  have hfd_68_0 : ∀ (v0 v1 v2 v3 : Value) (W : World), (Instr.field 68 (.agg #[v0, v1, v2, v3]) 0).run Try.prog W = .ok v0 W := fun _ _ _ _ _ => by kernel_rfl
  have HB := Aside0.mk (Below.refl w.heap.size w)
  have H : ((kinds_of.f a0).bind fun bt114 => (some bt114.1)) = some r := h
  clear h
  replace H := Option.bind_eq_some_iff.mp H
  obtain ⟨⟨t114, t115, t116, t117⟩, A20, H⟩ := H
  replace H : (some t114) = some r := H
  have A2 := Aside0.mk A20
  clear A20
  obtain rfl := Option.some.inj H
  simp only [Option.some.injEq, Prod.mk.injEq] at H
  obtain ⟨rfl⟩ := H
  go_enter Try.func19, Try.ntmps19
  go_wp2_with (first | ((with_reducible refine gate_callee (f := 39) rfl ?_); refine goesL_ (some 4) rfl rfl Try.func39 (by kernel_rfl) rfl #[.int .i64 a0] rfl (by (try simp only [List.map_toArray, List.map_cons, List.map_nil]); first | done | rfl | (simp only [List.length_drop, List.length_take]; rfl)) ?_; (with_reducible refine (kinds_of.calls a0 t114 t115 t116 t117 _ A2.out).mono ?_); rintro e w3 ⟨rfl, hb⟩; refine ⟨_, rfl, ?_⟩; have n0_ := Aside0.mk (below_step (by repeat (first | (with_reducible first | exact HB.out | apply below_alloc | apply pw_below_drewN | apply below_drew1) | exact HB.out)) hb); clear HB; have HB := n0_; clear n0_; (try clear hb); (try clear hb2); (try clear hk); (try clear hi)))
  go_ret
  exact ⟨by first | rfl | (simp [errW_none, errW_some] <;> rfl) | (simp [*, errW_none, errW_some] <;> rfl), by repeat (first | (with_reducible first | exact HB.out | apply below_alloc | apply pw_below_drewN | apply below_drew1) | exact HB.out)⟩

-- NOT PRINTED: function 58 (kinds_row)

-- NOT PRINTED: function 45 (kinds_find)

/-! ### comptoirref07_Rows: function 13 -/
def comptoirref07_Rows.f  : Option ((List (S37))) := some (([(⟨(⟨#[]⟩ : ByteArray), (⟨#[]⟩ : ByteArray), (⟨#[]⟩ : ByteArray), (⟨#[]⟩ : ByteArray)⟩ : S37), (⟨(⟨#[65, 85, 84, 81]⟩ : ByteArray), (⟨#[50, 49, 48, 48]⟩ : ByteArray), (⟨#[80, 67, 84, 77]⟩ : ByteArray), (⟨#[82, 69, 71]⟩ : ByteArray)⟩ : S37), (⟨(⟨#[65, 85, 84, 80]⟩ : ByteArray), (⟨#[50, 49, 49, 48]⟩ : ByteArray), (⟨#[68]⟩ : ByteArray), (⟨#[80, 67, 82, 65, 71]⟩ : ByteArray)⟩ : S37), (⟨(⟨#[67, 77, 80, 86]⟩ : ByteArray), (⟨#[50, 50, 50, 48]⟩ : ByteArray), (⟨#[80, 67, 84, 77]⟩ : ByteArray), (⟨#[82, 69, 65, 79, 68]⟩ : ByteArray)⟩ : S37), (⟨(⟨#[67, 77, 80, 75]⟩ : ByteArray), (⟨#[50, 50, 51, 48]⟩ : ByteArray), (⟨#[68]⟩ : ByteArray), (⟨#[82]⟩ : ByteArray)⟩ : S37), (⟨(⟨#[82, 86, 82, 65]⟩ : ByteArray), (⟨#[50, 52, 50, 48]⟩ : ByteArray), (⟨#[80, 67, 79, 78]⟩ : ByteArray), (⟨#[82, 84, 77]⟩ : ByteArray)⟩ : S37), (⟨(⟨#[82, 86, 82, 82]⟩ : ByteArray), (⟨#[50, 52, 51, 48]⟩ : ByteArray), (⟨#[68]⟩ : ByteArray), (⟨#[82]⟩ : ByteArray)⟩ : S37), (⟨(⟨#[82, 67, 76, 81]⟩ : ByteArray), (⟨#[50, 53, 50, 48]⟩ : ByteArray), (⟨#[67]⟩ : ByteArray), (⟨#[]⟩ : ByteArray)⟩ : S37), (⟨(⟨#[82, 67, 76, 80]⟩ : ByteArray), (⟨#[50, 53, 51, 48]⟩ : ByteArray), (⟨#[68]⟩ : ByteArray), (⟨#[67]⟩ : ByteArray)⟩ : S37), (⟨(⟨#[68, 71, 78, 81]⟩ : ByteArray), (⟨#[50, 56, 48, 48]⟩ : ByteArray), (⟨#[]⟩ : ByteArray), (⟨#[]⟩ : ByteArray)⟩ : S37), (⟨(⟨#[68, 71, 78, 80]⟩ : ByteArray), (⟨#[50, 56, 49, 48]⟩ : ByteArray), (⟨#[68]⟩ : ByteArray), (⟨#[]⟩ : ByteArray)⟩ : S37), (⟨(⟨#[82, 74, 67, 84]⟩ : ByteArray), (⟨#[50, 54, 52, 52]⟩ : ByteArray), (⟨#[78]⟩ : ByteArray), (⟨#[]⟩ : ByteArray)⟩ : S37)] : List (S37)))
set_option maxHeartbeats 8000000 in
set_option maxRecDepth 100000 in
theorem comptoirref07_Rows.calls  (r : List (S37)) (w : World) (h : comptoirref07_Rows.f  = some r) :
    Calls Try.prog 13 #[] w fun e w' => ∃ v0_ : Value, e = .returned (v0_) ∧ Kd.R k37 37 w' w.heap.size (fun _ => True) v0_ r ∧ Below w.heap.size w w' := by
  have hu37 := Try.underlying37
  have HB := Aside0.mk (Below.refl w.heap.size w)
  have H : (some (([(⟨(⟨#[]⟩ : ByteArray), (⟨#[]⟩ : ByteArray), (⟨#[]⟩ : ByteArray), (⟨#[]⟩ : ByteArray)⟩ : S37), (⟨(⟨#[65, 85, 84, 81]⟩ : ByteArray), (⟨#[50, 49, 48, 48]⟩ : ByteArray), (⟨#[80, 67, 84, 77]⟩ : ByteArray), (⟨#[82, 69, 71]⟩ : ByteArray)⟩ : S37), (⟨(⟨#[65, 85, 84, 80]⟩ : ByteArray), (⟨#[50, 49, 49, 48]⟩ : ByteArray), (⟨#[68]⟩ : ByteArray), (⟨#[80, 67, 82, 65, 71]⟩ : ByteArray)⟩ : S37), (⟨(⟨#[67, 77, 80, 86]⟩ : ByteArray), (⟨#[50, 50, 50, 48]⟩ : ByteArray), (⟨#[80, 67, 84, 77]⟩ : ByteArray), (⟨#[82, 69, 65, 79, 68]⟩ : ByteArray)⟩ : S37), (⟨(⟨#[67, 77, 80, 75]⟩ : ByteArray), (⟨#[50, 50, 51, 48]⟩ : ByteArray), (⟨#[68]⟩ : ByteArray), (⟨#[82]⟩ : ByteArray)⟩ : S37), (⟨(⟨#[82, 86, 82, 65]⟩ : ByteArray), (⟨#[50, 52, 50, 48]⟩ : ByteArray), (⟨#[80, 67, 79, 78]⟩ : ByteArray), (⟨#[82, 84, 77]⟩ : ByteArray)⟩ : S37), (⟨(⟨#[82, 86, 82, 82]⟩ : ByteArray), (⟨#[50, 52, 51, 48]⟩ : ByteArray), (⟨#[68]⟩ : ByteArray), (⟨#[82]⟩ : ByteArray)⟩ : S37), (⟨(⟨#[82, 67, 76, 81]⟩ : ByteArray), (⟨#[50, 53, 50, 48]⟩ : ByteArray), (⟨#[67]⟩ : ByteArray), (⟨#[]⟩ : ByteArray)⟩ : S37), (⟨(⟨#[82, 67, 76, 80]⟩ : ByteArray), (⟨#[50, 53, 51, 48]⟩ : ByteArray), (⟨#[68]⟩ : ByteArray), (⟨#[67]⟩ : ByteArray)⟩ : S37), (⟨(⟨#[68, 71, 78, 81]⟩ : ByteArray), (⟨#[50, 56, 48, 48]⟩ : ByteArray), (⟨#[]⟩ : ByteArray), (⟨#[]⟩ : ByteArray)⟩ : S37), (⟨(⟨#[68, 71, 78, 80]⟩ : ByteArray), (⟨#[50, 56, 49, 48]⟩ : ByteArray), (⟨#[68]⟩ : ByteArray), (⟨#[]⟩ : ByteArray)⟩ : S37), (⟨(⟨#[82, 74, 67, 84]⟩ : ByteArray), (⟨#[50, 54, 52, 52]⟩ : ByteArray), (⟨#[78]⟩ : ByteArray), (⟨#[]⟩ : ByteArray)⟩ : S37)] : List (S37)))) = some r := h
  clear h
  obtain ⟨y130, hy130⟩ : ∃ y_ : List (S37), y_ = (([(⟨(⟨#[]⟩ : ByteArray), (⟨#[]⟩ : ByteArray), (⟨#[]⟩ : ByteArray), (⟨#[]⟩ : ByteArray)⟩ : S37), (⟨(⟨#[65, 85, 84, 81]⟩ : ByteArray), (⟨#[50, 49, 48, 48]⟩ : ByteArray), (⟨#[80, 67, 84, 77]⟩ : ByteArray), (⟨#[82, 69, 71]⟩ : ByteArray)⟩ : S37), (⟨(⟨#[65, 85, 84, 80]⟩ : ByteArray), (⟨#[50, 49, 49, 48]⟩ : ByteArray), (⟨#[68]⟩ : ByteArray), (⟨#[80, 67, 82, 65, 71]⟩ : ByteArray)⟩ : S37), (⟨(⟨#[67, 77, 80, 86]⟩ : ByteArray), (⟨#[50, 50, 50, 48]⟩ : ByteArray), (⟨#[80, 67, 84, 77]⟩ : ByteArray), (⟨#[82, 69, 65, 79, 68]⟩ : ByteArray)⟩ : S37), (⟨(⟨#[67, 77, 80, 75]⟩ : ByteArray), (⟨#[50, 50, 51, 48]⟩ : ByteArray), (⟨#[68]⟩ : ByteArray), (⟨#[82]⟩ : ByteArray)⟩ : S37), (⟨(⟨#[82, 86, 82, 65]⟩ : ByteArray), (⟨#[50, 52, 50, 48]⟩ : ByteArray), (⟨#[80, 67, 79, 78]⟩ : ByteArray), (⟨#[82, 84, 77]⟩ : ByteArray)⟩ : S37), (⟨(⟨#[82, 86, 82, 82]⟩ : ByteArray), (⟨#[50, 52, 51, 48]⟩ : ByteArray), (⟨#[68]⟩ : ByteArray), (⟨#[82]⟩ : ByteArray)⟩ : S37), (⟨(⟨#[82, 67, 76, 81]⟩ : ByteArray), (⟨#[50, 53, 50, 48]⟩ : ByteArray), (⟨#[67]⟩ : ByteArray), (⟨#[]⟩ : ByteArray)⟩ : S37), (⟨(⟨#[82, 67, 76, 80]⟩ : ByteArray), (⟨#[50, 53, 51, 48]⟩ : ByteArray), (⟨#[68]⟩ : ByteArray), (⟨#[67]⟩ : ByteArray)⟩ : S37), (⟨(⟨#[68, 71, 78, 81]⟩ : ByteArray), (⟨#[50, 56, 48, 48]⟩ : ByteArray), (⟨#[]⟩ : ByteArray), (⟨#[]⟩ : ByteArray)⟩ : S37), (⟨(⟨#[68, 71, 78, 80]⟩ : ByteArray), (⟨#[50, 56, 49, 48]⟩ : ByteArray), (⟨#[68]⟩ : ByteArray), (⟨#[]⟩ : ByteArray)⟩ : S37), (⟨(⟨#[82, 74, 67, 84]⟩ : ByteArray), (⟨#[50, 54, 52, 52]⟩ : ByteArray), (⟨#[78]⟩ : ByteArray), (⟨#[]⟩ : ByteArray)⟩ : S37)] : List (S37))) := ⟨_, rfl⟩
  replace H : (some y130) = some r := by first | (rw [hy130]; with_reducible exact H) | (have H2_ := (Option.bind_some _ _).symm.trans H; rw [hy130]; with_reducible exact H2_) | (have H2_ := (Option.bind_some _ _).symm.trans H; with_reducible exact H2_) | with_reducible exact H | (rw [hy130]; exact H) | exact H
  have Ny130 := Aside0.mk hy130
  clear hy130
  obtain rfl := Option.some.inj H
  simp only [Option.some.injEq, Prod.mk.injEq] at H
  obtain ⟨rfl⟩ := H
  go_enter Try.func13, Try.ntmps13
  go_wp2_with (first | ((with_reducible refine gate_dst (N := 13) rfl ?_); refine Kd.R_lit k37 _ 37 ?hg (N := 13) ?hd (xs := ([(⟨(⟨#[]⟩ : ByteArray), (⟨#[]⟩ : ByteArray), (⟨#[]⟩ : ByteArray), (⟨#[]⟩ : ByteArray)⟩ : S37), (⟨(⟨#[65, 85, 84, 81]⟩ : ByteArray), (⟨#[50, 49, 48, 48]⟩ : ByteArray), (⟨#[80, 67, 84, 77]⟩ : ByteArray), (⟨#[82, 69, 71]⟩ : ByteArray)⟩ : S37), (⟨(⟨#[65, 85, 84, 80]⟩ : ByteArray), (⟨#[50, 49, 49, 48]⟩ : ByteArray), (⟨#[68]⟩ : ByteArray), (⟨#[80, 67, 82, 65, 71]⟩ : ByteArray)⟩ : S37), (⟨(⟨#[67, 77, 80, 86]⟩ : ByteArray), (⟨#[50, 50, 50, 48]⟩ : ByteArray), (⟨#[80, 67, 84, 77]⟩ : ByteArray), (⟨#[82, 69, 65, 79, 68]⟩ : ByteArray)⟩ : S37), (⟨(⟨#[67, 77, 80, 75]⟩ : ByteArray), (⟨#[50, 50, 51, 48]⟩ : ByteArray), (⟨#[68]⟩ : ByteArray), (⟨#[82]⟩ : ByteArray)⟩ : S37), (⟨(⟨#[82, 86, 82, 65]⟩ : ByteArray), (⟨#[50, 52, 50, 48]⟩ : ByteArray), (⟨#[80, 67, 79, 78]⟩ : ByteArray), (⟨#[82, 84, 77]⟩ : ByteArray)⟩ : S37), (⟨(⟨#[82, 86, 82, 82]⟩ : ByteArray), (⟨#[50, 52, 51, 48]⟩ : ByteArray), (⟨#[68]⟩ : ByteArray), (⟨#[82]⟩ : ByteArray)⟩ : S37), (⟨(⟨#[82, 67, 76, 81]⟩ : ByteArray), (⟨#[50, 53, 50, 48]⟩ : ByteArray), (⟨#[67]⟩ : ByteArray), (⟨#[]⟩ : ByteArray)⟩ : S37), (⟨(⟨#[82, 67, 76, 80]⟩ : ByteArray), (⟨#[50, 53, 51, 48]⟩ : ByteArray), (⟨#[68]⟩ : ByteArray), (⟨#[67]⟩ : ByteArray)⟩ : S37), (⟨(⟨#[68, 71, 78, 81]⟩ : ByteArray), (⟨#[50, 56, 48, 48]⟩ : ByteArray), (⟨#[]⟩ : ByteArray), (⟨#[]⟩ : ByteArray)⟩ : S37), (⟨(⟨#[68, 71, 78, 80]⟩ : ByteArray), (⟨#[50, 56, 49, 48]⟩ : ByteArray), (⟨#[68]⟩ : ByteArray), (⟨#[]⟩ : ByteArray)⟩ : S37), (⟨(⟨#[82, 74, 67, 84]⟩ : ByteArray), (⟨#[50, 54, 52, 52]⟩ : ByteArray), (⟨#[78]⟩ : ByteArray), (⟨#[]⟩ : ByteArray)⟩ : S37)] : List (S37))) (inner := [.string (⟨#[]⟩ : ByteArray), .string (⟨#[]⟩ : ByteArray), .string (⟨#[]⟩ : ByteArray), .string (⟨#[]⟩ : ByteArray), .string (⟨#[65, 85, 84, 81]⟩ : ByteArray), .string (⟨#[50, 49, 48, 48]⟩ : ByteArray), .string (⟨#[80, 67, 84, 77]⟩ : ByteArray), .string (⟨#[82, 69, 71]⟩ : ByteArray), .string (⟨#[65, 85, 84, 80]⟩ : ByteArray), .string (⟨#[50, 49, 49, 48]⟩ : ByteArray), .string (⟨#[68]⟩ : ByteArray), .string (⟨#[80, 67, 82, 65, 71]⟩ : ByteArray), .string (⟨#[67, 77, 80, 86]⟩ : ByteArray), .string (⟨#[50, 50, 50, 48]⟩ : ByteArray), .string (⟨#[80, 67, 84, 77]⟩ : ByteArray), .string (⟨#[82, 69, 65, 79, 68]⟩ : ByteArray), .string (⟨#[67, 77, 80, 75]⟩ : ByteArray), .string (⟨#[50, 50, 51, 48]⟩ : ByteArray), .string (⟨#[68]⟩ : ByteArray), .string (⟨#[82]⟩ : ByteArray), .string (⟨#[82, 86, 82, 65]⟩ : ByteArray), .string (⟨#[50, 52, 50, 48]⟩ : ByteArray), .string (⟨#[80, 67, 79, 78]⟩ : ByteArray), .string (⟨#[82, 84, 77]⟩ : ByteArray), .string (⟨#[82, 86, 82, 82]⟩ : ByteArray), .string (⟨#[50, 52, 51, 48]⟩ : ByteArray), .string (⟨#[68]⟩ : ByteArray), .string (⟨#[82]⟩ : ByteArray), .string (⟨#[82, 67, 76, 81]⟩ : ByteArray), .string (⟨#[50, 53, 50, 48]⟩ : ByteArray), .string (⟨#[67]⟩ : ByteArray), .string (⟨#[]⟩ : ByteArray), .string (⟨#[82, 67, 76, 80]⟩ : ByteArray), .string (⟨#[50, 53, 51, 48]⟩ : ByteArray), .string (⟨#[68]⟩ : ByteArray), .string (⟨#[67]⟩ : ByteArray), .string (⟨#[68, 71, 78, 81]⟩ : ByteArray), .string (⟨#[50, 56, 48, 48]⟩ : ByteArray), .string (⟨#[]⟩ : ByteArray), .string (⟨#[]⟩ : ByteArray), .string (⟨#[68, 71, 78, 80]⟩ : ByteArray), .string (⟨#[50, 56, 49, 48]⟩ : ByteArray), .string (⟨#[68]⟩ : ByteArray), .string (⟨#[]⟩ : ByteArray), .string (⟨#[82, 74, 67, 84]⟩ : ByteArray), .string (⟨#[50, 54, 52, 52]⟩ : ByteArray), .string (⟨#[78]⟩ : ByteArray), .string (⟨#[]⟩ : ByteArray)]) (ok := fun _ => True) (okp := fun _ => True) ?hr ?hp (fun _ hk => hk) trivial (Below.refl _ _) (Nat.le_refl _) (by simp) ?_; (case hd => rfl); (case hg => rfl); (case hr => first | (go_simp; done) | (go_simp; rfl) | (go_simp; simp only [show ∀ l_ : List UInt8, (l_ != []) = !l_.isEmpty from fun l_ => by cases l_ <;> rfl]; done)); (case hp => exact (Reps.c4 (show Kd.M k37 _ _ _ (⟨(⟨#[]⟩ : ByteArray), (⟨#[]⟩ : ByteArray), (⟨#[]⟩ : ByteArray), (⟨#[]⟩ : ByteArray)⟩ : S37) [.string (⟨#[]⟩ : ByteArray), .string (⟨#[]⟩ : ByteArray), .string (⟨#[]⟩ : ByteArray), .string (⟨#[]⟩ : ByteArray)] from (k37_mkM _ _ _ (⟨(⟨#[]⟩ : ByteArray), (⟨#[]⟩ : ByteArray), (⟨#[]⟩ : ByteArray), (⟨#[]⟩ : ByteArray)⟩ : S37) )) (Reps.c4 (show Kd.M k37 _ _ _ (⟨(⟨#[65, 85, 84, 81]⟩ : ByteArray), (⟨#[50, 49, 48, 48]⟩ : ByteArray), (⟨#[80, 67, 84, 77]⟩ : ByteArray), (⟨#[82, 69, 71]⟩ : ByteArray)⟩ : S37) [.string (⟨#[65, 85, 84, 81]⟩ : ByteArray), .string (⟨#[50, 49, 48, 48]⟩ : ByteArray), .string (⟨#[80, 67, 84, 77]⟩ : ByteArray), .string (⟨#[82, 69, 71]⟩ : ByteArray)] from (k37_mkM _ _ _ (⟨(⟨#[65, 85, 84, 81]⟩ : ByteArray), (⟨#[50, 49, 48, 48]⟩ : ByteArray), (⟨#[80, 67, 84, 77]⟩ : ByteArray), (⟨#[82, 69, 71]⟩ : ByteArray)⟩ : S37) )) (Reps.c4 (show Kd.M k37 _ _ _ (⟨(⟨#[65, 85, 84, 80]⟩ : ByteArray), (⟨#[50, 49, 49, 48]⟩ : ByteArray), (⟨#[68]⟩ : ByteArray), (⟨#[80, 67, 82, 65, 71]⟩ : ByteArray)⟩ : S37) [.string (⟨#[65, 85, 84, 80]⟩ : ByteArray), .string (⟨#[50, 49, 49, 48]⟩ : ByteArray), .string (⟨#[68]⟩ : ByteArray), .string (⟨#[80, 67, 82, 65, 71]⟩ : ByteArray)] from (k37_mkM _ _ _ (⟨(⟨#[65, 85, 84, 80]⟩ : ByteArray), (⟨#[50, 49, 49, 48]⟩ : ByteArray), (⟨#[68]⟩ : ByteArray), (⟨#[80, 67, 82, 65, 71]⟩ : ByteArray)⟩ : S37) )) (Reps.c4 (show Kd.M k37 _ _ _ (⟨(⟨#[67, 77, 80, 86]⟩ : ByteArray), (⟨#[50, 50, 50, 48]⟩ : ByteArray), (⟨#[80, 67, 84, 77]⟩ : ByteArray), (⟨#[82, 69, 65, 79, 68]⟩ : ByteArray)⟩ : S37) [.string (⟨#[67, 77, 80, 86]⟩ : ByteArray), .string (⟨#[50, 50, 50, 48]⟩ : ByteArray), .string (⟨#[80, 67, 84, 77]⟩ : ByteArray), .string (⟨#[82, 69, 65, 79, 68]⟩ : ByteArray)] from (k37_mkM _ _ _ (⟨(⟨#[67, 77, 80, 86]⟩ : ByteArray), (⟨#[50, 50, 50, 48]⟩ : ByteArray), (⟨#[80, 67, 84, 77]⟩ : ByteArray), (⟨#[82, 69, 65, 79, 68]⟩ : ByteArray)⟩ : S37) )) (Reps.c4 (show Kd.M k37 _ _ _ (⟨(⟨#[67, 77, 80, 75]⟩ : ByteArray), (⟨#[50, 50, 51, 48]⟩ : ByteArray), (⟨#[68]⟩ : ByteArray), (⟨#[82]⟩ : ByteArray)⟩ : S37) [.string (⟨#[67, 77, 80, 75]⟩ : ByteArray), .string (⟨#[50, 50, 51, 48]⟩ : ByteArray), .string (⟨#[68]⟩ : ByteArray), .string (⟨#[82]⟩ : ByteArray)] from (k37_mkM _ _ _ (⟨(⟨#[67, 77, 80, 75]⟩ : ByteArray), (⟨#[50, 50, 51, 48]⟩ : ByteArray), (⟨#[68]⟩ : ByteArray), (⟨#[82]⟩ : ByteArray)⟩ : S37) )) (Reps.c4 (show Kd.M k37 _ _ _ (⟨(⟨#[82, 86, 82, 65]⟩ : ByteArray), (⟨#[50, 52, 50, 48]⟩ : ByteArray), (⟨#[80, 67, 79, 78]⟩ : ByteArray), (⟨#[82, 84, 77]⟩ : ByteArray)⟩ : S37) [.string (⟨#[82, 86, 82, 65]⟩ : ByteArray), .string (⟨#[50, 52, 50, 48]⟩ : ByteArray), .string (⟨#[80, 67, 79, 78]⟩ : ByteArray), .string (⟨#[82, 84, 77]⟩ : ByteArray)] from (k37_mkM _ _ _ (⟨(⟨#[82, 86, 82, 65]⟩ : ByteArray), (⟨#[50, 52, 50, 48]⟩ : ByteArray), (⟨#[80, 67, 79, 78]⟩ : ByteArray), (⟨#[82, 84, 77]⟩ : ByteArray)⟩ : S37) )) (Reps.c4 (show Kd.M k37 _ _ _ (⟨(⟨#[82, 86, 82, 82]⟩ : ByteArray), (⟨#[50, 52, 51, 48]⟩ : ByteArray), (⟨#[68]⟩ : ByteArray), (⟨#[82]⟩ : ByteArray)⟩ : S37) [.string (⟨#[82, 86, 82, 82]⟩ : ByteArray), .string (⟨#[50, 52, 51, 48]⟩ : ByteArray), .string (⟨#[68]⟩ : ByteArray), .string (⟨#[82]⟩ : ByteArray)] from (k37_mkM _ _ _ (⟨(⟨#[82, 86, 82, 82]⟩ : ByteArray), (⟨#[50, 52, 51, 48]⟩ : ByteArray), (⟨#[68]⟩ : ByteArray), (⟨#[82]⟩ : ByteArray)⟩ : S37) )) (Reps.c4 (show Kd.M k37 _ _ _ (⟨(⟨#[82, 67, 76, 81]⟩ : ByteArray), (⟨#[50, 53, 50, 48]⟩ : ByteArray), (⟨#[67]⟩ : ByteArray), (⟨#[]⟩ : ByteArray)⟩ : S37) [.string (⟨#[82, 67, 76, 81]⟩ : ByteArray), .string (⟨#[50, 53, 50, 48]⟩ : ByteArray), .string (⟨#[67]⟩ : ByteArray), .string (⟨#[]⟩ : ByteArray)] from (k37_mkM _ _ _ (⟨(⟨#[82, 67, 76, 81]⟩ : ByteArray), (⟨#[50, 53, 50, 48]⟩ : ByteArray), (⟨#[67]⟩ : ByteArray), (⟨#[]⟩ : ByteArray)⟩ : S37) )) (Reps.c4 (show Kd.M k37 _ _ _ (⟨(⟨#[82, 67, 76, 80]⟩ : ByteArray), (⟨#[50, 53, 51, 48]⟩ : ByteArray), (⟨#[68]⟩ : ByteArray), (⟨#[67]⟩ : ByteArray)⟩ : S37) [.string (⟨#[82, 67, 76, 80]⟩ : ByteArray), .string (⟨#[50, 53, 51, 48]⟩ : ByteArray), .string (⟨#[68]⟩ : ByteArray), .string (⟨#[67]⟩ : ByteArray)] from (k37_mkM _ _ _ (⟨(⟨#[82, 67, 76, 80]⟩ : ByteArray), (⟨#[50, 53, 51, 48]⟩ : ByteArray), (⟨#[68]⟩ : ByteArray), (⟨#[67]⟩ : ByteArray)⟩ : S37) )) (Reps.c4 (show Kd.M k37 _ _ _ (⟨(⟨#[68, 71, 78, 81]⟩ : ByteArray), (⟨#[50, 56, 48, 48]⟩ : ByteArray), (⟨#[]⟩ : ByteArray), (⟨#[]⟩ : ByteArray)⟩ : S37) [.string (⟨#[68, 71, 78, 81]⟩ : ByteArray), .string (⟨#[50, 56, 48, 48]⟩ : ByteArray), .string (⟨#[]⟩ : ByteArray), .string (⟨#[]⟩ : ByteArray)] from (k37_mkM _ _ _ (⟨(⟨#[68, 71, 78, 81]⟩ : ByteArray), (⟨#[50, 56, 48, 48]⟩ : ByteArray), (⟨#[]⟩ : ByteArray), (⟨#[]⟩ : ByteArray)⟩ : S37) )) (Reps.c4 (show Kd.M k37 _ _ _ (⟨(⟨#[68, 71, 78, 80]⟩ : ByteArray), (⟨#[50, 56, 49, 48]⟩ : ByteArray), (⟨#[68]⟩ : ByteArray), (⟨#[]⟩ : ByteArray)⟩ : S37) [.string (⟨#[68, 71, 78, 80]⟩ : ByteArray), .string (⟨#[50, 56, 49, 48]⟩ : ByteArray), .string (⟨#[68]⟩ : ByteArray), .string (⟨#[]⟩ : ByteArray)] from (k37_mkM _ _ _ (⟨(⟨#[68, 71, 78, 80]⟩ : ByteArray), (⟨#[50, 56, 49, 48]⟩ : ByteArray), (⟨#[68]⟩ : ByteArray), (⟨#[]⟩ : ByteArray)⟩ : S37) )) (Reps.c4 (show Kd.M k37 _ _ _ (⟨(⟨#[82, 74, 67, 84]⟩ : ByteArray), (⟨#[50, 54, 52, 52]⟩ : ByteArray), (⟨#[78]⟩ : ByteArray), (⟨#[]⟩ : ByteArray)⟩ : S37) [.string (⟨#[82, 74, 67, 84]⟩ : ByteArray), .string (⟨#[50, 54, 52, 52]⟩ : ByteArray), .string (⟨#[78]⟩ : ByteArray), .string (⟨#[]⟩ : ByteArray)] from (k37_mkM _ _ _ (⟨(⟨#[82, 74, 67, 84]⟩ : ByteArray), (⟨#[50, 54, 52, 52]⟩ : ByteArray), (⟨#[78]⟩ : ByteArray), (⟨#[]⟩ : ByteArray)⟩ : S37) )) (Reps.none _ _)))))))))))))); intro v131 w1 ho2 hb hg_ hnew_; clear hg_ hnew_; (first | rw [← Ny130.out] at ho2 | (simp only [Int.reduceToNat] at ho2; rw [← Ny130.out] at ho2)); have n0_ := Aside0.mk (Kd.R_lower ho2 (below_size (by repeat (first | (with_reducible first | exact HB.out | apply below_alloc | apply pw_below_drewN | apply below_drew1) | exact HB.out)))); have n1_ := Aside0.mk (below_step (by repeat (first | (with_reducible first | exact HB.out | apply below_alloc | apply pw_below_drewN | apply below_drew1) | exact HB.out)) hb); clear HB; have HO132 := n0_; have HB := n1_; clear n0_ n1_; clear hb ho2))
  go_ret
  exact ⟨_, by first | rfl | (simp [errW_none, errW_some] <;> rfl) | (simp [*, errW_none, errW_some] <;> rfl), by (with_reducible repeat (first | apply Kd.R_alloc | apply Kd.R_drewN | apply Kd.R_drew)); exact HO132.out, by repeat (first | (with_reducible first | exact HB.out | apply below_alloc | apply pw_below_drewN | apply below_drew1) | exact HB.out)⟩

/-! ### comptoirref07_row: function 42 -/
def comptoirref07_row.f (a0 : Int) : Option (ByteArray × ByteArray × ByteArray × ByteArray) := (comptoirref07_Rows.f).bind fun t134 => (if a0 < 1 then (some ((⟨#[]⟩ : ByteArray), (⟨#[]⟩ : ByteArray), (⟨#[]⟩ : ByteArray), (⟨#[]⟩ : ByteArray))) else (if a0 ≥ (t134.length : Int) then (some ((⟨#[]⟩ : ByteArray), (⟨#[]⟩ : ByteArray), (⟨#[]⟩ : ByteArray), (⟨#[]⟩ : ByteArray))) else (if 0 ≤ a0 then (if a0 < (t134.length : Int) then (some ((rd_T37 t134 a0).f0, (rd_T37 t134 a0).f1, (rd_T37 t134 a0).f2, (rd_T37 t134 a0).f3)) else (none)) else (none))))
set_option maxHeartbeats 8000000 in
set_option maxRecDepth 100000 in
theorem comptoirref07_row.calls (a0 : Int) (r1 : ByteArray) (r2 : ByteArray) (r3 : ByteArray) (r4 : ByteArray) (w : World) (h : comptoirref07_row.f a0 = some (r1, r2, r3, r4)) :
    Calls Try.prog 42 #[.int .i64 a0] w fun e w' => e = .returned (.agg #[.string r1, .string r2, .string r3, .string r4]) ∧ Below w.heap.size w w' := by
  have hu37 := Try.underlying37
  have HB := Aside0.mk (Below.refl w.heap.size w)
  have H : ((comptoirref07_Rows.f).bind fun t134 => (if a0 < 1 then (some ((⟨#[]⟩ : ByteArray), (⟨#[]⟩ : ByteArray), (⟨#[]⟩ : ByteArray), (⟨#[]⟩ : ByteArray))) else (if a0 ≥ (t134.length : Int) then (some ((⟨#[]⟩ : ByteArray), (⟨#[]⟩ : ByteArray), (⟨#[]⟩ : ByteArray), (⟨#[]⟩ : ByteArray))) else (if 0 ≤ a0 then (if a0 < (t134.length : Int) then (some ((rd_T37 t134 a0).f0, (rd_T37 t134 a0).f1, (rd_T37 t134 a0).f2, (rd_T37 t134 a0).f3)) else (none)) else (none))))) = some (r1, r2, r3, r4) := h
  clear h
  replace H := Option.bind_eq_some_iff.mp H
  obtain ⟨t134, A20, H⟩ := H
  replace H : (if a0 < 1 then (some ((⟨#[]⟩ : ByteArray), (⟨#[]⟩ : ByteArray), (⟨#[]⟩ : ByteArray), (⟨#[]⟩ : ByteArray))) else (if a0 ≥ (t134.length : Int) then (some ((⟨#[]⟩ : ByteArray), (⟨#[]⟩ : ByteArray), (⟨#[]⟩ : ByteArray), (⟨#[]⟩ : ByteArray))) else (if 0 ≤ a0 then (if a0 < (t134.length : Int) then (some ((rd_T37 t134 a0).f0, (rd_T37 t134 a0).f1, (rd_T37 t134 a0).f2, (rd_T37 t134 a0).f3)) else (none)) else (none)))) = some (r1, r2, r3, r4) := H
  have A2 := Aside0.mk A20
  clear A20
  by_cases c3 : a0 < 1
  · rw [if_pos c3] at H
    have c3b0 : decide (a0 < 1) = true := decide_eq_true c3
    clear c3
    simp only [Option.some.injEq, Prod.mk.injEq] at H
    obtain ⟨rfl, rfl, rfl, rfl⟩ := H
    go_enter Try.func42, Try.ntmps42
    go_wp2_with (first | ((with_reducible refine gate_dst (N := 2) rfl ?_); (try (refine gate_guard (by rfl) ?_; dsimp only)); refine box_event ?hg (N := 2) ?hd (cs := #[.string (⟨#[]⟩ : ByteArray), .string (⟨#[]⟩ : ByteArray), .string (⟨#[]⟩ : ByteArray), .string (⟨#[]⟩ : ByteArray)]) (t := 37) ?hr ?_; (case hd => rfl); (case hg => rfl); (case hr => first | (go_simp; done) | (go_simp; rfl) | (go_simp; simp only [show ∀ l_ : List UInt8, (l_ != []) = !l_.isEmpty from fun l_ => by cases l_ <;> rfl]; done)); intro gb133 hg w4 hbox hb; have n0_ := Aside0.mk (below_step (by repeat (first | (with_reducible first | exact HB.out | apply below_alloc | apply pw_below_drewN | apply below_drew1) | exact HB.out)) hb); have n1_ := Aside0.mk (hbox); have n2_ := Aside0.mk ((by rw [hg]; exact (below_size (by repeat (first | (with_reducible first | exact HB.out | apply below_alloc | apply pw_below_drewN | apply below_drew1) | exact HB.out))) : w.heap.size ≤ gb133)); have n3_ := Aside0.mk ((by rw [hg]; exact (below_size (by repeat (first | (with_reducible first | exact HB.out | apply below_alloc | apply pw_below_drewN | apply below_drew1) | exact HB.out))) : w.heap.size ≤ gb133)); clear HB; have HB := n0_; have BK133 := n1_; have GW133 := n2_; have GE133 := n3_; clear n0_ n1_ n2_ n3_; clear hb hbox hg) | ((with_reducible refine gate_callee (f := 13) rfl ?_); refine goesL_ (some 4) rfl rfl Try.func13 (by kernel_rfl) rfl #[] rfl (by (try simp only [List.map_toArray, List.map_cons, List.map_nil]); first | done | rfl | (simp only [List.length_drop, List.length_take]; rfl)) ?_; (with_reducible refine (comptoirref07_Rows.calls  t134 _ A2.out).mono ?_); rintro e w5 ⟨v135, rfl, ho0, hb⟩; refine ⟨_, rfl, ?_⟩; have n0_ := Aside0.mk (Kd.R_lower (Kd.R_newB ho0 (g := gb133) (o := .cells #[.string (⟨#[]⟩ : ByteArray), .string (⟨#[]⟩ : ByteArray), .string (⟨#[]⟩ : ByteArray), .string (⟨#[]⟩ : ByteArray)] 37 (0, 0)) (by (with_reducible repeat (first | refine blk_drewN ?_ _ | refine blk_drew ?_ | refine blk_alloc ?_ _)); exact BK133.out)) (below_size (by repeat (first | (with_reducible first | exact HB.out | apply below_alloc | apply pw_below_drewN | apply below_drew1 | refine below_set ?_ GE133.out) | exact HB.out)))); have n1_ := Aside0.mk (blk_below (g := gb133) (o := .cells #[.string (⟨#[]⟩ : ByteArray), .string (⟨#[]⟩ : ByteArray), .string (⟨#[]⟩ : ByteArray), .string (⟨#[]⟩ : ByteArray)] 37 (0, 0)) (by (with_reducible repeat (first | refine blk_drewN ?_ _ | refine blk_drew ?_ | refine blk_alloc ?_ _)); exact BK133.out) hb); have n2_ := Aside0.mk (below_step (by repeat (first | (with_reducible first | exact HB.out | apply below_alloc | apply pw_below_drewN | apply below_drew1 | refine below_set ?_ GE133.out) | exact HB.out)) hb); clear BK133; clear HB; have HO136 := n0_; have BK133 := n1_; have HB := n2_; clear n0_ n1_ n2_; (try clear hb); (try clear hb2); (try clear hk); (try clear hi); (try clear ho0); have hcz6_0 : w5.cell? ⟨gb133, 0, none⟩ = some (.string (⟨#[]⟩ : ByteArray)) := (blk_cell BK133.out 0).trans rfl; have hcz6_1 : w5.cell? ⟨gb133, 1, none⟩ = some (.string (⟨#[]⟩ : ByteArray)) := (blk_cell BK133.out 1).trans rfl; have hcz6_2 : w5.cell? ⟨gb133, 2, none⟩ = some (.string (⟨#[]⟩ : ByteArray)) := (blk_cell BK133.out 2).trans rfl; have hcz6_3 : w5.cell? ⟨gb133, 3, none⟩ = some (.string (⟨#[]⟩ : ByteArray)) := (blk_cell BK133.out 3).trans rfl; have hfz6_0 := blk_frozen BK133.out 0; have hfz6_1 := blk_frozen BK133.out 1; have hfz6_2 := blk_frozen BK133.out 2; have hfz6_3 := blk_frozen BK133.out 3))
    refine bodyPost_ret (results_cell_row rfl _ _ gb133 37 #[.string (⟨#[]⟩ : ByteArray), .string (⟨#[]⟩ : ByteArray), .string (⟨#[]⟩ : ByteArray), .string (⟨#[]⟩ : ByteArray)] (0, 0) _ rfl (by (with_reducible repeat (first | refine blk_drewN ?_ _ | refine blk_drew ?_ | refine blk_alloc ?_ _)); refine blk_put (cs := #[.string (⟨#[]⟩ : ByteArray), .string (⟨#[]⟩ : ByteArray), .string (⟨#[]⟩ : ByteArray), .string (⟨#[]⟩ : ByteArray)]) ?_ 3 _ rfl; (with_reducible repeat (first | refine blk_drewN ?_ _ | refine blk_drew ?_ | refine blk_alloc ?_ _)); refine blk_put (cs := #[.string (⟨#[]⟩ : ByteArray), .string (⟨#[]⟩ : ByteArray), .string (⟨#[]⟩ : ByteArray), .string (⟨#[]⟩ : ByteArray)]) ?_ 2 _ rfl; (with_reducible repeat (first | refine blk_drewN ?_ _ | refine blk_drew ?_ | refine blk_alloc ?_ _)); refine blk_put (cs := #[.string (⟨#[]⟩ : ByteArray), .string (⟨#[]⟩ : ByteArray), .string (⟨#[]⟩ : ByteArray), .string (⟨#[]⟩ : ByteArray)]) ?_ 1 _ rfl; (with_reducible repeat (first | refine blk_drewN ?_ _ | refine blk_drew ?_ | refine blk_alloc ?_ _)); refine blk_put (cs := #[.string (⟨#[]⟩ : ByteArray), .string (⟨#[]⟩ : ByteArray), .string (⟨#[]⟩ : ByteArray), .string (⟨#[]⟩ : ByteArray)]) ?_ 0 _ rfl; (with_reducible repeat (first | refine blk_drewN ?_ _ | refine blk_drew ?_ | refine blk_alloc ?_ _)); exact BK133.out) Try.underlying37 rfl (by kernel_rfl)) rfl ?_
    exact ⟨by first | rfl | (simp [errW_none, errW_some] <;> rfl) | (simp [*, errW_none, errW_some] <;> rfl), by repeat (first | (with_reducible first | exact HB.out | apply below_alloc | apply pw_below_drewN | apply below_drew1 | refine below_set ?_ GE133.out) | exact HB.out)⟩
  · rw [if_neg c3] at H
    have c3b0 : decide (a0 < 1) = false := decide_eq_false c3
    clear c3
    by_cases c7 : a0 ≥ (t134.length : Int)
    · rw [if_pos c7] at H
      have c7b0 : decide ((t134.length : Int) ≤ a0) = true := decide_eq_true c7
      clear c7
      simp only [Option.some.injEq, Prod.mk.injEq] at H
      obtain ⟨rfl, rfl, rfl, rfl⟩ := H
      go_enter Try.func42, Try.ntmps42
      go_wp2_with (first | ((with_reducible refine gate_dst (N := 2) rfl ?_); (try (refine gate_guard (by rfl) ?_; dsimp only)); refine box_event ?hg (N := 2) ?hd (cs := #[.string (⟨#[]⟩ : ByteArray), .string (⟨#[]⟩ : ByteArray), .string (⟨#[]⟩ : ByteArray), .string (⟨#[]⟩ : ByteArray)]) (t := 37) ?hr ?_; (case hd => rfl); (case hg => rfl); (case hr => first | (go_simp; done) | (go_simp; rfl) | (go_simp; simp only [show ∀ l_ : List UInt8, (l_ != []) = !l_.isEmpty from fun l_ => by cases l_ <;> rfl]; done)); intro gb133 hg w8 hbox hb; have n0_ := Aside0.mk (below_step (by repeat (first | (with_reducible first | exact HB.out | apply below_alloc | apply pw_below_drewN | apply below_drew1) | exact HB.out)) hb); have n1_ := Aside0.mk (hbox); have n2_ := Aside0.mk ((by rw [hg]; exact (below_size (by repeat (first | (with_reducible first | exact HB.out | apply below_alloc | apply pw_below_drewN | apply below_drew1) | exact HB.out))) : w.heap.size ≤ gb133)); have n3_ := Aside0.mk ((by rw [hg]; exact (below_size (by repeat (first | (with_reducible first | exact HB.out | apply below_alloc | apply pw_below_drewN | apply below_drew1) | exact HB.out))) : w.heap.size ≤ gb133)); clear HB; have HB := n0_; have BK133 := n1_; have GW133 := n2_; have GE133 := n3_; clear n0_ n1_ n2_ n3_; clear hb hbox hg) | ((with_reducible refine gate_callee (f := 13) rfl ?_); refine goesL_ (some 4) rfl rfl Try.func13 (by kernel_rfl) rfl #[] rfl (by (try simp only [List.map_toArray, List.map_cons, List.map_nil]); first | done | rfl | (simp only [List.length_drop, List.length_take]; rfl)) ?_; (with_reducible refine (comptoirref07_Rows.calls  t134 _ A2.out).mono ?_); rintro e w9 ⟨v135, rfl, ho0, hb⟩; refine ⟨_, rfl, ?_⟩; have n0_ := Aside0.mk (Kd.R_lower (Kd.R_newB ho0 (g := gb133) (o := .cells #[.string (⟨#[]⟩ : ByteArray), .string (⟨#[]⟩ : ByteArray), .string (⟨#[]⟩ : ByteArray), .string (⟨#[]⟩ : ByteArray)] 37 (0, 0)) (by (with_reducible repeat (first | refine blk_drewN ?_ _ | refine blk_drew ?_ | refine blk_alloc ?_ _)); exact BK133.out)) (below_size (by repeat (first | (with_reducible first | exact HB.out | apply below_alloc | apply pw_below_drewN | apply below_drew1 | refine below_set ?_ GE133.out) | exact HB.out)))); have n1_ := Aside0.mk (blk_below (g := gb133) (o := .cells #[.string (⟨#[]⟩ : ByteArray), .string (⟨#[]⟩ : ByteArray), .string (⟨#[]⟩ : ByteArray), .string (⟨#[]⟩ : ByteArray)] 37 (0, 0)) (by (with_reducible repeat (first | refine blk_drewN ?_ _ | refine blk_drew ?_ | refine blk_alloc ?_ _)); exact BK133.out) hb); have n2_ := Aside0.mk (below_step (by repeat (first | (with_reducible first | exact HB.out | apply below_alloc | apply pw_below_drewN | apply below_drew1 | refine below_set ?_ GE133.out) | exact HB.out)) hb); clear BK133; clear HB; have HO136 := n0_; have BK133 := n1_; have HB := n2_; clear n0_ n1_ n2_; (try clear hb); (try clear hb2); (try clear hk); (try clear hi); (try clear ho0); obtain ⟨Ao10, co10, eo10⟩ := Kd.R_slice HO136.out; subst eo10; have hcz11_0 : w9.cell? ⟨gb133, 0, none⟩ = some (.string (⟨#[]⟩ : ByteArray)) := (blk_cell BK133.out 0).trans rfl; have hcz11_1 : w9.cell? ⟨gb133, 1, none⟩ = some (.string (⟨#[]⟩ : ByteArray)) := (blk_cell BK133.out 1).trans rfl; have hcz11_2 : w9.cell? ⟨gb133, 2, none⟩ = some (.string (⟨#[]⟩ : ByteArray)) := (blk_cell BK133.out 2).trans rfl; have hcz11_3 : w9.cell? ⟨gb133, 3, none⟩ = some (.string (⟨#[]⟩ : ByteArray)) := (blk_cell BK133.out 3).trans rfl; have hfz11_0 := blk_frozen BK133.out 0; have hfz11_1 := blk_frozen BK133.out 1; have hfz11_2 := blk_frozen BK133.out 2; have hfz11_3 := blk_frozen BK133.out 3))
      refine bodyPost_ret (results_cell_row rfl _ _ gb133 37 #[.string (⟨#[]⟩ : ByteArray), .string (⟨#[]⟩ : ByteArray), .string (⟨#[]⟩ : ByteArray), .string (⟨#[]⟩ : ByteArray)] (0, 0) _ rfl (by (with_reducible repeat (first | refine blk_drewN ?_ _ | refine blk_drew ?_ | refine blk_alloc ?_ _)); refine blk_put (cs := #[.string (⟨#[]⟩ : ByteArray), .string (⟨#[]⟩ : ByteArray), .string (⟨#[]⟩ : ByteArray), .string (⟨#[]⟩ : ByteArray)]) ?_ 3 _ rfl; (with_reducible repeat (first | refine blk_drewN ?_ _ | refine blk_drew ?_ | refine blk_alloc ?_ _)); refine blk_put (cs := #[.string (⟨#[]⟩ : ByteArray), .string (⟨#[]⟩ : ByteArray), .string (⟨#[]⟩ : ByteArray), .string (⟨#[]⟩ : ByteArray)]) ?_ 2 _ rfl; (with_reducible repeat (first | refine blk_drewN ?_ _ | refine blk_drew ?_ | refine blk_alloc ?_ _)); refine blk_put (cs := #[.string (⟨#[]⟩ : ByteArray), .string (⟨#[]⟩ : ByteArray), .string (⟨#[]⟩ : ByteArray), .string (⟨#[]⟩ : ByteArray)]) ?_ 1 _ rfl; (with_reducible repeat (first | refine blk_drewN ?_ _ | refine blk_drew ?_ | refine blk_alloc ?_ _)); refine blk_put (cs := #[.string (⟨#[]⟩ : ByteArray), .string (⟨#[]⟩ : ByteArray), .string (⟨#[]⟩ : ByteArray), .string (⟨#[]⟩ : ByteArray)]) ?_ 0 _ rfl; (with_reducible repeat (first | refine blk_drewN ?_ _ | refine blk_drew ?_ | refine blk_alloc ?_ _)); exact BK133.out) Try.underlying37 rfl (by kernel_rfl)) rfl ?_
      exact ⟨by first | rfl | (simp [errW_none, errW_some] <;> rfl) | (simp [*, errW_none, errW_some] <;> rfl), by repeat (first | (with_reducible first | exact HB.out | apply below_alloc | apply pw_below_drewN | apply below_drew1 | refine below_set ?_ GE133.out) | exact HB.out)⟩
    · rw [if_neg c7] at H
      have c7b0 : decide ((t134.length : Int) ≤ a0) = false := decide_eq_false c7
      clear c7
      by_cases c12 : 0 ≤ a0
      · rw [if_pos c12] at H
        have c12b0 : decide (0 ≤ a0) = true := decide_eq_true c12
        clear c12
        by_cases c13 : a0 < (t134.length : Int)
        · rw [if_pos c13] at H
          have c13b0 : decide (a0 < (t134.length : Int)) = true := decide_eq_true c13
          clear c13
          simp only [Option.some.injEq, Prod.mk.injEq] at H
          obtain ⟨rfl, rfl, rfl, rfl⟩ := H
          go_enter Try.func42, Try.ntmps42
          go_wp2_with (first | ((with_reducible refine gate_dst (N := 2) rfl ?_); (try (refine gate_guard (by rfl) ?_; dsimp only)); refine box_event ?hg (N := 2) ?hd (cs := #[.string (⟨#[]⟩ : ByteArray), .string (⟨#[]⟩ : ByteArray), .string (⟨#[]⟩ : ByteArray), .string (⟨#[]⟩ : ByteArray)]) (t := 37) ?hr ?_; (case hd => rfl); (case hg => rfl); (case hr => first | (go_simp; done) | (go_simp; rfl) | (go_simp; simp only [show ∀ l_ : List UInt8, (l_ != []) = !l_.isEmpty from fun l_ => by cases l_ <;> rfl]; done)); intro gb133 hg w14 hbox hb; have n0_ := Aside0.mk (below_step (by repeat (first | (with_reducible first | exact HB.out | apply below_alloc | apply pw_below_drewN | apply below_drew1) | exact HB.out)) hb); have n1_ := Aside0.mk (hbox); have n2_ := Aside0.mk ((by rw [hg]; exact (below_size (by repeat (first | (with_reducible first | exact HB.out | apply below_alloc | apply pw_below_drewN | apply below_drew1) | exact HB.out))) : w.heap.size ≤ gb133)); have n3_ := Aside0.mk ((by rw [hg]; exact (below_size (by repeat (first | (with_reducible first | exact HB.out | apply below_alloc | apply pw_below_drewN | apply below_drew1) | exact HB.out))) : w.heap.size ≤ gb133)); clear HB; have HB := n0_; have BK133 := n1_; have GW133 := n2_; have GE133 := n3_; clear n0_ n1_ n2_ n3_; clear hb hbox hg) | ((with_reducible refine gate_callee (f := 13) rfl ?_); refine goesL_ (some 4) rfl rfl Try.func13 (by kernel_rfl) rfl #[] rfl (by (try simp only [List.map_toArray, List.map_cons, List.map_nil]); first | done | rfl | (simp only [List.length_drop, List.length_take]; rfl)) ?_; (with_reducible refine (comptoirref07_Rows.calls  t134 _ A2.out).mono ?_); rintro e w15 ⟨v135, rfl, ho0, hb⟩; refine ⟨_, rfl, ?_⟩; have n0_ := Aside0.mk (Kd.R_lower (Kd.R_newB ho0 (g := gb133) (o := .cells #[.string (⟨#[]⟩ : ByteArray), .string (⟨#[]⟩ : ByteArray), .string (⟨#[]⟩ : ByteArray), .string (⟨#[]⟩ : ByteArray)] 37 (0, 0)) (by (with_reducible repeat (first | refine blk_drewN ?_ _ | refine blk_drew ?_ | refine blk_alloc ?_ _)); exact BK133.out)) (below_size (by repeat (first | (with_reducible first | exact HB.out | apply below_alloc | apply pw_below_drewN | apply below_drew1 | refine below_set ?_ GE133.out) | exact HB.out)))); have n1_ := Aside0.mk (blk_below (g := gb133) (o := .cells #[.string (⟨#[]⟩ : ByteArray), .string (⟨#[]⟩ : ByteArray), .string (⟨#[]⟩ : ByteArray), .string (⟨#[]⟩ : ByteArray)] 37 (0, 0)) (by (with_reducible repeat (first | refine blk_drewN ?_ _ | refine blk_drew ?_ | refine blk_alloc ?_ _)); exact BK133.out) hb); have n2_ := Aside0.mk (below_step (by repeat (first | (with_reducible first | exact HB.out | apply below_alloc | apply pw_below_drewN | apply below_drew1 | refine below_set ?_ GE133.out) | exact HB.out)) hb); clear BK133; clear HB; have HO136 := n0_; have BK133 := n1_; have HB := n2_; clear n0_ n1_ n2_; (try clear hb); (try clear hb2); (try clear hk); (try clear hi); (try clear ho0); obtain ⟨Ao16, co16, eo16⟩ := Kd.R_slice HO136.out; subst eo16; have p137 : 0 ≤ (a0 : Int) := of_decide_eq_true (by first | (with_reducible assumption) | assumption); have q137 : a0 < (t134.length : Int) := of_decide_eq_true (by first | (with_reducible assumption) | assumption); obtain ⟨ad137, e137, hx137_0, hx137_1, hx137_2, hx137_3⟩ := at_T37 (Kd.R_reads' HO136.out).2.2 a0 p137 q137; cases e137; replace p137 := eq_true p137; replace q137 := eq_true q137; have hcz17_0 : w15.cell? ⟨gb133, 0, none⟩ = some (.string (⟨#[]⟩ : ByteArray)) := (blk_cell BK133.out 0).trans rfl; have hcz17_1 : w15.cell? ⟨gb133, 1, none⟩ = some (.string (⟨#[]⟩ : ByteArray)) := (blk_cell BK133.out 1).trans rfl; have hcz17_2 : w15.cell? ⟨gb133, 2, none⟩ = some (.string (⟨#[]⟩ : ByteArray)) := (blk_cell BK133.out 2).trans rfl; have hcz17_3 : w15.cell? ⟨gb133, 3, none⟩ = some (.string (⟨#[]⟩ : ByteArray)) := (blk_cell BK133.out 3).trans rfl; have hfz17_0 := blk_frozen BK133.out 0; have hfz17_1 := blk_frozen BK133.out 1; have hfz17_2 := blk_frozen BK133.out 2; have hfz17_3 := blk_frozen BK133.out 3))
          refine bodyPost_ret (results_cell_row rfl _ _ gb133 37 #[.string ((rd_T37 t134 a0).f0), .string ((rd_T37 t134 a0).f1), .string ((rd_T37 t134 a0).f2), .string ((rd_T37 t134 a0).f3)] (0, 0) _ rfl (by (with_reducible repeat (first | refine blk_drewN ?_ _ | refine blk_drew ?_ | refine blk_alloc ?_ _)); refine blk_put (cs := #[.string ((rd_T37 t134 a0).f0), .string ((rd_T37 t134 a0).f1), .string ((rd_T37 t134 a0).f2), .string (⟨#[]⟩ : ByteArray)]) ?_ 3 _ rfl; (with_reducible repeat (first | refine blk_drewN ?_ _ | refine blk_drew ?_ | refine blk_alloc ?_ _)); refine blk_put (cs := #[.string ((rd_T37 t134 a0).f0), .string ((rd_T37 t134 a0).f1), .string (⟨#[]⟩ : ByteArray), .string (⟨#[]⟩ : ByteArray)]) ?_ 2 _ rfl; (with_reducible repeat (first | refine blk_drewN ?_ _ | refine blk_drew ?_ | refine blk_alloc ?_ _)); refine blk_put (cs := #[.string ((rd_T37 t134 a0).f0), .string (⟨#[]⟩ : ByteArray), .string (⟨#[]⟩ : ByteArray), .string (⟨#[]⟩ : ByteArray)]) ?_ 1 _ rfl; (with_reducible repeat (first | refine blk_drewN ?_ _ | refine blk_drew ?_ | refine blk_alloc ?_ _)); refine blk_put (cs := #[.string (⟨#[]⟩ : ByteArray), .string (⟨#[]⟩ : ByteArray), .string (⟨#[]⟩ : ByteArray), .string (⟨#[]⟩ : ByteArray)]) ?_ 0 _ rfl; (with_reducible repeat (first | refine blk_drewN ?_ _ | refine blk_drew ?_ | refine blk_alloc ?_ _)); exact BK133.out) Try.underlying37 rfl (by kernel_rfl)) rfl ?_
          exact ⟨by first | rfl | (simp [errW_none, errW_some] <;> rfl) | (simp [*, errW_none, errW_some] <;> rfl), by repeat (first | (with_reducible first | exact HB.out | apply below_alloc | apply pw_below_drewN | apply below_drew1 | refine below_set ?_ GE133.out) | exact HB.out)⟩
        · rw [if_neg c13] at H
          exact absurd H (by simp)
      · rw [if_neg c12] at H
        exact absurd H (by simp)

/-! ### comptoirref07_has: function 43 -/
def comptoirref07_has.l0 : Nat → ByteArray → List Bool → Int → Option (ByteArray)
  | 0, _, _, _ => none
  | k + 1, x3, x4, x5 => if x5 < (x4.length : Int) then (if 0 ≤ x5 then (if rdOf false x4 x5 = true then (if x5 ≤ (wrap64 (x5 + 1)) then (if (wrap64 (x5 + 1)) ≤ 11 then (if x3.size + ((⟨#[80, 67, 82, 77, 84, 65, 69, 68, 78, 79, 71]⟩ : ByteArray).extract (x5 : Int).toNat ((wrap64 (x5 + 1)) : Int).toNat).size ≤ 9223372036854775807 then (comptoirref07_has.l0 k (x3 ++ ((⟨#[80, 67, 82, 77, 84, 65, 69, 68, 78, 79, 71]⟩ : ByteArray).extract (x5 : Int).toNat ((wrap64 (x5 + 1)) : Int).toNat)) x4 (wrap64 (x5 + 1))) else (none)) else (none)) else (none)) else (comptoirref07_has.l0 k x3 x4 (wrap64 (x5 + 1)))) else (none)) else (some x3)
def comptoirref07_has.f (k : Nat) (a0_0 : Int) (a0_1 : Int) (a0_2 : ByteArray) (a0_3 : ByteArray) (a0_4 : ByteArray) (a0_5 : ByteArray) (a0_6 : Int) (a0_7 : ByteArray) (a0_8 : ByteArray) (a0_9 : ByteArray) (a0_10 : ByteArray) (a0_11 : Int) (a0_12 : ByteArray) (a0_13 : ByteArray) (a0_14 : Int) (a0_15 : ByteArray) (l0_16 : List (S51)) (a0_17 : ByteArray) (a0_18 : ByteArray) (l0_19 : List (S53)) (l0_20 : List (S55)) : Option (ByteArray) := comptoirref07_has.l0 k (⟨#[]⟩ : ByteArray) (([(a0_4.toList != ([] : List UInt8)), (a0_5.toList != ([] : List UInt8)), (a0_7.toList != ([] : List UInt8)), (a0_8.toList != ([] : List UInt8)), (a0_9.toList != ([] : List UInt8)), (a0_10.toList != ([] : List UInt8)), (a0_11 != 0), (a0_12.toList != ([] : List UInt8)), (a0_13.toList != ([] : List UInt8)), (a0_15.toList != ([] : List UInt8)), decide ((l0_16.length : Int) > 0)] : List Bool)) 0
theorem comptoirref07_has.mono_l : ∀ k, (∀ y0 y1 y2, LeO (comptoirref07_has.l0 k y0 y1 y2) (comptoirref07_has.l0 (k + 1) y0 y1 y2))
  | 0 => fun _ _ _ r h => by simp [comptoirref07_has.l0] at h
  | k + 1 => by
    have ih0 := comptoirref07_has.mono_l k
    · intro y0 y1 y2
      unfold comptoirref07_has.l0
      repeat' first
      | (with_reducible exact ih0 _ _ _)
      | (with_reducible exact LeO.refl _)
      | (with_reducible exact LeO.none _)
      | (with_reducible refine LeO.ite ?_ ?_)
      | (with_reducible refine LeO.bind ?_ (fun _ => ?_))
      | exact ih0 _ _ _
      | exact LeO.none _
      | refine LeO.ite ?_ ?_
      | refine LeO.bind ?_ (fun _ => ?_)
theorem comptoirref07_has.mono : ∀ a0 a1 a2 a3 a4 a5 a6 a7 a8 a9 a10 a11 a12 a13 a14 a15 a16 a17 a18 a19 a20 k, LeO (comptoirref07_has.f k a0 a1 a2 a3 a4 a5 a6 a7 a8 a9 a10 a11 a12 a13 a14 a15 a16 a17 a18 a19 a20) (comptoirref07_has.f (k + 1) a0 a1 a2 a3 a4 a5 a6 a7 a8 a9 a10 a11 a12 a13 a14 a15 a16 a17 a18 a19 a20) := by
  intro a0 a1 a2 a3 a4 a5 a6 a7 a8 a9 a10 a11 a12 a13 a14 a15 a16 a17 a18 a19 a20 k
  have ih0 := comptoirref07_has.mono_l k
  unfold comptoirref07_has.f
  repeat' first
      | (with_reducible exact ih0 _ _ _)
      | (with_reducible exact LeO.refl _)
      | (with_reducible exact LeO.none _)
      | (with_reducible refine LeO.ite ?_ ?_)
      | (with_reducible refine LeO.bind ?_ (fun _ => ?_))
      | exact ih0 _ _ _
      | exact LeO.none _
      | refine LeO.ite ?_ ?_
      | refine LeO.bind ?_ (fun _ => ?_)
set_option maxHeartbeats 8000000 in
set_option maxRecDepth 100000 in
theorem comptoirref07_has.calls (k : Nat) (a0_0 : Int) (a0_1 : Int) (a0_2 : ByteArray) (a0_3 : ByteArray) (a0_4 : ByteArray) (a0_5 : ByteArray) (a0_6 : Int) (a0_7 : ByteArray) (a0_8 : ByteArray) (a0_9 : ByteArray) (a0_10 : ByteArray) (a0_11 : Int) (a0_12 : ByteArray) (a0_13 : ByteArray) (a0_14 : Int) (a0_15 : ByteArray) (A0_16 : Option Addr) (c0_16 : Nat) (l0_16 : List (S51)) (a0_17 : ByteArray) (a0_18 : ByteArray) (A0_19 : Option Addr) (c0_19 : Nat) (l0_19 : List (S53)) (A0_20 : Option Addr) (c0_20 : Nat) (l0_20 : List (S55)) (r : ByteArray) (w : World) (hr0_16 : Kd.C k51 w A0_16 l0_16.length l0_16) (hc0_16 : l0_16.length ≤ c0_16) (hr0_19 : Kd.C k53 w A0_19 l0_19.length l0_19) (hc0_19 : l0_19.length ≤ c0_19) (hr0_20 : Kd.C k55 w A0_20 l0_20.length l0_20) (hc0_20 : l0_20.length ≤ c0_20) (h : comptoirref07_has.f k a0_0 a0_1 a0_2 a0_3 a0_4 a0_5 a0_6 a0_7 a0_8 a0_9 a0_10 a0_11 a0_12 a0_13 a0_14 a0_15 l0_16 a0_17 a0_18 l0_19 l0_20 = some r) :
    Calls Try.prog 43 #[.agg #[.int .i64 a0_0, .int .i64 a0_1, .string a0_2, .string a0_3, .string a0_4, .string a0_5, .int .u64 a0_6, .string a0_7, .string a0_8, .string a0_9, .string a0_10, .int .i64 a0_11, .string a0_12, .string a0_13, .int .i64 a0_14, .string a0_15, .slice A0_16 l0_16.length c0_16, .string a0_17, .string a0_18, .slice A0_19 l0_19.length c0_19, .slice A0_20 l0_20.length c0_20]] w fun e w' => e = .returned (.string r) ∧ Below w.heap.size w w' := by
  have hu29 := Try.underlying29
  have hu24 := Try.underlying24
  have HR0_16 := Aside0.mk hr0_16
  have HC0_16 := Aside0.mk hc0_16
  clear hr0_16 hc0_16
  have HR0_19 := Aside0.mk hr0_19
  have HC0_19 := Aside0.mk hc0_19
  clear hr0_19 hc0_19
  have HR0_20 := Aside0.mk hr0_20
  have HC0_20 := Aside0.mk hc0_20
  clear hr0_20 hc0_20
  have HB := Aside0.mk (Below.refl w.heap.size w)
  have H : (comptoirref07_has.l0 k (⟨#[]⟩ : ByteArray) (([(a0_4.toList != ([] : List UInt8)), (a0_5.toList != ([] : List UInt8)), (a0_7.toList != ([] : List UInt8)), (a0_8.toList != ([] : List UInt8)), (a0_9.toList != ([] : List UInt8)), (a0_10.toList != ([] : List UInt8)), (a0_11 != 0), (a0_12.toList != ([] : List UInt8)), (a0_13.toList != ([] : List UInt8)), (a0_15.toList != ([] : List UInt8)), decide ((l0_16.length : Int) > 0)] : List Bool)) 0) = some r := h
  clear h
  obtain ⟨y139, hy139⟩ : ∃ y_ : List Bool, y_ = (([(a0_4.toList != ([] : List UInt8)), (a0_5.toList != ([] : List UInt8)), (a0_7.toList != ([] : List UInt8)), (a0_8.toList != ([] : List UInt8)), (a0_9.toList != ([] : List UInt8)), (a0_10.toList != ([] : List UInt8)), (a0_11 != 0), (a0_12.toList != ([] : List UInt8)), (a0_13.toList != ([] : List UInt8)), (a0_15.toList != ([] : List UInt8)), decide ((l0_16.length : Int) > 0)] : List Bool)) := ⟨_, rfl⟩
  replace H : (comptoirref07_has.l0 k (⟨#[]⟩ : ByteArray) y139 0) = some r := by first | (rw [hy139]; with_reducible exact H) | (have H2_ := (Option.bind_some _ _).symm.trans H; rw [hy139]; with_reducible exact H2_) | (have H2_ := (Option.bind_some _ _).symm.trans H; with_reducible exact H2_) | with_reducible exact H | (rw [hy139]; exact H) | exact H
  have Ny139 := Aside0.mk hy139
  clear hy139
  have H' := Aside0.mk H
  clear H
  go_enter Try.func43, Try.ntmps43
  go_wp2_with (first | ((with_reducible refine gate_dst (N := 1) rfl ?_); refine box_event ?hg (N := 1) ?hd (cs := #[.int .i64 a0_0, .int .i64 a0_1, .string a0_2, .string a0_3, .string a0_4, .string a0_5, .int .u64 a0_6, .string a0_7, .string a0_8, .string a0_9, .string a0_10, .int .i64 a0_11, .string a0_12, .string a0_13, .int .i64 a0_14, .string a0_15, .slice A0_16 l0_16.length c0_16, .string a0_17, .string a0_18, .slice A0_19 l0_19.length c0_19, .slice A0_20 l0_20.length c0_20]) (t := 29) ?hr ?_; (case hd => rfl); (case hg => rfl); (case hr => first | (go_simp; done) | (go_simp; rfl) | (go_simp; simp only [show ∀ l_ : List UInt8, (l_ != []) = !l_.isEmpty from fun l_ => by cases l_ <;> rfl]; done)); intro gb138 hg w2 hbox hb; have n0_ := Aside0.mk (below_step (by repeat (first | (with_reducible first | exact HB.out | apply below_alloc | apply pw_below_drewN | apply below_drew1) | exact HB.out)) hb); have n1_ := Aside0.mk (hbox); have n2_ := Aside0.mk ((by rw [hg]; exact (below_size (by repeat (first | (with_reducible first | exact HB.out | apply below_alloc | apply pw_below_drewN | apply below_drew1) | exact HB.out))) : w.heap.size ≤ gb138)); have n3_ := Aside0.mk ((by rw [hg]; exact (below_size (by repeat (first | (with_reducible first | exact HB.out | apply below_alloc | apply pw_below_drewN | apply below_drew1) | exact HB.out))) : w.heap.size ≤ gb138)); clear HB; have HB := n0_; have BK138 := n1_; have GW138 := n2_; have GE138 := n3_; clear n0_ n1_ n2_ n3_; clear hb hbox hg; have hcz3_0 : w2.cell? ⟨gb138, 0, none⟩ = some (.int .i64 a0_0) := (blk_cell BK138.out 0).trans rfl; have hcz3_1 : w2.cell? ⟨gb138, 1, none⟩ = some (.int .i64 a0_1) := (blk_cell BK138.out 1).trans rfl; have hcz3_2 : w2.cell? ⟨gb138, 2, none⟩ = some (.string a0_2) := (blk_cell BK138.out 2).trans rfl; have hcz3_3 : w2.cell? ⟨gb138, 3, none⟩ = some (.string a0_3) := (blk_cell BK138.out 3).trans rfl; have hcz3_4 : w2.cell? ⟨gb138, 4, none⟩ = some (.string a0_4) := (blk_cell BK138.out 4).trans rfl; have hcz3_5 : w2.cell? ⟨gb138, 5, none⟩ = some (.string a0_5) := (blk_cell BK138.out 5).trans rfl; have hcz3_6 : w2.cell? ⟨gb138, 6, none⟩ = some (.int .u64 a0_6) := (blk_cell BK138.out 6).trans rfl; have hcz3_7 : w2.cell? ⟨gb138, 7, none⟩ = some (.string a0_7) := (blk_cell BK138.out 7).trans rfl; have hcz3_8 : w2.cell? ⟨gb138, 8, none⟩ = some (.string a0_8) := (blk_cell BK138.out 8).trans rfl; have hcz3_9 : w2.cell? ⟨gb138, 9, none⟩ = some (.string a0_9) := (blk_cell BK138.out 9).trans rfl; have hcz3_10 : w2.cell? ⟨gb138, 10, none⟩ = some (.string a0_10) := (blk_cell BK138.out 10).trans rfl; have hcz3_11 : w2.cell? ⟨gb138, 11, none⟩ = some (.int .i64 a0_11) := (blk_cell BK138.out 11).trans rfl; have hcz3_12 : w2.cell? ⟨gb138, 12, none⟩ = some (.string a0_12) := (blk_cell BK138.out 12).trans rfl; have hcz3_13 : w2.cell? ⟨gb138, 13, none⟩ = some (.string a0_13) := (blk_cell BK138.out 13).trans rfl; have hcz3_14 : w2.cell? ⟨gb138, 14, none⟩ = some (.int .i64 a0_14) := (blk_cell BK138.out 14).trans rfl; have hcz3_15 : w2.cell? ⟨gb138, 15, none⟩ = some (.string a0_15) := (blk_cell BK138.out 15).trans rfl; have hcz3_16 : w2.cell? ⟨gb138, 16, none⟩ = some (.slice A0_16 l0_16.length c0_16) := (blk_cell BK138.out 16).trans rfl; have hcz3_17 : w2.cell? ⟨gb138, 17, none⟩ = some (.string a0_17) := (blk_cell BK138.out 17).trans rfl; have hcz3_18 : w2.cell? ⟨gb138, 18, none⟩ = some (.string a0_18) := (blk_cell BK138.out 18).trans rfl; have hcz3_19 : w2.cell? ⟨gb138, 19, none⟩ = some (.slice A0_19 l0_19.length c0_19) := (blk_cell BK138.out 19).trans rfl; have hcz3_20 : w2.cell? ⟨gb138, 20, none⟩ = some (.slice A0_20 l0_20.length c0_20) := (blk_cell BK138.out 20).trans rfl; have hfz3_0 := blk_frozen BK138.out 0; have hfz3_1 := blk_frozen BK138.out 1; have hfz3_2 := blk_frozen BK138.out 2; have hfz3_3 := blk_frozen BK138.out 3; have hfz3_4 := blk_frozen BK138.out 4; have hfz3_5 := blk_frozen BK138.out 5; have hfz3_6 := blk_frozen BK138.out 6; have hfz3_7 := blk_frozen BK138.out 7; have hfz3_8 := blk_frozen BK138.out 8; have hfz3_9 := blk_frozen BK138.out 9; have hfz3_10 := blk_frozen BK138.out 10; have hfz3_11 := blk_frozen BK138.out 11; have hfz3_12 := blk_frozen BK138.out 12; have hfz3_13 := blk_frozen BK138.out 13; have hfz3_14 := blk_frozen BK138.out 14; have hfz3_15 := blk_frozen BK138.out 15; have hfz3_16 := blk_frozen BK138.out 16; have hfz3_17 := blk_frozen BK138.out 17; have hfz3_18 := blk_frozen BK138.out 18; have hfz3_19 := blk_frozen BK138.out 19; have hfz3_20 := blk_frozen BK138.out 20) | ((with_reducible refine gate_dst (N := 41) rfl ?_); refine Kd.R_lit Kd.bool _ 4 ?hg (N := 41) ?hd (xs := ([(a0_4.toList != ([] : List UInt8)), (a0_5.toList != ([] : List UInt8)), (a0_7.toList != ([] : List UInt8)), (a0_8.toList != ([] : List UInt8)), (a0_9.toList != ([] : List UInt8)), (a0_10.toList != ([] : List UInt8)), (a0_11 != 0), (a0_12.toList != ([] : List UInt8)), (a0_13.toList != ([] : List UInt8)), (a0_15.toList != ([] : List UInt8)), decide ((l0_16.length : Int) > 0)] : List Bool)) (inner := [.bool (a0_4.toList != ([] : List UInt8)), .bool (a0_5.toList != ([] : List UInt8)), .bool (a0_7.toList != ([] : List UInt8)), .bool (a0_8.toList != ([] : List UInt8)), .bool (a0_9.toList != ([] : List UInt8)), .bool (a0_10.toList != ([] : List UInt8)), .bool (a0_11 != 0), .bool (a0_12.toList != ([] : List UInt8)), .bool (a0_13.toList != ([] : List UInt8)), .bool (a0_15.toList != ([] : List UInt8)), .bool (decide ((l0_16.length : Int) > 0))]) (ok := fun _ => True) (okp := fun _ => True) ?hr ?hp (fun _ hk => hk) trivial (Below.refl _ _) (Nat.le_refl _) (by simp) ?_; (case hd => rfl); (case hg => rfl); (case hr => first | (go_simp; done) | (go_simp; rfl) | (go_simp; simp only [show ∀ l_ : List UInt8, (l_ != []) = !l_.isEmpty from fun l_ => by cases l_ <;> rfl]; done)); (case hp => exact (Reps.one (show Kd.M Kd.bool _ _ _ (a0_4.toList != ([] : List UInt8)) [.bool (a0_4.toList != ([] : List UInt8))] from rfl) (Reps.one (show Kd.M Kd.bool _ _ _ (a0_5.toList != ([] : List UInt8)) [.bool (a0_5.toList != ([] : List UInt8))] from rfl) (Reps.one (show Kd.M Kd.bool _ _ _ (a0_7.toList != ([] : List UInt8)) [.bool (a0_7.toList != ([] : List UInt8))] from rfl) (Reps.one (show Kd.M Kd.bool _ _ _ (a0_8.toList != ([] : List UInt8)) [.bool (a0_8.toList != ([] : List UInt8))] from rfl) (Reps.one (show Kd.M Kd.bool _ _ _ (a0_9.toList != ([] : List UInt8)) [.bool (a0_9.toList != ([] : List UInt8))] from rfl) (Reps.one (show Kd.M Kd.bool _ _ _ (a0_10.toList != ([] : List UInt8)) [.bool (a0_10.toList != ([] : List UInt8))] from rfl) (Reps.one (show Kd.M Kd.bool _ _ _ (a0_11 != 0) [.bool (a0_11 != 0)] from rfl) (Reps.one (show Kd.M Kd.bool _ _ _ (a0_12.toList != ([] : List UInt8)) [.bool (a0_12.toList != ([] : List UInt8))] from rfl) (Reps.one (show Kd.M Kd.bool _ _ _ (a0_13.toList != ([] : List UInt8)) [.bool (a0_13.toList != ([] : List UInt8))] from rfl) (Reps.one (show Kd.M Kd.bool _ _ _ (a0_15.toList != ([] : List UInt8)) [.bool (a0_15.toList != ([] : List UInt8))] from rfl) (Reps.one (show Kd.M Kd.bool _ _ _ (decide ((l0_16.length : Int) > 0)) [.bool (decide ((l0_16.length : Int) > 0))] from rfl) (Reps.none _ _))))))))))))); intro v140 w4 ho5 hb hg_ hnew_; clear hg_ hnew_; (first | rw [← Ny139.out] at ho5 | (simp only [Int.reduceToNat] at ho5; rw [← Ny139.out] at ho5)); have n0_ := Aside0.mk (Kd.R_lower ho5 (below_size (by repeat (first | (with_reducible first | exact HB.out | apply below_alloc | apply pw_below_drewN | apply below_drew1 | refine below_set ?_ GE138.out) | exact HB.out)))); have n1_ := Aside0.mk (blk_below (g := gb138) (o := .cells #[.int .i64 a0_0, .int .i64 a0_1, .string a0_2, .string a0_3, .string a0_4, .string a0_5, .int .u64 a0_6, .string a0_7, .string a0_8, .string a0_9, .string a0_10, .int .i64 a0_11, .string a0_12, .string a0_13, .int .i64 a0_14, .string a0_15, .slice A0_16 l0_16.length c0_16, .string a0_17, .string a0_18, .slice A0_19 l0_19.length c0_19, .slice A0_20 l0_20.length c0_20] 29 (0, 0)) (by (with_reducible repeat (first | refine blk_drewN ?_ _ | refine blk_drew ?_ | refine blk_alloc ?_ _)); exact BK138.out) hb); have n2_ := Aside0.mk (below_step (by repeat (first | (with_reducible first | exact HB.out | apply below_alloc | apply pw_below_drewN | apply below_drew1 | refine below_set ?_ GE138.out) | exact HB.out)) hb); clear BK138; clear HB; have HO141 := n0_; have BK138 := n1_; have HB := n2_; clear n0_ n1_ n2_; clear hb ho5))
  go_loopg [3, 5] k (fun kq v3 v5 w' => ∃ (x3_1 : ByteArray) (x5_1 : Int), v3 = .string x3_1 ∧ v5 = .int .i64 x5_1 ∧ Aside0 (comptoirref07_has.l0 kq x3_1 y139 x5_1 = some r) ∧ Aside0 (kq ≤ k) ∧ Aside0 (Kd.R Kd.bool 4 w' w.heap.size (fun _ => True) v140 y139) ∧ Aside0 (w'.heap[gb138]? = some (.cells #[.int .i64 a0_0, .int .i64 a0_1, .string a0_2, .string a0_3, .string a0_4, .string a0_5, .int .u64 a0_6, .string a0_7, .string a0_8, .string a0_9, .string a0_10, .int .i64 a0_11, .string a0_12, .string a0_13, .int .i64 a0_14, .string a0_15, (.slice A0_16 l0_16.length c0_16), .string a0_17, .string a0_18, (.slice A0_19 l0_19.length c0_19), (.slice A0_20 l0_20.length c0_20)] 29 (0, 0))) ∧ Aside0 (Below w.heap.size w w'))
  case atStart => exact ⟨((⟨#[]⟩ : ByteArray)), (0), (by first | rfl | (simp; done) | (simp [*]; done)), (by first | rfl | (simp; done) | (simp [*]; done)), H', ⟨Nat.le_refl _⟩, ⟨by (with_reducible repeat (first | apply Kd.R_alloc | apply Kd.R_drewN | apply Kd.R_drew)); exact HO141.out⟩, ⟨by (with_reducible repeat (first | refine blk_drewN ?_ _ | refine blk_drew ?_ | refine blk_alloc ?_ _)); exact BK138.out⟩, ⟨by repeat (first | (with_reducible first | exact HB.out | apply below_alloc | apply pw_below_drewN | apply below_drew1 | refine below_set ?_ GE138.out) | exact HB.out)⟩⟩
  case round =>
    clear H'
    try clear p2
    try clear c4
    try clear hcz3_0
    try clear hcz3_1
    try clear hcz3_10
    try clear hcz3_11
    try clear hcz3_12
    try clear hcz3_13
    try clear hcz3_14
    try clear hcz3_15
    try clear hcz3_16
    try clear hcz3_17
    try clear hcz3_18
    try clear hcz3_19
    try clear hcz3_2
    try clear hcz3_20
    try clear hcz3_3
    try clear hcz3_4
    try clear hcz3_5
    try clear hcz3_6
    try clear hcz3_7
    try clear hcz3_8
    try clear hcz3_9
    try clear hfz3_0
    try clear hfz3_1
    try clear hfz3_10
    try clear hfz3_11
    try clear hfz3_12
    try clear hfz3_13
    try clear hfz3_14
    try clear hfz3_15
    try clear hfz3_16
    try clear hfz3_17
    try clear hfz3_18
    try clear hfz3_19
    try clear hfz3_2
    try clear hfz3_20
    try clear hfz3_3
    try clear hfz3_4
    try clear hfz3_5
    try clear hfz3_6
    try clear hfz3_7
    try clear hfz3_8
    try clear hfz3_9
    obtain ⟨x3_1, x5_1, rfl, rfl, HA, HK1, HO_4, BK138, HB⟩ := hrel
    cases gk with
    | zero => exact absurd HA.out (by simp [comptoirref07_has.l0])
    | succ k1 =>
      have H := HA.out
      clear HA
      simp only [comptoirref07_has.l0] at H
      by_cases c6 : x5_1 < (y139.length : Int)
      · rw [if_pos c6] at H
        have c6b0 : decide (x5_1 < (y139.length : Int)) = true := decide_eq_true c6
        clear c6
        by_cases c7 : 0 ≤ x5_1
        · rw [if_pos c7] at H
          have c7b0 : decide (0 ≤ x5_1) = true := decide_eq_true c7
          clear c7
          obtain ⟨bq8, hbq8⟩ : ∃ b_ : Bool, b_ = (rdOf false y139 x5_1) := ⟨_, rfl⟩
          replace H : (if bq8 = true then (if x5_1 ≤ (wrap64 (x5_1 + 1)) then (if (wrap64 (x5_1 + 1)) ≤ 11 then (if x3_1.size + ((⟨#[80, 67, 82, 77, 84, 65, 69, 68, 78, 79, 71]⟩ : ByteArray).extract (x5_1 : Int).toNat ((wrap64 (x5_1 + 1)) : Int).toNat).size ≤ 9223372036854775807 then (comptoirref07_has.l0 k1 (x3_1 ++ ((⟨#[80, 67, 82, 77, 84, 65, 69, 68, 78, 79, 71]⟩ : ByteArray).extract (x5_1 : Int).toNat ((wrap64 (x5_1 + 1)) : Int).toNat)) y139 (wrap64 (x5_1 + 1))) else (none)) else (none)) else (none)) else (comptoirref07_has.l0 k1 x3_1 y139 (wrap64 (x5_1 + 1)))) = some r := by rw [← hbq8] at H; exact H
          have Nbq8 := Aside0.mk hbq8
          clear hbq8
          by_cases c9 : bq8 = true
          · subst c9
            have H1 : (if x5_1 ≤ (wrap64 (x5_1 + 1)) then (if (wrap64 (x5_1 + 1)) ≤ 11 then (if x3_1.size + ((⟨#[80, 67, 82, 77, 84, 65, 69, 68, 78, 79, 71]⟩ : ByteArray).extract (x5_1 : Int).toNat ((wrap64 (x5_1 + 1)) : Int).toNat).size ≤ 9223372036854775807 then (comptoirref07_has.l0 k1 (x3_1 ++ ((⟨#[80, 67, 82, 77, 84, 65, 69, 68, 78, 79, 71]⟩ : ByteArray).extract (x5_1 : Int).toNat ((wrap64 (x5_1 + 1)) : Int).toNat)) y139 (wrap64 (x5_1 + 1))) else (none)) else (none)) else (none)) = some r := by rw [if_pos rfl] at H; exact H
            clear H
            have H := H1
            clear H1
            have c10b0 := eq_true (of_decide_eq_true (by first | (with_reducible assumption) | assumption) : 0 ≤ x5_1)
            by_cases c11 : x5_1 ≤ (wrap64 (x5_1 + 1))
            · rw [if_pos c11] at H
              have c11b0 := eq_true c11
              have c11b1 : decide (x5_1 ≤ (wrap64 (x5_1 + 1))) = true := decide_eq_true c11
              by_cases c12 : (wrap64 (x5_1 + 1)) ≤ 11
              · rw [if_pos c12] at H
                have c12b0 := eq_true c12
                have c12b1 : decide ((wrap64 (x5_1 + 1)) ≤ 11) = true := decide_eq_true c12
                by_cases c13 : x3_1.size + ((⟨#[80, 67, 82, 77, 84, 65, 69, 68, 78, 79, 71]⟩ : ByteArray).extract (x5_1 : Int).toNat ((wrap64 (x5_1 + 1)) : Int).toNat).size ≤ 9223372036854775807
                · rw [if_pos c13] at H
                  have c13b0 := eq_true c13
                  have c13b1 : decide (x3_1.size + ((⟨#[80, 67, 82, 77, 84, 65, 69, 68, 78, 79, 71]⟩ : ByteArray).extract (x5_1 : Int).toNat ((wrap64 (x5_1 + 1)) : Int).toNat).size ≤ 9223372036854775807) = true := decide_eq_true c13
                  try have c13b2 : (9223372036854775807 < x3_1.size + ((⟨#[80, 67, 82, 77, 84, 65, 69, 68, 78, 79, 71]⟩ : ByteArray).extract (x5_1 : Int).toNat ((wrap64 (x5_1 + 1)) : Int).toNat).size) = False := eq_false (Nat.not_lt.2 c13)
                  have H' := Aside0.mk H
                  clear H
                  obtain ⟨Ao14, co14, eo14⟩ := Kd.R_slice HO_4.out
                  subst eo14
                  have p142 : 0 ≤ (x5_1 : Int) := of_decide_eq_true (by first | (with_reducible assumption) | assumption)
                  have q142 : x5_1 < (y139.length : Int) := of_decide_eq_true (by first | (with_reducible assumption) | assumption)
                  obtain ⟨ad142, e142, hx142_0⟩ := Kd.at_bool (Kd.R_reads' HO_4.out).2.2 x5_1 p142 q142
                  (try rw [← Nbq8.out] at hx142_0)
                  cases e142
                  replace p142 := eq_true p142
                  replace q142 := eq_true q142
                  go_wp2
                  go_roundg k1
                  case measure => have := HK1.out; omega
                  case rel => exact ⟨(x3_1 ++ ((⟨#[80, 67, 82, 77, 84, 65, 69, 68, 78, 79, 71]⟩ : ByteArray).extract (x5_1 : Int).toNat ((wrap64 (x5_1 + 1)) : Int).toNat)), (wrap64 (x5_1 + 1)), (by first | rfl | (simp; done) | (simp [*]; done)), (by first | rfl | (simp; done) | (simp [*]; done)), H', ⟨by have := HK1.out; omega⟩, ⟨by (with_reducible repeat (first | apply Kd.R_alloc | apply Kd.R_drewN | apply Kd.R_drew)); exact HO_4.out⟩, ⟨by (with_reducible repeat (first | refine blk_drewN ?_ _ | refine blk_drew ?_ | refine blk_alloc ?_ _)); exact BK138.out⟩, ⟨by repeat (first | (with_reducible first | exact HB.out | apply below_alloc | apply pw_below_drewN | apply below_drew1 | refine below_set ?_ GE138.out) | exact HB.out)⟩⟩
                · rw [if_neg c13] at H
                  exact absurd H (by simp)
              · rw [if_neg c12] at H
                exact absurd H (by simp)
            · rw [if_neg c11] at H
              exact absurd H (by simp)
          · replace c9 := Bool.eq_false_iff.mpr c9
            subst c9
            have H1 : (comptoirref07_has.l0 k1 x3_1 y139 (wrap64 (x5_1 + 1))) = some r := by rw [if_neg (show ¬ (false = true) by decide)] at H; exact H
            clear H
            have H := H1
            clear H1
            have H' := Aside0.mk H
            clear H
            obtain ⟨Ao15, co15, eo15⟩ := Kd.R_slice HO_4.out
            subst eo15
            have p142 : 0 ≤ (x5_1 : Int) := of_decide_eq_true (by first | (with_reducible assumption) | assumption)
            have q142 : x5_1 < (y139.length : Int) := of_decide_eq_true (by first | (with_reducible assumption) | assumption)
            obtain ⟨ad142, e142, hx142_0⟩ := Kd.at_bool (Kd.R_reads' HO_4.out).2.2 x5_1 p142 q142
            (try rw [← Nbq8.out] at hx142_0)
            cases e142
            replace p142 := eq_true p142
            replace q142 := eq_true q142
            go_wp2
            go_roundg k1
            case measure => have := HK1.out; omega
            case rel => exact ⟨(x3_1), (wrap64 (x5_1 + 1)), (by first | rfl | (simp; done) | (simp [*]; done)), (by first | rfl | (simp; done) | (simp [*]; done)), H', ⟨by have := HK1.out; omega⟩, ⟨by (with_reducible repeat (first | apply Kd.R_alloc | apply Kd.R_drewN | apply Kd.R_drew)); exact HO_4.out⟩, ⟨by (with_reducible repeat (first | refine blk_drewN ?_ _ | refine blk_drew ?_ | refine blk_alloc ?_ _)); exact BK138.out⟩, ⟨by repeat (first | (with_reducible first | exact HB.out | apply below_alloc | apply pw_below_drewN | apply below_drew1 | refine below_set ?_ GE138.out) | exact HB.out)⟩⟩
        · rw [if_neg c7] at H
          exact absurd H (by simp)
      · rw [if_neg c6] at H
        have c6b0 : decide (x5_1 < (y139.length : Int)) = false := decide_eq_false c6
        clear c6
        obtain rfl := Option.some.inj H
        simp only [Option.some.injEq, Prod.mk.injEq] at H
        obtain ⟨rfl⟩ := H
        obtain ⟨Ao16, co16, eo16⟩ := Kd.R_slice HO_4.out
        subst eo16
        go_wp2
        go_ret
        exact ⟨by first | rfl | (simp [errW_none, errW_some] <;> rfl) | (simp [*, errW_none, errW_some] <;> rfl), by repeat (first | (with_reducible first | exact HB.out | apply below_alloc | apply pw_below_drewN | apply below_drew1 | refine below_set ?_ GE138.out) | exact HB.out)⟩

/-! ### comptoirref07_letter: function 44 -/
def comptoirref07_letter.l0 : Nat → ByteArray → Int → Int → Option (Bool)
  | 0, _, _, _ => none
  | k + 1, x0, x1, x5 => if x5 < (x0.size : Int) then (if 0 ≤ x5 then (if (bt x0 x5) = x1 then (some true) else (comptoirref07_letter.l0 k x0 x1 (wrap64 (x5 + 1)))) else (none)) else (some false)
def comptoirref07_letter.f (k : Nat) (a0 : ByteArray) (a1 : Int) : Option (Bool) := comptoirref07_letter.l0 k a0 a1 0
theorem comptoirref07_letter.mono_l : ∀ k, (∀ y0 y1 y2, LeO (comptoirref07_letter.l0 k y0 y1 y2) (comptoirref07_letter.l0 (k + 1) y0 y1 y2))
  | 0 => fun _ _ _ r h => by simp [comptoirref07_letter.l0] at h
  | k + 1 => by
    have ih0 := comptoirref07_letter.mono_l k
    · intro y0 y1 y2
      unfold comptoirref07_letter.l0
      repeat' first
      | (with_reducible exact ih0 _ _ _)
      | (with_reducible exact LeO.refl _)
      | (with_reducible exact LeO.none _)
      | (with_reducible refine LeO.ite ?_ ?_)
      | (with_reducible refine LeO.bind ?_ (fun _ => ?_))
      | exact ih0 _ _ _
      | exact LeO.none _
      | refine LeO.ite ?_ ?_
      | refine LeO.bind ?_ (fun _ => ?_)
theorem comptoirref07_letter.mono : ∀ a0 a1 k, LeO (comptoirref07_letter.f k a0 a1) (comptoirref07_letter.f (k + 1) a0 a1) := by
  intro a0 a1 k
  have ih0 := comptoirref07_letter.mono_l k
  unfold comptoirref07_letter.f
  repeat' first
      | (with_reducible exact ih0 _ _ _)
      | (with_reducible exact LeO.refl _)
      | (with_reducible exact LeO.none _)
      | (with_reducible refine LeO.ite ?_ ?_)
      | (with_reducible refine LeO.bind ?_ (fun _ => ?_))
      | exact ih0 _ _ _
      | exact LeO.none _
      | refine LeO.ite ?_ ?_
      | refine LeO.bind ?_ (fun _ => ?_)
set_option maxHeartbeats 8000000 in
set_option maxRecDepth 100000 in
theorem comptoirref07_letter.calls (k : Nat) (a0 : ByteArray) (a1 : Int) (r : Bool) (w : World) (h : comptoirref07_letter.f k a0 a1 = some r) :
    Calls Try.prog 44 #[.string a0, .int .u8 a1] w fun e w' => e = .returned (.bool r) ∧ Drawn0 w w' := by
  have H : (comptoirref07_letter.l0 k a0 a1 0) = some r := h
  clear h
  have H' := Aside0.mk H
  clear H
  go_enter Try.func44, Try.ntmps44
  go_wp2
  go_loopg [5] k (fun kq v5 w' => ∃ (x5_1 : Int), v5 = .int .i64 x5_1 ∧ Aside0 (comptoirref07_letter.l0 kq a0 a1 x5_1 = some r) ∧ Aside0 (kq ≤ k) ∧ Drawn0 w w')
  case atStart => exact ⟨(0), (by first | rfl | (simp; done) | (simp [*]; done)), H', ⟨Nat.le_refl _⟩, by repeat (first | exact Drawn0.refl _ | apply Drawn0.step)⟩
  case round =>
    clear H'
    try clear p2
    obtain ⟨x5_1, rfl, HA, HK1, ⟨m1, rfl⟩⟩ := hrel
    cases gk with
    | zero => exact absurd HA.out (by simp [comptoirref07_letter.l0])
    | succ k1 =>
      have H := HA.out
      clear HA
      simp only [comptoirref07_letter.l0] at H
      by_cases c3 : x5_1 < (a0.size : Int)
      · rw [if_pos c3] at H
        have c3b0 : decide (x5_1 < (a0.size : Int)) = true := decide_eq_true c3
        clear c3
        by_cases c4 : 0 ≤ x5_1
        · rw [if_pos c4] at H
          have c4b0 : decide (0 ≤ x5_1) = true := decide_eq_true c4
          clear c4
          by_cases c6 : (bt a0 x5_1) = a1
          · rw [if_pos c6] at H
            have c6b0 : ((bt a0 x5_1) == a1) = true := beq_iff_eq.mpr c6
            have c6b1 : ((bt a0 x5_1) != a1) = false := bne_eq_false_iff_eq.mpr c6
            clear c6
            obtain rfl := Option.some.inj H
            simp only [Option.some.injEq, Prod.mk.injEq] at H
            obtain ⟨rfl⟩ := H
            have p5 : 0 ≤ (x5_1 : Int) := of_decide_eq_true (by first | (with_reducible assumption) | assumption)
            have q5 : x5_1 < (a0.size : Int) := of_decide_eq_true (by first | (with_reducible assumption) | assumption)
            have hx5 := bt_at a0 x5_1
            replace p5 := eq_true p5
            replace q5 := eq_true q5
            go_wp2
            go_ret
            exact ⟨by first | rfl | (simp; done) | (simp [*]; done), by repeat (first | exact Drawn0.refl _ | apply Drawn0.step)⟩
          · rw [if_neg c6] at H
            have c6b0 : ((bt a0 x5_1) == a1) = false := beq_eq_false_iff_ne.mpr c6
            have c6b1 : ((bt a0 x5_1) != a1) = true := bne_iff_ne.mpr c6
            have H' := Aside0.mk H
            clear H
            have p5 : 0 ≤ (x5_1 : Int) := of_decide_eq_true (by first | (with_reducible assumption) | assumption)
            have q5 : x5_1 < (a0.size : Int) := of_decide_eq_true (by first | (with_reducible assumption) | assumption)
            have hx5 := bt_at a0 x5_1
            replace p5 := eq_true p5
            replace q5 := eq_true q5
            go_wp2
            go_roundg k1
            case measure => have := HK1.out; omega
            case rel => exact ⟨(wrap64 (x5_1 + 1)), (by first | rfl | (simp; done) | (simp [*]; done)), H', ⟨by have := HK1.out; omega⟩, by repeat (first | exact Drawn0.refl _ | apply Drawn0.step)⟩
        · rw [if_neg c4] at H
          exact absurd H (by simp)
      · rw [if_neg c3] at H
        have c3b0 : decide (x5_1 < (a0.size : Int)) = false := decide_eq_false c3
        clear c3
        obtain rfl := Option.some.inj H
        simp only [Option.some.injEq, Prod.mk.injEq] at H
        obtain ⟨rfl⟩ := H
        go_wp2
        go_ret
        exact ⟨by first | rfl | (simp; done) | (simp [*]; done), by repeat (first | exact Drawn0.refl _ | apply Drawn0.step)⟩

end Go.Proofs.Ythdjodamdakjbaa.MK
