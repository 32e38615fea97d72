-- laid by wip/tools/mixprint.py over the kit's print (functions of function values by hand)
import Derived.Test.YthdjodamdakjbaaRows
import Derived.Test.YthdjodamdakjbaaStKindsTell
import Derived.Test.YthdjodamdakjbaaPureKindsTell
import Derived.WalkKit
import Derived.ProofKit
import Derived.OpenShut
import Derived.ShutString
import Derived.ChangeOld
import Derived.Below
import Derived.SizedLaws
namespace Go.Proofs.Ythdjodamdakjbaa.kindsTell
open Go.ChangeShapes Go.WideShapes Go.ChangeAt Go.RowKit Go.Proofs.YthdjodamdakjbaaW.PrintWords Go.Proofs.Ythdjodamdakjbaa.Opens
open Go.ChangeMaps (open_string shut_string)
set_option linter.unusedVariables false
set_option linter.unusedSimpArgs false
theorem own : ownKnob Try.prog.godebug = none := by kernel_rfl
theorem laidOut : laidOutB Try.prog = true := by kernel_rfl
set_option maxRecDepth 100000 in
theorem lifted (os : Os) (started : os.Started) (H : Type) (enc : TypeId × Value → H) :
    ReturnsInHanded {} Try.checked os 6 .any (Rows.kindsTellSpec.pre6 enc Try.prog Try.f6 Rows.kindsTellRow.domain false) (Rows.kindsTellSpec.post enc Try.prog Try.f6 false true false false) := by
  refine returnsInHanded_of_change_sized (C := Try.checked) own started (by kernel_rfl) Try.func6
    (ChangeSpec.witness6 (enc := enc) (C := Try.checked) false ⟨#[], #[.int .i64 0, .string ByteArray.empty, .agg #[.int .i64 0, .int .i64 0, .string ByteArray.empty, .string ByteArray.empty, .string ByteArray.empty, .string ByteArray.empty, .int .u64 0, .string ByteArray.empty, .string ByteArray.empty, .string ByteArray.empty, .string ByteArray.empty, .int .i64 0, .string ByteArray.empty, .string ByteArray.empty, .int .i64 0, .string ByteArray.empty, .slice none 0 0, .string ByteArray.empty, .string ByteArray.empty, .slice none 0 0, .slice none 0 0]], []⟩ 8 (by kernel_rfl) (by kernel_rfl) (by kernel_rfl) (by kernel_rfl)) ?_
  intro W base args ds gs before hval0 hW hcnd hsz0 _
  have hsz : (DataW.weightsEach Try.prog (Try.f6.params.toList ++ Rows.kindsTellSpec.plain.varTypes Try.prog) (ds ++ gs)).all (· ≤ reachBytes) = true := hsz0
  have hval : ∀ (j : Nat) t v, Try.f6.params[j]? = some t → args[j]? = some v → Value.okWide Try.prog W .any base t v := hval0
  have hW' := hW
  obtain ⟨p, q, hA0, hV, rfl, hfz, hnd⟩ := hW
  have hA : DataW.TrodAll enc Try.prog W 0 (fun _ => true) true Try.f6.params.toList args.toList ds p := hA0
  rw [Try.params6] at hA hval hsz
  obtain ⟨v0, vs0, d0, ds0, p0, q0, hargs, rfl, rfl, h0, r0⟩ := trodAll_cons hA
  obtain ⟨v1, vs1, d1, ds1, p1, q1, rfl, rfl, rfl, h1, r1⟩ := trodAll_cons r0
  obtain ⟨v2, vs2, d2, ds2, p2, q2, rfl, rfl, rfl, h2, r2⟩ := trodAll_cons r1
  obtain ⟨rfl, rfl, rfl⟩ := trodAll_nil r2
  obtain rfl : args = #[v0, v1, v2] := by cases args; simp_all
  obtain ⟨rfl, rfl⟩ := trodVars_none hV
  have k0 := h0
  have lt0 : ∀ x ∈ p0, x.block < W.heap.size := by obtain ⟨m, hm⟩ := k0; exact DataW.trod_lt m _ _ _ hm
  obtain ⟨x0, hK0, hR0⟩ := (MK.comptoirlaw11_KindsTell.opens0).arg hsz (j := 0) rfl rfl h0
  obtain ⟨b0, rfl⟩ := okWide_int Try.underlying3 (hval 0 3 v0 rfl rfl)
  have hcs0 : Value.int .i64 b0 = .int .i64 x0 := by have h_ := hK0; exact (List.cons.inj h_).1
  cases hcs0
  have k1 := h1
  have lt1 : ∀ x ∈ p1, x.block < W.heap.size := by obtain ⟨m, hm⟩ := k1; exact DataW.trod_lt m _ _ _ hm
  obtain ⟨x1, hK1, hR1⟩ := (MK.comptoirlaw11_KindsTell.opens1).arg hsz (j := 1) rfl rfl h1
  obtain ⟨b1, rfl⟩ := okWide_string Try.underlying9 (hval 1 9 v1 rfl rfl)
  have hcs1 : (.string b1 : Value) = .string x1 := by have h_ := hK1; exact (List.cons.inj h_).1
  cases hcs1
  have k2 := h2
  have lt2 : ∀ x ∈ p2, x.block < W.heap.size := by obtain ⟨m, hm⟩ := k2; exact DataW.trod_lt m _ _ _ hm
  obtain ⟨x2, hK2, hR2⟩ := (MK.comptoirlaw11_KindsTell.opens2).arg hsz (j := 2) rfl rfl h2
  obtain ⟨cs2, rfl, _⟩ := okWide_struct Try.underlying29 (hval 2 29 v2 rfl rfl)
  obtain ⟨A2_16, c2_16, A2_19, c2_19, A2_20, c2_20, hcs2, hl2_16, hC2_16, hl2_19, hC2_19, hl2_20, hC2_20⟩ := MK.k29_open hK2
  obtain rfl : cs2 = #[.int .i64 (x2.f0), .int .i64 (x2.f1), .string (x2.f2), .string (x2.f3), .string (x2.f4), .string (x2.f5), .int .u64 (x2.f6), .string (x2.f7), .string (x2.f8), .string (x2.f9), .string (x2.f10), .int .i64 (x2.f11), .string (x2.f12), .string (x2.f13), .int .i64 (x2.f14.f0), .string (x2.f14.f1), .slice A2_16 (x2.f15).length c2_16, .string (x2.f16), .string (x2.f17), .slice A2_19 (x2.f18).length c2_19, .slice A2_20 (x2.f19).length c2_20] := by apply Array.toList_inj.1; exact hcs2
  clear hA0 hval0 hsz0 hsz
  obtain ⟨k, hP⟩ := Pure.KindsTell x0 x1 x2 hR0 hR1 hR2
  refine (MK.comptoirlaw11_KindsTell.calls k x0 x1 (x2.f0) (x2.f1) (x2.f2) (x2.f3) (x2.f4) (x2.f5) (x2.f6) (x2.f7) (x2.f8) (x2.f9) (x2.f10) (x2.f11) (x2.f12) (x2.f13) (x2.f14.f0) (x2.f14.f1) _ _ (x2.f15) (x2.f16) (x2.f17) _ _ (x2.f18) _ _ (x2.f19) true rfl W hC2_16 hl2_16 hC2_19 hl2_19 hC2_20 hl2_20 hP).mono fun e W' ⟨he, bel0⟩ => ?_
  subst he
  have bel := bel0
  exact ⟨_, rfl, _, _, _, [], _, [], hW', trodAll_mk1 (shut_bool Try.underlying4 _), (trodAll_cons_mk (Below.trod laidOut (by kernel_rfl) (of_decide_eq_true (by kernel_rfl)) k0 bel lt0) (trodAll_cons_mk (Below.trod laidOut (by kernel_rfl) (of_decide_eq_true (by kernel_rfl)) k1 bel lt1) (trodAll_cons_mk (Below.trod laidOut (by kernel_rfl) (of_decide_eq_true (by kernel_rfl)) k2 bel lt2) trodAll_mk0))), rfl, bel.frame _, fun h => by cases h⟩
theorem over : Rows.kindsTellRow.holds Try.pinned (OpenSpec.ofChange Rows.kindsTellSpec) :=
  OpenClaim.holds_of_wide 6 Try.f6 rfl rfl rfl rfl rfl rfl rfl ⟨rfl, rfl, rfl, rfl, rfl⟩ rfl rfl rfl rfl rfl (by kernel_rfl) Try.func6 (by kernel_rfl)
    (of_decide_eq_true (by kernel_rfl)) (by unfold Func.isWrapper; first | (rw [if_pos (by decide +kernel)]; kernel_rfl) | (rw [if_neg (by decide +kernel)]; exact ⟨rfl, rfl⟩))
    (fun os started H enc _ => lifted os started H enc)
theorem proved : Rows.KindsTellSaid := over
#print axioms proved
end Go.Proofs.Ythdjodamdakjbaa.kindsTell
namespace Go.Proofs.Ythdjodamdakjbaa
/-- The row, under a short name, for the claim. -/
theorem kindsTell_holds : Rows.KindsTellSaid := kindsTell.proved
end Go.Proofs.Ythdjodamdakjbaa
