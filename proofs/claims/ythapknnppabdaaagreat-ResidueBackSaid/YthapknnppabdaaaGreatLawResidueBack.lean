/- ResidueBack: of whatever message and side: what is split of it is joined as it was, and what is left the other side may say, or it is too big. No conditions. -/
import Derived.Test.YthapknnppabdaaaGreatRows
import Derived.Test.YthapknnppabdaaaGreatZ28
import Derived.Test.YthapknnppabdaaaGreatZ27
import Derived.WalkKit
import Derived.ProofKit
import Derived.OpenShut
import Derived.ShutString
import Derived.ChangeOld
import Derived.Below
import Derived.SizedLaws
namespace Go.Proofs.YthapknnppabdaaaGreat.residueBack
open Go.ChangeShapes Go.WideShapes Go.ChangeAt Go.RowKit Go.Proofs.YthapknnppabdaaaGreatW.PrintWords Go.Proofs.YthapknnppabdaaaGreat.Opens
open Go.ChangeMaps (open_string shut_string)
set_option linter.unusedVariables false
set_option linter.unusedSimpArgs false
theorem own : ownKnob Tryz.prog.godebug = none := by kernel_rfl
theorem laidOut : laidOutB Tryz.prog = true := by kernel_rfl
set_option maxRecDepth 100000 in
theorem lifted (os : Os) (started : os.Started) (H : Type) (enc : TypeId × Value → H) :
    ReturnsInHanded {} Tryz.checked os 3 .any (Rows.residueBackSpec.pre6 enc Tryz.prog Tryz.f3 Rows.residueBackRow.domain false) (Rows.residueBackSpec.post enc Tryz.prog Tryz.f3 false true false false) := by
  refine returnsInHanded_of_change_sized (C := Tryz.checked) own started (by kernel_rfl) Tryz.func3
    (ChangeSpec.witness6 (enc := enc) (C := Tryz.checked) false ⟨#[], #[.agg #[.int .i64 0, .int .i64 0, .string ByteArray.empty, .string ByteArray.empty, .string ByteArray.empty, .string ByteArray.empty, .int .u64 0, .string ByteArray.empty, .string ByteArray.empty, .string ByteArray.empty, .string ByteArray.empty, .int .i64 0, .string ByteArray.empty, .string ByteArray.empty, .int .i64 0, .string ByteArray.empty, .slice none 0 0, .string ByteArray.empty, .string ByteArray.empty, .slice none 0 0, .slice none 0 0], .int .i64 0], []⟩ 8 (by kernel_rfl) (by kernel_rfl) (by kernel_rfl) (by kernel_rfl)) ?_
  intro W base args ds gs before hval0 hW hcnd hsz0 _
  have hsz : (DataW.weightsEach Tryz.prog (Tryz.f3.params.toList ++ Rows.residueBackSpec.plain.varTypes Tryz.prog) (ds ++ gs)).all (· ≤ reachBytes) = true := hsz0
  have hval : ∀ (j : Nat) t v, Tryz.f3.params[j]? = some t → args[j]? = some v → Value.okWide Tryz.prog W .any base t v := hval0
  have hW' := hW
  obtain ⟨p, q, hA0, hV, rfl, hfz, hnd⟩ := hW
  have hA : DataW.TrodAll enc Tryz.prog W 0 (fun _ => true) true Tryz.f3.params.toList args.toList ds p := hA0
  rw [Tryz.params3] at hA hval hsz
  obtain ⟨v0, vs0, d0, ds0, p0, q0, hargs, rfl, rfl, h0, r0⟩ := trodAll_cons hA
  obtain ⟨v2, vs2, d2, ds2, p2, q2, rfl, rfl, rfl, h2, r2⟩ := trodAll_cons r0
  obtain ⟨rfl, rfl, rfl⟩ := trodAll_nil r2
  obtain rfl : args = #[v0, v2] := by cases args; simp_all
  obtain ⟨rfl, rfl⟩ := trodVars_none hV
  have k0 := h0
  have lt0 : ∀ x ∈ p0, x.block < W.heap.size := by obtain ⟨m, hm⟩ := k0; exact DataW.trod_lt m _ _ _ hm
  obtain ⟨x0, hK0, hR0⟩ := (MQ.comptoirlaw19_ResidueBack.opens0).arg hsz (j := 0) rfl rfl h0
  obtain ⟨cs0, rfl, _⟩ := okWide_struct Tryz.underlying29 (hval 0 29 v0 rfl rfl)
  obtain ⟨A0_16, c0_16, A0_19, c0_19, A0_20, c0_20, hcs0, hl0_16, hC0_16, hl0_19, hC0_19, hl0_20, hC0_20⟩ := MQ.k29_open hK0
  obtain rfl : cs0 = #[.int .i64 (x0.f0), .int .i64 (x0.f1), .string (x0.f2), .string (x0.f3), .string (x0.f4), .string (x0.f5), .int .u64 (x0.f6), .string (x0.f7), .string (x0.f8), .string (x0.f9), .string (x0.f10), .int .i64 (x0.f11), .string (x0.f12), .string (x0.f13), .int .i64 (x0.f14.f0), .string (x0.f14.f1), .slice A0_16 (x0.f15).length c0_16, .string (x0.f16), .string (x0.f17), .slice A0_19 (x0.f18).length c0_19, .slice A0_20 (x0.f19).length c0_20] := by apply Array.toList_inj.1; exact hcs0
  obtain ⟨a2, rfl, rfl, rfl, w2⟩ := open_int Tryz.underlying3 (hval 1 3 v2 rfl rfl) h2
  clear hA0 hval0 hsz0 hsz
  refine (MQ.back_walk x0 a2 _ W hK0 (MQ.reachl_of hR0) (MQ.in29_of hR0)).mono fun e W' ⟨he, bel0⟩ => ?_
  subst he
  have bel := bel0
  exact ⟨_, rfl, _, _, _, [], _, [], hW', trodAll_mk1 (shut_bool Tryz.underlying4 _), (trodAll_cons_mk (Below.trod laidOut (by kernel_rfl) (of_decide_eq_true (by kernel_rfl)) k0 bel lt0) (trodAll_cons_mk (shut_int Tryz.underlying3 w2) trodAll_mk0)), rfl, bel.frame _, fun h => by cases h⟩
theorem over : Rows.residueBackRow.holds Tryz.pinned (OpenSpec.ofChange Rows.residueBackSpec) :=
  OpenClaim.holds_of_wide 3 Tryz.f3 rfl rfl rfl rfl rfl rfl rfl ⟨rfl, rfl, rfl, rfl, rfl⟩ rfl rfl rfl rfl rfl (by kernel_rfl) Tryz.func3 (by kernel_rfl)
    (of_decide_eq_true (by kernel_rfl)) (by unfold Func.isWrapper; first | (rw [if_pos (by decide +kernel)]; kernel_rfl) | (rw [if_neg (by decide +kernel)]; exact ⟨rfl, rfl⟩))
    (fun os started H enc _ => lifted os started H enc)
theorem proved : Rows.ResidueBackSaid := over
#print axioms proved
end Go.Proofs.YthapknnppabdaaaGreat.residueBack
namespace Go.Proofs.YthapknnppabdaaaGreat
/-- The row, under a short name, for the claim. -/
theorem residueBack_holds : Rows.ResidueBackSaid := residueBack.proved
end Go.Proofs.YthapknnppabdaaaGreat
