/- The pure statement of comptoirlaw11.KindsAnswers: fourteen numbers, one by one. -/
import Derived.Test.YthdjodamdakjbaaMKx4
namespace Go.Proofs.Ythdjodamdakjbaa.Pure
open Go.RowKit Go.Proofs.Ythdjodamdakjbaa.MK Go.Proofs.YthdjodamdakjbaaW.PrintWords Go.Proofs.YthdjodamdakjbaaW.PrintLast

theorem small14 (a : Int) : ∃ n : Nat, n < 14 ∧ wrap64 (Int.tmod (IntKind.u64.wrap a) 14) = wrap64 (Int.tmod (IntKind.u64.wrap (n : Int)) 14) := by
  refine ⟨(Int.tmod (IntKind.u64.wrap a) 14).toNat, ?_, ?_⟩
  · have h0 : 0 ≤ IntKind.u64.wrap a := by simp [IntKind.wrap, IntKind.bits, IntKind.signed]; omega
    rw [Int.tmod_eq_emod_of_nonneg h0]
    omega
  · have h0 : 0 ≤ IntKind.u64.wrap a := by simp [IntKind.wrap, IntKind.bits, IntKind.signed]; omega
    rw [Int.tmod_eq_emod_of_nonneg h0]
    have h1 : IntKind.u64.wrap (((IntKind.u64.wrap a % 14).toNat : Nat) : Int) = ((IntKind.u64.wrap a % 14).toNat : Int) := by
      generalize IntKind.u64.wrap a = b at *
      simp [IntKind.wrap, IntKind.bits, IntKind.signed]
      omega
    rw [h1, Int.tmod_eq_emod_of_nonneg (by omega)]
    congr 1
    omega
theorem all14 : ∀ n : Fin 14, comptoirlaw11_KindsAnswers.f 30 (n.val : Int) = some true := by decide +kernel
theorem KindsAnswers : comptoirlaw11_KindsAnswers.Pure := by
  intro a0 _
  obtain ⟨n, hn, e0⟩ := small14 a0
  refine ⟨30, ?_⟩
  rw [← all14 ⟨n, hn⟩]
  unfold comptoirlaw11_KindsAnswers.f
  rw [e0]

end Go.Proofs.Ythdjodamdakjbaa.Pure
