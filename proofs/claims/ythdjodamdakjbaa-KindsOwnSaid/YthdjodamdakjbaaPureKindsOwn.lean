/- The pure statement of comptoirlaw11.KindsOwn: eleven kinds beside eleven, pair by pair. -/
import Derived.Test.YthdjodamdakjbaaMKx6
namespace Go.Proofs.Ythdjodamdakjbaa.Pure
open Go.RowKit Go.Proofs.Ythdjodamdakjbaa.MK Go.Proofs.YthdjodamdakjbaaW.PrintWords Go.Proofs.YthdjodamdakjbaaW.PrintLast

theorem small11 (a : Int) : ∃ n : Nat, n < 11 ∧ wrap64 (Int.tmod (IntKind.u64.wrap a) 11) = wrap64 (Int.tmod (IntKind.u64.wrap (n : Int)) 11) := by
  refine ⟨(Int.tmod (IntKind.u64.wrap a) 11).toNat, ?_, ?_⟩
  · have h0 : 0 ≤ IntKind.u64.wrap a := by simp [IntKind.wrap, IntKind.bits, IntKind.signed]; omega
    rw [Int.tmod_eq_emod_of_nonneg h0]
    omega
  · have h0 : 0 ≤ IntKind.u64.wrap a := by simp [IntKind.wrap, IntKind.bits, IntKind.signed]; omega
    rw [Int.tmod_eq_emod_of_nonneg h0]
    have h1 : IntKind.u64.wrap (((IntKind.u64.wrap a % 11).toNat : Nat) : Int) = ((IntKind.u64.wrap a % 11).toNat : Int) := by
      generalize IntKind.u64.wrap a = b at *
      simp [IntKind.wrap, IntKind.bits, IntKind.signed]
      omega
    rw [h1, Int.tmod_eq_emod_of_nonneg (by omega)]
    congr 1
    omega
theorem all11 : ∀ n : Fin 11, ∀ m : Fin 11, comptoirlaw11_KindsOwn.f (n.val : Int) (m.val : Int) = some true := by decide +kernel
theorem KindsOwn : comptoirlaw11_KindsOwn.Pure := by
  intro a0 a1 _ _
  obtain ⟨n, hn, e0⟩ := small11 a0
  obtain ⟨m, hm, e1⟩ := small11 a1
  rw [← all11 ⟨n, hn⟩ ⟨m, hm⟩]
  unfold comptoirlaw11_KindsOwn.f
  rw [e0, e1]

end Go.Proofs.Ythdjodamdakjbaa.Pure
