/- The pure statement of comptoirlaw13.CodesOwn: whatever two numbers, the two actions that they name have words of their own, which lead back. No condition. -/
import Derived.Test.YtahakmhfdogdcaaMCx3
namespace Go.Proofs.Ytahakmhfdogdcaa.Pure
open Go.RowKit Go.Proofs.Ytahakmhfdogdcaa.MC Go.Proofs.YtahakmhfdogdcaaW.PrintWords Go.Proofs.YtahakmhfdogdcaaW.PrintLast

theorem small_own (a : Int) : ∃ n : Nat, n < 22 ∧ wrap64 (Int.tmod (IntKind.u64.wrap a) 22) = wrap64 (Int.tmod (IntKind.u64.wrap (n : Int)) 22) := by
  refine ⟨(Int.tmod (IntKind.u64.wrap a) 22).toNat, ?_, ?_⟩
  · have h0 : 0 ≤ IntKind.u64.wrap a := by simp [IntKind.wrap, IntKind.bits, IntKind.signed]; omega
    rw [Int.tmod_eq_emod_of_nonneg h0]
    omega
  · have h0 : 0 ≤ IntKind.u64.wrap a := by simp [IntKind.wrap, IntKind.bits, IntKind.signed]; omega
    rw [Int.tmod_eq_emod_of_nonneg h0]
    have h1 : IntKind.u64.wrap (((IntKind.u64.wrap a % 22).toNat : Nat) : Int) = ((IntKind.u64.wrap a % 22).toNat : Int) := by
      generalize IntKind.u64.wrap a = b at *
      simp [IntKind.wrap, IntKind.bits, IntKind.signed]
      omega
    rw [h1, Int.tmod_eq_emod_of_nonneg (by omega)]
    congr 1
    omega
theorem all_pairs : ∀ n : Fin 22, ∀ m : Fin 22, comptoirlaw13_CodesOwn.f 30 (n.val : Int) (m.val : Int) = some true := by decide +kernel
theorem j0_eq (k : Nat) (x0 x1 y0 y1 : Int) (l : List ByteArray) (b : Bool) (e0 : wrap64 (Int.tmod (IntKind.u64.wrap x0) 22) = wrap64 (Int.tmod (IntKind.u64.wrap y0) 22)) (e1 : wrap64 (Int.tmod (IntKind.u64.wrap x1) 22) = wrap64 (Int.tmod (IntKind.u64.wrap y1) 22)) :
    comptoirlaw13_CodesOwn.j0 (k + 1) x0 x1 l b = comptoirlaw13_CodesOwn.j0 (k + 1) y0 y1 l b := by
  simp only [comptoirlaw13_CodesOwn.j0]
  rw [e0, e1]
theorem CodesOwn : comptoirlaw13_CodesOwn.Pure := by
  intro a0 a1 _ _
  obtain ⟨n, hn, e0⟩ := small_own a0
  obtain ⟨m, hm, e1⟩ := small_own a1
  refine ⟨30, ?_⟩
  rw [← all_pairs ⟨n, hn⟩ ⟨m, hm⟩]
  unfold comptoirlaw13_CodesOwn.f
  simp only [j0_eq 29 a0 a1 n m _ _ e0 e1]

end Go.Proofs.Ytahakmhfdogdcaa.Pure
