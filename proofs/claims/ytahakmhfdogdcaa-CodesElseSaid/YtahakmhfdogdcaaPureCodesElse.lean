/- The pure statement of comptoirlaw13.CodesElse: what is near to an action, or to words, is none. No condition. -/
import Derived.Test.YtahakmhfdogdcaaMCx4
namespace Go.Proofs.Ytahakmhfdogdcaa.Pure
open Go.RowKit Go.Proofs.Ytahakmhfdogdcaa.MC Go.Proofs.YtahakmhfdogdcaaW.PrintWords Go.Proofs.YtahakmhfdogdcaaW.PrintLast

theorem small_else (a : Int) : ∃ n : Nat, n < 22 ∧ wrap64 (Int.tmod (IntKind.u64.wrap a) 22) = wrap64 (Int.tmod (IntKind.u64.wrap (n : Int)) 22) := by
  refine ⟨(Int.tmod (IntKind.u64.wrap a) 22).toNat, ?_, ?_⟩
  · have h0 : 0 ≤ IntKind.u64.wrap a := by simp [IntKind.wrap, IntKind.bits, IntKind.signed]; omega
    rw [Int.tmod_eq_emod_of_nonneg h0]
    omega
  · have h0 : 0 ≤ IntKind.u64.wrap a := by simp [IntKind.wrap, IntKind.bits, IntKind.signed]; omega
    rw [Int.tmod_eq_emod_of_nonneg h0]
    have h1 : IntKind.u64.wrap (((IntKind.u64.wrap a % 22).toNat : Nat) : Int) = ((IntKind.u64.wrap a % 22).toNat : Int) := by
      generalize IntKind.u64.wrap a = b at *
      simp [IntKind.wrap, IntKind.bits, IntKind.signed]
      omega
    rw [h1, Int.tmod_eq_emod_of_nonneg (by omega)]
    congr 1
    omega
theorem else_all : ∀ n : Fin 22, ∀ c : Fin 256, comptoirlaw13_CodesElse.f 30 (n.val : Int) (c.val : Int) = some true := by decide +kernel
theorem else_eq (k : Nat) (x0 y0 c : Int) (l : List ByteArray) (b : Bool) (e0 : wrap64 (Int.tmod (IntKind.u64.wrap x0) 22) = wrap64 (Int.tmod (IntKind.u64.wrap y0) 22)) :
    comptoirlaw13_CodesElse.j0 (k + 1) x0 c l b = comptoirlaw13_CodesElse.j0 (k + 1) y0 c l b := by
  simp only [comptoirlaw13_CodesElse.j0]
  rw [e0]
theorem CodesElse : comptoirlaw13_CodesElse.Pure := by
  intro a0 a1 _ h1
  obtain ⟨n, hn, e0⟩ := small_else a0
  have hb : 0 ≤ a1 ∧ a1 < 256 := by simp [Lit.wf, IntKind.min, IntKind.max, IntKind.bits, IntKind.signed] at h1; omega
  refine ⟨30, ?_⟩
  have h := else_all ⟨n, hn⟩ ⟨a1.toNat, by omega⟩
  simp only [Int.toNat_of_nonneg hb.1] at h
  rw [← h]
  unfold comptoirlaw13_CodesElse.f
  simp only [else_eq 29 a0 n a1 _ _ e0]

end Go.Proofs.Ytahakmhfdogdcaa.Pure
