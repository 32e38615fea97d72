/- KindsAmounts: what is said of a message without a currency, of one of another exchange. -/
import Derived.Test.YthdjodamdakjbaaHNeedC
import Derived.Test.YthdjodamdakjbaaHFitsEq
namespace Go.Proofs.Ythdjodamdakjbaa.MK
open Go.RowKit Go.Proofs.YthdjodamdakjbaaW.PrintWords Go.Proofs.YthdjodamdakjbaaW.PrintLast Go.Proofs.YthdjodamdakjbaaW.PrintMore
set_option linter.unusedVariables false
set_option linter.unusedSimpArgs false

theorem ref_x (x : S29) (mc : Array Value) (r : Int) (w : World) (h : k29.K w x mc.toList) (hf : fitsF x = some r) : Calls Try.prog 15 #[.agg mc] w fun e w' => e = .returned (.int .i64 r) ∧ Below w.heap.size w w' := by
  obtain ⟨A16, c16, A19, c19, A20, c20, e, l16, g16, l19, g19, l20, g20⟩ := k29_open h
  have em : mc = _ := Array.toList_inj.1 e
  rw [em]
  exact comptoirref07_Fits.calls 60 x.f0 x.f1 x.f2 x.f3 x.f4 x.f5 x.f6 x.f7 x.f8 x.f9 x.f10 x.f11 x.f12 x.f13 x.f14.f0 x.f14.f1 A16 c16 x.f15 x.f16 x.f17 A19 c19 x.f18 A20 c20 x.f19 r w g16 l16 g19 l19 g20 l20 ((Eq.fits_eq x.f0 x.f1 x.f2 x.f3 x.f4 x.f5 x.f6 x.f7 x.f8 x.f9 x.f10 x.f11 x.f12 x.f13 x.f14.f0 x.f14.f1 x.f15 x.f16 x.f17 x.f18 x.f19).trans hf)
/-- The message that was made, with what plays no part taken from the one that came in. -/
def mixM (z x : S29) : S29 := { z with f2 := x.f2, f3 := x.f3, f16 := x.f16, f17 := x.f17, f18 := x.f18 }
theorem mix_fits {z : S29} {s : Int} (x : S29) (h : MsgOf s z) : fitsF (mixM z x) = some 0 := by
  obtain ⟨n, hn, hk⟩ := kind_nat h.kd
  have h0 := own_fits h
  rw [fits_is z n hn hk] at h0
  rw [fits_is (mixM z x) n hn hk]
  exact h0
def noCur (z : S29) (amount : Int) : S29 := { z with f5 := ⟨#[]⟩, f6 := amount }
def otherO (z : S29) (stan : Int) : S29 := { z with f14 := ⟨stan, ⟨#[]⟩⟩ }
theorem blank : (⟨#[]⟩ : ByteArray).toList.isEmpty = true := by rw [ByteArray.toList_eq]; rfl
theorem end_cur {a b c d : Bool} (h : b = true) : fitsEnd a true b c d = 19 := by
  unfold fitsEnd
  subst h
  cases a <;> simp
theorem end_ori {a b c d : Bool} (h : d = true) : fitsEnd a b c true d = 19 := by
  unfold fitsEnd
  subst h
  cases a <;> simp
theorem cur_fits {z : S29} {s : Int} (x : S29) (h : MsgOf s z) (amount : Int) : ∃ r, fitsF (noCur (mixM z x) amount) = some r ∧ (amount ≠ 0 → r = 19) := by
  obtain ⟨n, hn, hk⟩ := kind_nat h.kd
  refine ⟨_, fits_is (noCur (mixM z x) amount) n hn hk, fun ha => ?_⟩
  show fitsEnd _ (⟨#[]⟩ : ByteArray).toList.isEmpty (amount != 0) _ _ = 19
  rw [blank]
  exact end_cur (bne_iff_ne.mpr ha)
theorem ori_fits {z : S29} {s : Int} (x : S29) (h : MsgOf s z) (stan : Int) : ∃ r, fitsF (otherO (mixM z x) stan) = some r ∧ (stan ≠ 0 → r = 19) := by
  obtain ⟨n, hn, hk⟩ := kind_nat h.kd
  refine ⟨_, fits_is (otherO (mixM z x) stan) n hn hk, fun ha => ?_⟩
  show fitsEnd _ _ _ (⟨#[]⟩ : ByteArray).toList.isEmpty (stan != 0) = 19
  rw [blank]
  exact end_ori (bne_iff_ne.mpr ha)
end Go.Proofs.Ythdjodamdakjbaa.MK
