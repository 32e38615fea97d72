-- laid by wip/tools/mixprint.py over the kit's print (functions of function values by hand)
import Derived.Test.YthdjodamdakjbaaMKx0
import Derived.Test.YthdjodamdakjbaaMKx1
import Derived.Test.YthdjodamdakjbaaMKx3
import Derived.Test.YthdjodamdakjbaaMKx4
import Derived.Test.YthdjodamdakjbaaHKinds
namespace Go.Proofs.Ythdjodamdakjbaa.MK
open Go.RowKit Go.Proofs.YthdjodamdakjbaaW.PrintWords Go.Proofs.YthdjodamdakjbaaW.PrintLast Go.Proofs.YthdjodamdakjbaaW.PrintMore
attribute [local go_sem] max2_int min2_int max_two min_two max_three min_three max_four min_four   -- for this text's walks alone
set_option linter.unusedVariables false
set_option linter.unusedSimpArgs false

/-! ### comptoirlaw11_KindsOwn: function 7 -/
def comptoirlaw11_KindsOwn.f (a0 : Int) (a1 : Int) : Option (Bool) := (kinds_Code.f (wrap64 (1 + (wrap64 (Int.tmod (IntKind.u64.wrap (a0)) 11))))).bind fun t188 => ((kinds_Mti.f (wrap64 (1 + (wrap64 (Int.tmod (IntKind.u64.wrap (a0)) 11))))).bind fun t189 => ((kinds_Answer.f (wrap64 (1 + (wrap64 (Int.tmod (IntKind.u64.wrap (a0)) 11))))).bind fun t190 => ((comptoirlaw11_awake.f).bind fun t191 => (if t191 = true then ((kinds_OfCode.f t188).bind fun t192 => (if t192 = (wrap64 (1 + (wrap64 (Int.tmod (IntKind.u64.wrap (a0)) 11)))) then ((kinds_OfMti.f t189).bind fun t193 => (if t193 = (wrap64 (1 + (wrap64 (Int.tmod (IntKind.u64.wrap (a0)) 11)))) then ((kinds_Code.f (wrap64 (1 + (wrap64 (Int.tmod (IntKind.u64.wrap (a1)) 11))))).bind fun t194 => (if ((t188.toList == t194.toList) == ((wrap64 (1 + (wrap64 (Int.tmod (IntKind.u64.wrap (a0)) 11)))) == (wrap64 (1 + (wrap64 (Int.tmod (IntKind.u64.wrap (a1)) 11)))))) = true then ((kinds_Mti.f (wrap64 (1 + (wrap64 (Int.tmod (IntKind.u64.wrap (a1)) 11))))).bind fun t195 => (if ((t189.toList == t195.toList) == ((wrap64 (1 + (wrap64 (Int.tmod (IntKind.u64.wrap (a0)) 11)))) == (wrap64 (1 + (wrap64 (Int.tmod (IntKind.u64.wrap (a1)) 11)))))) = true then (if (t188.size : Int) = 4 then (if (t189.size : Int) = 4 then (if t190 = 0 then ((kinds_OfCode.f (⟨#[]⟩ : ByteArray)).bind fun t196 => (if t196 = 0 then ((kinds_Code.f 0).bind fun t197 => (if t197.toList = ([] : List UInt8) then ((kinds_Mti.f 12).bind fun t198 => (some (t198.toList == ([] : List UInt8)))) else (some false))) else (some false))) else ((kinds_Answer.f t190).bind fun t199 => (if t199 = 0 then ((kinds_OfCode.f (⟨#[]⟩ : ByteArray)).bind fun t200 => (if t200 = 0 then ((kinds_Code.f 0).bind fun t201 => (if t201.toList = ([] : List UInt8) then ((kinds_Mti.f 12).bind fun t202 => (some (t202.toList == ([] : List UInt8)))) else (some false))) else (some false))) else (some false)))) else (some false)) else (some false)) else (some false))) else (some false))) else (some false))) else (some false))) else (some false)))))
set_option maxHeartbeats 8000000 in
set_option maxRecDepth 100000 in
theorem comptoirlaw11_KindsOwn.calls (a0 : Int) (a1 : Int) (r : Bool) (ht_ : r = true) (w : World) (h : comptoirlaw11_KindsOwn.f a0 a1 = some r) :
    Calls Try.prog 7 #[.int .i64 a0, .int .i64 a1] w fun e w' => e = .returned (.bool r) ∧ Below w.heap.size w w' := by
  have HT_ := Aside0.mk ht_
  clear ht_
  have HB := Aside0.mk (Below.refl w.heap.size w)
  have H : ((kinds_Code.f (wrap64 (1 + (wrap64 (Int.tmod (IntKind.u64.wrap (a0)) 11))))).bind fun t188 => ((kinds_Mti.f (wrap64 (1 + (wrap64 (Int.tmod (IntKind.u64.wrap (a0)) 11))))).bind fun t189 => ((kinds_Answer.f (wrap64 (1 + (wrap64 (Int.tmod (IntKind.u64.wrap (a0)) 11))))).bind fun t190 => ((comptoirlaw11_awake.f).bind fun t191 => (if t191 = true then ((kinds_OfCode.f t188).bind fun t192 => (if t192 = (wrap64 (1 + (wrap64 (Int.tmod (IntKind.u64.wrap (a0)) 11)))) then ((kinds_OfMti.f t189).bind fun t193 => (if t193 = (wrap64 (1 + (wrap64 (Int.tmod (IntKind.u64.wrap (a0)) 11)))) then ((kinds_Code.f (wrap64 (1 + (wrap64 (Int.tmod (IntKind.u64.wrap (a1)) 11))))).bind fun t194 => (if ((t188.toList == t194.toList) == ((wrap64 (1 + (wrap64 (Int.tmod (IntKind.u64.wrap (a0)) 11)))) == (wrap64 (1 + (wrap64 (Int.tmod (IntKind.u64.wrap (a1)) 11)))))) = true then ((kinds_Mti.f (wrap64 (1 + (wrap64 (Int.tmod (IntKind.u64.wrap (a1)) 11))))).bind fun t195 => (if ((t189.toList == t195.toList) == ((wrap64 (1 + (wrap64 (Int.tmod (IntKind.u64.wrap (a0)) 11)))) == (wrap64 (1 + (wrap64 (Int.tmod (IntKind.u64.wrap (a1)) 11)))))) = true then (if (t188.size : Int) = 4 then (if (t189.size : Int) = 4 then (if t190 = 0 then ((kinds_OfCode.f (⟨#[]⟩ : ByteArray)).bind fun t196 => (if t196 = 0 then ((kinds_Code.f 0).bind fun t197 => (if t197.toList = ([] : List UInt8) then ((kinds_Mti.f 12).bind fun t198 => (some (t198.toList == ([] : List UInt8)))) else (some false))) else (some false))) else ((kinds_Answer.f t190).bind fun t199 => (if t199 = 0 then ((kinds_OfCode.f (⟨#[]⟩ : ByteArray)).bind fun t200 => (if t200 = 0 then ((kinds_Code.f 0).bind fun t201 => (if t201.toList = ([] : List UInt8) then ((kinds_Mti.f 12).bind fun t202 => (some (t202.toList == ([] : List UInt8)))) else (some false))) else (some false))) else (some false)))) else (some false)) else (some false)) else (some false))) else (some false))) else (some false))) else (some false))) else (some false)))))) = some r := h
  clear h
  replace H := Option.bind_eq_some_iff.mp H
  obtain ⟨t188, A30, H⟩ := H
  replace H : ((kinds_Mti.f (wrap64 (1 + (wrap64 (Int.tmod (IntKind.u64.wrap (a0)) 11))))).bind fun t189 => ((kinds_Answer.f (wrap64 (1 + (wrap64 (Int.tmod (IntKind.u64.wrap (a0)) 11))))).bind fun t190 => ((comptoirlaw11_awake.f).bind fun t191 => (if t191 = true then ((kinds_OfCode.f t188).bind fun t192 => (if t192 = (wrap64 (1 + (wrap64 (Int.tmod (IntKind.u64.wrap (a0)) 11)))) then ((kinds_OfMti.f t189).bind fun t193 => (if t193 = (wrap64 (1 + (wrap64 (Int.tmod (IntKind.u64.wrap (a0)) 11)))) then ((kinds_Code.f (wrap64 (1 + (wrap64 (Int.tmod (IntKind.u64.wrap (a1)) 11))))).bind fun t194 => (if ((t188.toList == t194.toList) == ((wrap64 (1 + (wrap64 (Int.tmod (IntKind.u64.wrap (a0)) 11)))) == (wrap64 (1 + (wrap64 (Int.tmod (IntKind.u64.wrap (a1)) 11)))))) = true then ((kinds_Mti.f (wrap64 (1 + (wrap64 (Int.tmod (IntKind.u64.wrap (a1)) 11))))).bind fun t195 => (if ((t189.toList == t195.toList) == ((wrap64 (1 + (wrap64 (Int.tmod (IntKind.u64.wrap (a0)) 11)))) == (wrap64 (1 + (wrap64 (Int.tmod (IntKind.u64.wrap (a1)) 11)))))) = true then (if (t188.size : Int) = 4 then (if (t189.size : Int) = 4 then (if t190 = 0 then ((kinds_OfCode.f (⟨#[]⟩ : ByteArray)).bind fun t196 => (if t196 = 0 then ((kinds_Code.f 0).bind fun t197 => (if t197.toList = ([] : List UInt8) then ((kinds_Mti.f 12).bind fun t198 => (some (t198.toList == ([] : List UInt8)))) else (some false))) else (some false))) else ((kinds_Answer.f t190).bind fun t199 => (if t199 = 0 then ((kinds_OfCode.f (⟨#[]⟩ : ByteArray)).bind fun t200 => (if t200 = 0 then ((kinds_Code.f 0).bind fun t201 => (if t201.toList = ([] : List UInt8) then ((kinds_Mti.f 12).bind fun t202 => (some (t202.toList == ([] : List UInt8)))) else (some false))) else (some false))) else (some false)))) else (some false)) else (some false)) else (some false))) else (some false))) else (some false))) else (some false))) else (some false))))) = some r := H
  have A3 := Aside0.mk A30
  clear A30
  replace H := Option.bind_eq_some_iff.mp H
  obtain ⟨t189, A40, H⟩ := H
  replace H : ((kinds_Answer.f (wrap64 (1 + (wrap64 (Int.tmod (IntKind.u64.wrap (a0)) 11))))).bind fun t190 => ((comptoirlaw11_awake.f).bind fun t191 => (if t191 = true then ((kinds_OfCode.f t188).bind fun t192 => (if t192 = (wrap64 (1 + (wrap64 (Int.tmod (IntKind.u64.wrap (a0)) 11)))) then ((kinds_OfMti.f t189).bind fun t193 => (if t193 = (wrap64 (1 + (wrap64 (Int.tmod (IntKind.u64.wrap (a0)) 11)))) then ((kinds_Code.f (wrap64 (1 + (wrap64 (Int.tmod (IntKind.u64.wrap (a1)) 11))))).bind fun t194 => (if ((t188.toList == t194.toList) == ((wrap64 (1 + (wrap64 (Int.tmod (IntKind.u64.wrap (a0)) 11)))) == (wrap64 (1 + (wrap64 (Int.tmod (IntKind.u64.wrap (a1)) 11)))))) = true then ((kinds_Mti.f (wrap64 (1 + (wrap64 (Int.tmod (IntKind.u64.wrap (a1)) 11))))).bind fun t195 => (if ((t189.toList == t195.toList) == ((wrap64 (1 + (wrap64 (Int.tmod (IntKind.u64.wrap (a0)) 11)))) == (wrap64 (1 + (wrap64 (Int.tmod (IntKind.u64.wrap (a1)) 11)))))) = true then (if (t188.size : Int) = 4 then (if (t189.size : Int) = 4 then (if t190 = 0 then ((kinds_OfCode.f (⟨#[]⟩ : ByteArray)).bind fun t196 => (if t196 = 0 then ((kinds_Code.f 0).bind fun t197 => (if t197.toList = ([] : List UInt8) then ((kinds_Mti.f 12).bind fun t198 => (some (t198.toList == ([] : List UInt8)))) else (some false))) else (some false))) else ((kinds_Answer.f t190).bind fun t199 => (if t199 = 0 then ((kinds_OfCode.f (⟨#[]⟩ : ByteArray)).bind fun t200 => (if t200 = 0 then ((kinds_Code.f 0).bind fun t201 => (if t201.toList = ([] : List UInt8) then ((kinds_Mti.f 12).bind fun t202 => (some (t202.toList == ([] : List UInt8)))) else (some false))) else (some false))) else (some false)))) else (some false)) else (some false)) else (some false))) else (some false))) else (some false))) else (some false))) else (some false)))) = some r := H
  have A4 := Aside0.mk A40
  clear A40
  replace H := Option.bind_eq_some_iff.mp H
  obtain ⟨t190, A50, H⟩ := H
  replace H : ((comptoirlaw11_awake.f).bind fun t191 => (if t191 = true then ((kinds_OfCode.f t188).bind fun t192 => (if t192 = (wrap64 (1 + (wrap64 (Int.tmod (IntKind.u64.wrap (a0)) 11)))) then ((kinds_OfMti.f t189).bind fun t193 => (if t193 = (wrap64 (1 + (wrap64 (Int.tmod (IntKind.u64.wrap (a0)) 11)))) then ((kinds_Code.f (wrap64 (1 + (wrap64 (Int.tmod (IntKind.u64.wrap (a1)) 11))))).bind fun t194 => (if ((t188.toList == t194.toList) == ((wrap64 (1 + (wrap64 (Int.tmod (IntKind.u64.wrap (a0)) 11)))) == (wrap64 (1 + (wrap64 (Int.tmod (IntKind.u64.wrap (a1)) 11)))))) = true then ((kinds_Mti.f (wrap64 (1 + (wrap64 (Int.tmod (IntKind.u64.wrap (a1)) 11))))).bind fun t195 => (if ((t189.toList == t195.toList) == ((wrap64 (1 + (wrap64 (Int.tmod (IntKind.u64.wrap (a0)) 11)))) == (wrap64 (1 + (wrap64 (Int.tmod (IntKind.u64.wrap (a1)) 11)))))) = true then (if (t188.size : Int) = 4 then (if (t189.size : Int) = 4 then (if t190 = 0 then ((kinds_OfCode.f (⟨#[]⟩ : ByteArray)).bind fun t196 => (if t196 = 0 then ((kinds_Code.f 0).bind fun t197 => (if t197.toList = ([] : List UInt8) then ((kinds_Mti.f 12).bind fun t198 => (some (t198.toList == ([] : List UInt8)))) else (some false))) else (some false))) else ((kinds_Answer.f t190).bind fun t199 => (if t199 = 0 then ((kinds_OfCode.f (⟨#[]⟩ : ByteArray)).bind fun t200 => (if t200 = 0 then ((kinds_Code.f 0).bind fun t201 => (if t201.toList = ([] : List UInt8) then ((kinds_Mti.f 12).bind fun t202 => (some (t202.toList == ([] : List UInt8)))) else (some false))) else (some false))) else (some false)))) else (some false)) else (some false)) else (some false))) else (some false))) else (some false))) else (some false))) else (some false))) = some r := H
  have A5 := Aside0.mk A50
  clear A50
  replace H := Option.bind_eq_some_iff.mp H
  obtain ⟨t191, A60, H⟩ := H
  replace H : (if t191 = true then ((kinds_OfCode.f t188).bind fun t192 => (if t192 = (wrap64 (1 + (wrap64 (Int.tmod (IntKind.u64.wrap (a0)) 11)))) then ((kinds_OfMti.f t189).bind fun t193 => (if t193 = (wrap64 (1 + (wrap64 (Int.tmod (IntKind.u64.wrap (a0)) 11)))) then ((kinds_Code.f (wrap64 (1 + (wrap64 (Int.tmod (IntKind.u64.wrap (a1)) 11))))).bind fun t194 => (if ((t188.toList == t194.toList) == ((wrap64 (1 + (wrap64 (Int.tmod (IntKind.u64.wrap (a0)) 11)))) == (wrap64 (1 + (wrap64 (Int.tmod (IntKind.u64.wrap (a1)) 11)))))) = true then ((kinds_Mti.f (wrap64 (1 + (wrap64 (Int.tmod (IntKind.u64.wrap (a1)) 11))))).bind fun t195 => (if ((t189.toList == t195.toList) == ((wrap64 (1 + (wrap64 (Int.tmod (IntKind.u64.wrap (a0)) 11)))) == (wrap64 (1 + (wrap64 (Int.tmod (IntKind.u64.wrap (a1)) 11)))))) = true then (if (t188.size : Int) = 4 then (if (t189.size : Int) = 4 then (if t190 = 0 then ((kinds_OfCode.f (⟨#[]⟩ : ByteArray)).bind fun t196 => (if t196 = 0 then ((kinds_Code.f 0).bind fun t197 => (if t197.toList = ([] : List UInt8) then ((kinds_Mti.f 12).bind fun t198 => (some (t198.toList == ([] : List UInt8)))) else (some false))) else (some false))) else ((kinds_Answer.f t190).bind fun t199 => (if t199 = 0 then ((kinds_OfCode.f (⟨#[]⟩ : ByteArray)).bind fun t200 => (if t200 = 0 then ((kinds_Code.f 0).bind fun t201 => (if t201.toList = ([] : List UInt8) then ((kinds_Mti.f 12).bind fun t202 => (some (t202.toList == ([] : List UInt8)))) else (some false))) else (some false))) else (some false)))) else (some false)) else (some false)) else (some false))) else (some false))) else (some false))) else (some false))) else (some false)) = some r := H
  have A6 := Aside0.mk A60
  clear A60
  by_cases c7 : t191 = true
  · subst c7
    have H1 : ((kinds_OfCode.f t188).bind fun t192 => (if t192 = (wrap64 (1 + (wrap64 (Int.tmod (IntKind.u64.wrap (a0)) 11)))) then ((kinds_OfMti.f t189).bind fun t193 => (if t193 = (wrap64 (1 + (wrap64 (Int.tmod (IntKind.u64.wrap (a0)) 11)))) then ((kinds_Code.f (wrap64 (1 + (wrap64 (Int.tmod (IntKind.u64.wrap (a1)) 11))))).bind fun t194 => (if ((t188.toList == t194.toList) == ((wrap64 (1 + (wrap64 (Int.tmod (IntKind.u64.wrap (a0)) 11)))) == (wrap64 (1 + (wrap64 (Int.tmod (IntKind.u64.wrap (a1)) 11)))))) = true then ((kinds_Mti.f (wrap64 (1 + (wrap64 (Int.tmod (IntKind.u64.wrap (a1)) 11))))).bind fun t195 => (if ((t189.toList == t195.toList) == ((wrap64 (1 + (wrap64 (Int.tmod (IntKind.u64.wrap (a0)) 11)))) == (wrap64 (1 + (wrap64 (Int.tmod (IntKind.u64.wrap (a1)) 11)))))) = true then (if (t188.size : Int) = 4 then (if (t189.size : Int) = 4 then (if t190 = 0 then ((kinds_OfCode.f (⟨#[]⟩ : ByteArray)).bind fun t196 => (if t196 = 0 then ((kinds_Code.f 0).bind fun t197 => (if t197.toList = ([] : List UInt8) then ((kinds_Mti.f 12).bind fun t198 => (some (t198.toList == ([] : List UInt8)))) else (some false))) else (some false))) else ((kinds_Answer.f t190).bind fun t199 => (if t199 = 0 then ((kinds_OfCode.f (⟨#[]⟩ : ByteArray)).bind fun t200 => (if t200 = 0 then ((kinds_Code.f 0).bind fun t201 => (if t201.toList = ([] : List UInt8) then ((kinds_Mti.f 12).bind fun t202 => (some (t202.toList == ([] : List UInt8)))) else (some false))) else (some false))) else (some false)))) else (some false)) else (some false)) else (some false))) else (some false))) else (some false))) else (some false))) = some r := by rw [if_pos rfl] at H; exact H
    clear H
    have H := H1
    clear H1
    replace H := Option.bind_eq_some_iff.mp H
    obtain ⟨t192, A80, H⟩ := H
    replace H : (if t192 = (wrap64 (1 + (wrap64 (Int.tmod (IntKind.u64.wrap (a0)) 11)))) then ((kinds_OfMti.f t189).bind fun t193 => (if t193 = (wrap64 (1 + (wrap64 (Int.tmod (IntKind.u64.wrap (a0)) 11)))) then ((kinds_Code.f (wrap64 (1 + (wrap64 (Int.tmod (IntKind.u64.wrap (a1)) 11))))).bind fun t194 => (if ((t188.toList == t194.toList) == ((wrap64 (1 + (wrap64 (Int.tmod (IntKind.u64.wrap (a0)) 11)))) == (wrap64 (1 + (wrap64 (Int.tmod (IntKind.u64.wrap (a1)) 11)))))) = true then ((kinds_Mti.f (wrap64 (1 + (wrap64 (Int.tmod (IntKind.u64.wrap (a1)) 11))))).bind fun t195 => (if ((t189.toList == t195.toList) == ((wrap64 (1 + (wrap64 (Int.tmod (IntKind.u64.wrap (a0)) 11)))) == (wrap64 (1 + (wrap64 (Int.tmod (IntKind.u64.wrap (a1)) 11)))))) = true then (if (t188.size : Int) = 4 then (if (t189.size : Int) = 4 then (if t190 = 0 then ((kinds_OfCode.f (⟨#[]⟩ : ByteArray)).bind fun t196 => (if t196 = 0 then ((kinds_Code.f 0).bind fun t197 => (if t197.toList = ([] : List UInt8) then ((kinds_Mti.f 12).bind fun t198 => (some (t198.toList == ([] : List UInt8)))) else (some false))) else (some false))) else ((kinds_Answer.f t190).bind fun t199 => (if t199 = 0 then ((kinds_OfCode.f (⟨#[]⟩ : ByteArray)).bind fun t200 => (if t200 = 0 then ((kinds_Code.f 0).bind fun t201 => (if t201.toList = ([] : List UInt8) then ((kinds_Mti.f 12).bind fun t202 => (some (t202.toList == ([] : List UInt8)))) else (some false))) else (some false))) else (some false)))) else (some false)) else (some false)) else (some false))) else (some false))) else (some false))) else (some false)) = some r := H
    have A8 := Aside0.mk A80
    clear A80
    by_cases c9 : t192 = (wrap64 (1 + (wrap64 (Int.tmod (IntKind.u64.wrap (a0)) 11))))
    · rw [if_pos c9] at H
      have c9b0 : (t192 == (wrap64 (1 + (wrap64 (Int.tmod (IntKind.u64.wrap (a0)) 11))))) = true := beq_iff_eq.mpr c9
      have c9b1 : (t192 != (wrap64 (1 + (wrap64 (Int.tmod (IntKind.u64.wrap (a0)) 11))))) = false := bne_eq_false_iff_eq.mpr c9
      clear c9
      replace H := Option.bind_eq_some_iff.mp H
      obtain ⟨t193, A100, H⟩ := H
      replace H : (if t193 = (wrap64 (1 + (wrap64 (Int.tmod (IntKind.u64.wrap (a0)) 11)))) then ((kinds_Code.f (wrap64 (1 + (wrap64 (Int.tmod (IntKind.u64.wrap (a1)) 11))))).bind fun t194 => (if ((t188.toList == t194.toList) == ((wrap64 (1 + (wrap64 (Int.tmod (IntKind.u64.wrap (a0)) 11)))) == (wrap64 (1 + (wrap64 (Int.tmod (IntKind.u64.wrap (a1)) 11)))))) = true then ((kinds_Mti.f (wrap64 (1 + (wrap64 (Int.tmod (IntKind.u64.wrap (a1)) 11))))).bind fun t195 => (if ((t189.toList == t195.toList) == ((wrap64 (1 + (wrap64 (Int.tmod (IntKind.u64.wrap (a0)) 11)))) == (wrap64 (1 + (wrap64 (Int.tmod (IntKind.u64.wrap (a1)) 11)))))) = true then (if (t188.size : Int) = 4 then (if (t189.size : Int) = 4 then (if t190 = 0 then ((kinds_OfCode.f (⟨#[]⟩ : ByteArray)).bind fun t196 => (if t196 = 0 then ((kinds_Code.f 0).bind fun t197 => (if t197.toList = ([] : List UInt8) then ((kinds_Mti.f 12).bind fun t198 => (some (t198.toList == ([] : List UInt8)))) else (some false))) else (some false))) else ((kinds_Answer.f t190).bind fun t199 => (if t199 = 0 then ((kinds_OfCode.f (⟨#[]⟩ : ByteArray)).bind fun t200 => (if t200 = 0 then ((kinds_Code.f 0).bind fun t201 => (if t201.toList = ([] : List UInt8) then ((kinds_Mti.f 12).bind fun t202 => (some (t202.toList == ([] : List UInt8)))) else (some false))) else (some false))) else (some false)))) else (some false)) else (some false)) else (some false))) else (some false))) else (some false)) = some r := H
      have A10 := Aside0.mk A100
      clear A100
      by_cases c11 : t193 = (wrap64 (1 + (wrap64 (Int.tmod (IntKind.u64.wrap (a0)) 11))))
      · rw [if_pos c11] at H
        have c11b0 : (t193 == (wrap64 (1 + (wrap64 (Int.tmod (IntKind.u64.wrap (a0)) 11))))) = true := beq_iff_eq.mpr c11
        have c11b1 : (t193 != (wrap64 (1 + (wrap64 (Int.tmod (IntKind.u64.wrap (a0)) 11))))) = false := bne_eq_false_iff_eq.mpr c11
        clear c11
        replace H := Option.bind_eq_some_iff.mp H
        obtain ⟨t194, A120, H⟩ := H
        replace H : (if ((t188.toList == t194.toList) == ((wrap64 (1 + (wrap64 (Int.tmod (IntKind.u64.wrap (a0)) 11)))) == (wrap64 (1 + (wrap64 (Int.tmod (IntKind.u64.wrap (a1)) 11)))))) = true then ((kinds_Mti.f (wrap64 (1 + (wrap64 (Int.tmod (IntKind.u64.wrap (a1)) 11))))).bind fun t195 => (if ((t189.toList == t195.toList) == ((wrap64 (1 + (wrap64 (Int.tmod (IntKind.u64.wrap (a0)) 11)))) == (wrap64 (1 + (wrap64 (Int.tmod (IntKind.u64.wrap (a1)) 11)))))) = true then (if (t188.size : Int) = 4 then (if (t189.size : Int) = 4 then (if t190 = 0 then ((kinds_OfCode.f (⟨#[]⟩ : ByteArray)).bind fun t196 => (if t196 = 0 then ((kinds_Code.f 0).bind fun t197 => (if t197.toList = ([] : List UInt8) then ((kinds_Mti.f 12).bind fun t198 => (some (t198.toList == ([] : List UInt8)))) else (some false))) else (some false))) else ((kinds_Answer.f t190).bind fun t199 => (if t199 = 0 then ((kinds_OfCode.f (⟨#[]⟩ : ByteArray)).bind fun t200 => (if t200 = 0 then ((kinds_Code.f 0).bind fun t201 => (if t201.toList = ([] : List UInt8) then ((kinds_Mti.f 12).bind fun t202 => (some (t202.toList == ([] : List UInt8)))) else (some false))) else (some false))) else (some false)))) else (some false)) else (some false)) else (some false))) else (some false)) = some r := H
        have A12 := Aside0.mk A120
        clear A120
        by_cases c13 : ((t188.toList == t194.toList) == ((wrap64 (1 + (wrap64 (Int.tmod (IntKind.u64.wrap (a0)) 11)))) == (wrap64 (1 + (wrap64 (Int.tmod (IntKind.u64.wrap (a1)) 11)))))) = true
        · rw [if_pos c13] at H
          have c13b0 : ((t188.toList == t194.toList) == ((wrap64 (1 + (wrap64 (Int.tmod (IntKind.u64.wrap (a0)) 11)))) == (wrap64 (1 + (wrap64 (Int.tmod (IntKind.u64.wrap (a1)) 11)))))) = true := c13
          (try (have c13b1 : decide ((t188.toList == t194.toList) = ((wrap64 (1 + (wrap64 (Int.tmod (IntKind.u64.wrap (a0)) 11)))) == (wrap64 (1 + (wrap64 (Int.tmod (IntKind.u64.wrap (a1)) 11)))))) = true := by simpa using c13))
          (try (have c13b2 : ((t188.toList == t194.toList) == ((wrap64 (1 + (wrap64 (Int.tmod (IntKind.u64.wrap (a0)) 11)))) == (wrap64 (1 + (wrap64 (Int.tmod (IntKind.u64.wrap (a1)) 11)))))) = true := by simpa using c13))
          clear c13
          replace H := Option.bind_eq_some_iff.mp H
          obtain ⟨t195, A140, H⟩ := H
          replace H : (if ((t189.toList == t195.toList) == ((wrap64 (1 + (wrap64 (Int.tmod (IntKind.u64.wrap (a0)) 11)))) == (wrap64 (1 + (wrap64 (Int.tmod (IntKind.u64.wrap (a1)) 11)))))) = true then (if (t188.size : Int) = 4 then (if (t189.size : Int) = 4 then (if t190 = 0 then ((kinds_OfCode.f (⟨#[]⟩ : ByteArray)).bind fun t196 => (if t196 = 0 then ((kinds_Code.f 0).bind fun t197 => (if t197.toList = ([] : List UInt8) then ((kinds_Mti.f 12).bind fun t198 => (some (t198.toList == ([] : List UInt8)))) else (some false))) else (some false))) else ((kinds_Answer.f t190).bind fun t199 => (if t199 = 0 then ((kinds_OfCode.f (⟨#[]⟩ : ByteArray)).bind fun t200 => (if t200 = 0 then ((kinds_Code.f 0).bind fun t201 => (if t201.toList = ([] : List UInt8) then ((kinds_Mti.f 12).bind fun t202 => (some (t202.toList == ([] : List UInt8)))) else (some false))) else (some false))) else (some false)))) else (some false)) else (some false)) else (some false)) = some r := H
          have A14 := Aside0.mk A140
          clear A140
          by_cases c15 : ((t189.toList == t195.toList) == ((wrap64 (1 + (wrap64 (Int.tmod (IntKind.u64.wrap (a0)) 11)))) == (wrap64 (1 + (wrap64 (Int.tmod (IntKind.u64.wrap (a1)) 11)))))) = true
          · rw [if_pos c15] at H
            have c15b0 : ((t189.toList == t195.toList) == ((wrap64 (1 + (wrap64 (Int.tmod (IntKind.u64.wrap (a0)) 11)))) == (wrap64 (1 + (wrap64 (Int.tmod (IntKind.u64.wrap (a1)) 11)))))) = true := c15
            (try (have c15b1 : decide ((t189.toList == t195.toList) = ((wrap64 (1 + (wrap64 (Int.tmod (IntKind.u64.wrap (a0)) 11)))) == (wrap64 (1 + (wrap64 (Int.tmod (IntKind.u64.wrap (a1)) 11)))))) = true := by simpa using c15))
            (try (have c15b2 : ((t189.toList == t195.toList) == ((wrap64 (1 + (wrap64 (Int.tmod (IntKind.u64.wrap (a0)) 11)))) == (wrap64 (1 + (wrap64 (Int.tmod (IntKind.u64.wrap (a1)) 11)))))) = true := by simpa using c15))
            clear c15
            by_cases c16 : (t188.size : Int) = 4
            · rw [if_pos c16] at H
              have c16b0 : ((t188.size : Int) == 4) = true := beq_iff_eq.mpr c16
              have c16b1 : ((t188.size : Int) != 4) = false := bne_eq_false_iff_eq.mpr c16
              clear c16
              by_cases c17 : (t189.size : Int) = 4
              · rw [if_pos c17] at H
                have c17b0 : ((t189.size : Int) == 4) = true := beq_iff_eq.mpr c17
                have c17b1 : ((t189.size : Int) != 4) = false := bne_eq_false_iff_eq.mpr c17
                clear c17
                by_cases c18 : t190 = 0
                · rw [if_pos c18] at H
                  have c18b0 : (t190 == 0) = true := beq_iff_eq.mpr c18
                  have c18b1 : (t190 != 0) = false := bne_eq_false_iff_eq.mpr c18
                  clear c18
                  replace H := Option.bind_eq_some_iff.mp H
                  obtain ⟨t196, A190, H⟩ := H
                  replace H : (if t196 = 0 then ((kinds_Code.f 0).bind fun t197 => (if t197.toList = ([] : List UInt8) then ((kinds_Mti.f 12).bind fun t198 => (some (t198.toList == ([] : List UInt8)))) else (some false))) else (some false)) = some r := H
                  have A19 := Aside0.mk A190
                  clear A190
                  by_cases c20 : t196 = 0
                  · rw [if_pos c20] at H
                    have c20b0 : (t196 == 0) = true := beq_iff_eq.mpr c20
                    have c20b1 : (t196 != 0) = false := bne_eq_false_iff_eq.mpr c20
                    clear c20
                    replace H := Option.bind_eq_some_iff.mp H
                    obtain ⟨t197, A210, H⟩ := H
                    replace H : (if t197.toList = ([] : List UInt8) then ((kinds_Mti.f 12).bind fun t198 => (some (t198.toList == ([] : List UInt8)))) else (some false)) = some r := H
                    have A21 := Aside0.mk A210
                    clear A210
                    by_cases c22 : t197.toList = ([] : List UInt8)
                    · rw [if_pos c22] at H
                      have c22b0 : (t197.toList == ([] : List UInt8)) = true := beq_iff_eq.mpr c22
                      have c22b1 : (t197.toList != ([] : List UInt8)) = false := bne_eq_false_iff_eq.mpr c22
                      clear c22
                      replace H := Option.bind_eq_some_iff.mp H
                      obtain ⟨t198, A230, H⟩ := H
                      replace H : (some (t198.toList == ([] : List UInt8))) = some r := H
                      have A23 := Aside0.mk A230
                      clear A230
                      obtain rfl := Option.some.inj H
                      simp only [Option.some.injEq, Prod.mk.injEq] at H
                      obtain ⟨rfl⟩ := H
                      go_enter Try.func7, Try.ntmps7
                      go_wp2_with (first | ((first | ((with_reducible refine gate_callee (f := 19) rfl ?_); refine goesL_ (some 19) rfl rfl Try.func19 (by kernel_rfl) rfl #[.int .i64 (wrap64 (1 + (wrap64 (Int.tmod (IntKind.u64.wrap (a0)) 11))))] rfl (by (try simp only [List.map_toArray, List.map_cons, List.map_nil]); first | done | rfl | (simp only [List.length_drop, List.length_take]; rfl)) ?_; (with_reducible refine (kinds_Code.calls (wrap64 (1 + (wrap64 (Int.tmod (IntKind.u64.wrap (a0)) 11)))) t188 _ A3.out).mono ?_); rintro e w24 ⟨rfl, hb⟩; refine ⟨_, rfl, ?_⟩) | (go_at_call 19; (with_reducible refine (kinds_Code.calls (wrap64 (1 + (wrap64 (Int.tmod (IntKind.u64.wrap (a0)) 11)))) t188 _ A3.out).mono ?_); rintro e w24 ⟨rfl, hb⟩)); have n0_ := Aside0.mk (below_step (by repeat (first | (with_reducible first | exact HB.out | apply below_alloc | apply pw_below_drewN | apply below_drew1) | exact HB.out)) hb); clear HB; have HB := n0_; clear n0_; (try clear hb); (try clear hb2); (try clear hk); (try clear hi)) | ((first | ((with_reducible refine gate_callee (f := 21) rfl ?_); refine goesL_ (some 21) rfl rfl Try.func21 (by kernel_rfl) rfl #[.int .i64 (wrap64 (1 + (wrap64 (Int.tmod (IntKind.u64.wrap (a0)) 11))))] rfl (by (try simp only [List.map_toArray, List.map_cons, List.map_nil]); first | done | rfl | (simp only [List.length_drop, List.length_take]; rfl)) ?_; (with_reducible refine (kinds_Mti.calls (wrap64 (1 + (wrap64 (Int.tmod (IntKind.u64.wrap (a0)) 11)))) t189 _ A4.out).mono ?_); rintro e w25 ⟨rfl, hb⟩; refine ⟨_, rfl, ?_⟩) | (go_at_call 21; (with_reducible refine (kinds_Mti.calls (wrap64 (1 + (wrap64 (Int.tmod (IntKind.u64.wrap (a0)) 11)))) t189 _ A4.out).mono ?_); rintro e w25 ⟨rfl, hb⟩)); have n0_ := Aside0.mk (below_step (by repeat (first | (with_reducible first | exact HB.out | apply below_alloc | apply pw_below_drewN | apply below_drew1) | exact HB.out)) hb); clear HB; have HB := n0_; clear n0_; (try clear hb); (try clear hb2); (try clear hk); (try clear hi)) | ((first | ((with_reducible refine gate_callee (f := 16) rfl ?_); refine goesL_ (some 23) rfl rfl Try.func16 (by kernel_rfl) rfl #[.int .i64 (wrap64 (1 + (wrap64 (Int.tmod (IntKind.u64.wrap (a0)) 11))))] rfl (by (try simp only [List.map_toArray, List.map_cons, List.map_nil]); first | done | rfl | (simp only [List.length_drop, List.length_take]; rfl)) ?_; (with_reducible refine (kinds_Answer.calls (wrap64 (1 + (wrap64 (Int.tmod (IntKind.u64.wrap (a0)) 11)))) t190 _ A5.out).mono ?_); rintro e w' ⟨rfl, ⟨nd, rfl⟩⟩; refine ⟨_, rfl, ?_⟩) | (go_at_call 16; (with_reducible refine (kinds_Answer.calls (wrap64 (1 + (wrap64 (Int.tmod (IntKind.u64.wrap (a0)) 11)))) t190 _ A5.out).mono ?_); rintro e w' ⟨rfl, ⟨nd, rfl⟩⟩))) | ((first | ((with_reducible refine gate_callee (f := 9) rfl ?_); refine goesL_ (some 24) rfl rfl Try.func9 (by kernel_rfl) rfl #[] rfl (by (try simp only [List.map_toArray, List.map_cons, List.map_nil]); first | done | rfl | (simp only [List.length_drop, List.length_take]; rfl)) ?_; (with_reducible refine (comptoirlaw11_awake.calls  true _ A6.out).mono ?_); rintro e w26 ⟨rfl, hb⟩; refine ⟨_, rfl, ?_⟩) | (go_at_call 9; (with_reducible refine (comptoirlaw11_awake.calls  true _ A6.out).mono ?_); rintro e w26 ⟨rfl, hb⟩)); have n0_ := Aside0.mk (below_step (by repeat (first | (with_reducible first | exact HB.out | apply below_alloc | apply pw_below_drewN | apply below_drew1) | exact HB.out)) hb); clear HB; have HB := n0_; clear n0_; (try clear hb); (try clear hb2); (try clear hk); (try clear hi)) | (go_at_call 18; (with_reducible refine (kinds_OfCode.calls t188 t192 _ A8.out).mono ?_); rintro e w27 ⟨rfl, hb⟩; have n0_ := Aside0.mk (below_step (by repeat (first | (with_reducible first | exact HB.out | apply below_alloc | apply pw_below_drewN | apply below_drew1) | exact HB.out)) hb); clear HB; have HB := n0_; clear n0_; (try clear hb); (try clear hb2); (try clear hk); (try clear hi)))
                      as_aux_lemma =>
                        (go_at_call 24; (with_reducible refine (kinds_OfMti.calls t189 t193 _ A10.out).mono ?_); rintro e w28 ⟨rfl, hb⟩; have n0_ := Aside0.mk (below_step (by repeat (first | (with_reducible first | exact HB.out | apply below_alloc | apply pw_below_drewN | apply below_drew1) | exact HB.out)) hb); clear HB; have HB := n0_; clear n0_; (try clear hb); (try clear hb2); (try clear hk); (try clear hi))
                        go_wp2_with (first | (go_at_call 19; (with_reducible refine (kinds_Code.calls (wrap64 (1 + (wrap64 (Int.tmod (IntKind.u64.wrap (a1)) 11)))) t194 _ A12.out).mono ?_); rintro e w29 ⟨rfl, hb⟩; have n0_ := Aside0.mk (below_step (by repeat (first | (with_reducible first | exact HB.out | apply below_alloc | apply pw_below_drewN | apply below_drew1) | exact HB.out)) hb); clear HB; have HB := n0_; clear n0_; (try clear hb); (try clear hb2); (try clear hk); (try clear hi)) | (go_at_call 21; (with_reducible refine (kinds_Mti.calls (wrap64 (1 + (wrap64 (Int.tmod (IntKind.u64.wrap (a1)) 11)))) t195 _ A14.out).mono ?_); rintro e w30 ⟨rfl, hb⟩; have n0_ := Aside0.mk (below_step (by repeat (first | (with_reducible first | exact HB.out | apply below_alloc | apply pw_below_drewN | apply below_drew1) | exact HB.out)) hb); clear HB; have HB := n0_; clear n0_; (try clear hb); (try clear hb2); (try clear hk); (try clear hi)) | (go_at_call 18; (with_reducible refine (kinds_OfCode.calls (⟨#[]⟩ : ByteArray) t196 _ A19.out).mono ?_); rintro e w31 ⟨rfl, hb⟩; have n0_ := Aside0.mk (below_step (by repeat (first | (with_reducible first | exact HB.out | apply below_alloc | apply pw_below_drewN | apply below_drew1) | exact HB.out)) hb); clear HB; have HB := n0_; clear n0_; (try clear hb); (try clear hb2); (try clear hk); (try clear hi)) | (go_at_call 19; (with_reducible refine (kinds_Code.calls 0 t197 _ A21.out).mono ?_); rintro e w32 ⟨rfl, hb⟩; have n0_ := Aside0.mk (below_step (by repeat (first | (with_reducible first | exact HB.out | apply below_alloc | apply pw_below_drewN | apply below_drew1) | exact HB.out)) hb); clear HB; have HB := n0_; clear n0_; (try clear hb); (try clear hb2); (try clear hk); (try clear hi)) | (go_at_call 21; (with_reducible refine (kinds_Mti.calls 12 t198 _ A23.out).mono ?_); rintro e w33 ⟨rfl, hb⟩; have n0_ := Aside0.mk (below_step (by repeat (first | (with_reducible first | exact HB.out | apply below_alloc | apply pw_below_drewN | apply below_drew1) | exact HB.out)) hb); clear HB; have HB := n0_; clear n0_; (try clear hb); (try clear hb2); (try clear hk); (try clear hi)))
                        go_ret
                        exact ⟨by first | rfl | (simp [errW_none, errW_some] <;> rfl) | (simp [*, errW_none, errW_some] <;> rfl), by repeat (first | (with_reducible first | exact HB.out | apply below_alloc | apply pw_below_drewN | apply below_drew1) | exact HB.out)⟩
                    · rw [if_neg c22] at H
                      have c22b0 : (t197.toList == ([] : List UInt8)) = false := beq_eq_false_iff_ne.mpr c22
                      have c22b1 : (t197.toList != ([] : List UInt8)) = true := bne_iff_ne.mpr c22
                      obtain rfl := Option.some.inj H
                      exact absurd HT_.out (by decide)
                  · rw [if_neg c20] at H
                    have c20b0 : (t196 == 0) = false := beq_eq_false_iff_ne.mpr c20
                    have c20b1 : (t196 != 0) = true := bne_iff_ne.mpr c20
                    obtain rfl := Option.some.inj H
                    exact absurd HT_.out (by decide)
                · rw [if_neg c18] at H
                  have c18b0 : (t190 == 0) = false := beq_eq_false_iff_ne.mpr c18
                  have c18b1 : (t190 != 0) = true := bne_iff_ne.mpr c18
                  replace H := Option.bind_eq_some_iff.mp H
                  obtain ⟨t199, A340, H⟩ := H
                  replace H : (if t199 = 0 then ((kinds_OfCode.f (⟨#[]⟩ : ByteArray)).bind fun t200 => (if t200 = 0 then ((kinds_Code.f 0).bind fun t201 => (if t201.toList = ([] : List UInt8) then ((kinds_Mti.f 12).bind fun t202 => (some (t202.toList == ([] : List UInt8)))) else (some false))) else (some false))) else (some false)) = some r := H
                  have A34 := Aside0.mk A340
                  clear A340
                  by_cases c35 : t199 = 0
                  · rw [if_pos c35] at H
                    have c35b0 : (t199 == 0) = true := beq_iff_eq.mpr c35
                    have c35b1 : (t199 != 0) = false := bne_eq_false_iff_eq.mpr c35
                    clear c35
                    replace H := Option.bind_eq_some_iff.mp H
                    obtain ⟨t200, A360, H⟩ := H
                    replace H : (if t200 = 0 then ((kinds_Code.f 0).bind fun t201 => (if t201.toList = ([] : List UInt8) then ((kinds_Mti.f 12).bind fun t202 => (some (t202.toList == ([] : List UInt8)))) else (some false))) else (some false)) = some r := H
                    have A36 := Aside0.mk A360
                    clear A360
                    by_cases c37 : t200 = 0
                    · rw [if_pos c37] at H
                      have c37b0 : (t200 == 0) = true := beq_iff_eq.mpr c37
                      have c37b1 : (t200 != 0) = false := bne_eq_false_iff_eq.mpr c37
                      clear c37
                      replace H := Option.bind_eq_some_iff.mp H
                      obtain ⟨t201, A380, H⟩ := H
                      replace H : (if t201.toList = ([] : List UInt8) then ((kinds_Mti.f 12).bind fun t202 => (some (t202.toList == ([] : List UInt8)))) else (some false)) = some r := H
                      have A38 := Aside0.mk A380
                      clear A380
                      by_cases c39 : t201.toList = ([] : List UInt8)
                      · rw [if_pos c39] at H
                        have c39b0 : (t201.toList == ([] : List UInt8)) = true := beq_iff_eq.mpr c39
                        have c39b1 : (t201.toList != ([] : List UInt8)) = false := bne_eq_false_iff_eq.mpr c39
                        clear c39
                        replace H := Option.bind_eq_some_iff.mp H
                        obtain ⟨t202, A400, H⟩ := H
                        replace H : (some (t202.toList == ([] : List UInt8))) = some r := H
                        have A40 := Aside0.mk A400
                        clear A400
                        obtain rfl := Option.some.inj H
                        simp only [Option.some.injEq, Prod.mk.injEq] at H
                        obtain ⟨rfl⟩ := H
                        go_enter Try.func7, Try.ntmps7
                        go_wp2_with (first | ((first | ((with_reducible refine gate_callee (f := 19) rfl ?_); refine goesL_ (some 19) rfl rfl Try.func19 (by kernel_rfl) rfl #[.int .i64 (wrap64 (1 + (wrap64 (Int.tmod (IntKind.u64.wrap (a0)) 11))))] rfl (by (try simp only [List.map_toArray, List.map_cons, List.map_nil]); first | done | rfl | (simp only [List.length_drop, List.length_take]; rfl)) ?_; (with_reducible refine (kinds_Code.calls (wrap64 (1 + (wrap64 (Int.tmod (IntKind.u64.wrap (a0)) 11)))) t188 _ A3.out).mono ?_); rintro e w41 ⟨rfl, hb⟩; refine ⟨_, rfl, ?_⟩) | (go_at_call 19; (with_reducible refine (kinds_Code.calls (wrap64 (1 + (wrap64 (Int.tmod (IntKind.u64.wrap (a0)) 11)))) t188 _ A3.out).mono ?_); rintro e w41 ⟨rfl, hb⟩)); have n0_ := Aside0.mk (below_step (by repeat (first | (with_reducible first | exact HB.out | apply below_alloc | apply pw_below_drewN | apply below_drew1) | exact HB.out)) hb); clear HB; have HB := n0_; clear n0_; (try clear hb); (try clear hb2); (try clear hk); (try clear hi)) | ((first | ((with_reducible refine gate_callee (f := 21) rfl ?_); refine goesL_ (some 21) rfl rfl Try.func21 (by kernel_rfl) rfl #[.int .i64 (wrap64 (1 + (wrap64 (Int.tmod (IntKind.u64.wrap (a0)) 11))))] rfl (by (try simp only [List.map_toArray, List.map_cons, List.map_nil]); first | done | rfl | (simp only [List.length_drop, List.length_take]; rfl)) ?_; (with_reducible refine (kinds_Mti.calls (wrap64 (1 + (wrap64 (Int.tmod (IntKind.u64.wrap (a0)) 11)))) t189 _ A4.out).mono ?_); rintro e w42 ⟨rfl, hb⟩; refine ⟨_, rfl, ?_⟩) | (go_at_call 21; (with_reducible refine (kinds_Mti.calls (wrap64 (1 + (wrap64 (Int.tmod (IntKind.u64.wrap (a0)) 11)))) t189 _ A4.out).mono ?_); rintro e w42 ⟨rfl, hb⟩)); have n0_ := Aside0.mk (below_step (by repeat (first | (with_reducible first | exact HB.out | apply below_alloc | apply pw_below_drewN | apply below_drew1) | exact HB.out)) hb); clear HB; have HB := n0_; clear n0_; (try clear hb); (try clear hb2); (try clear hk); (try clear hi)) | ((first | ((with_reducible refine gate_callee (f := 16) rfl ?_); refine goesL_ (some 23) rfl rfl Try.func16 (by kernel_rfl) rfl #[.int .i64 (wrap64 (1 + (wrap64 (Int.tmod (IntKind.u64.wrap (a0)) 11))))] rfl (by (try simp only [List.map_toArray, List.map_cons, List.map_nil]); first | done | rfl | (simp only [List.length_drop, List.length_take]; rfl)) ?_; (with_reducible refine (kinds_Answer.calls (wrap64 (1 + (wrap64 (Int.tmod (IntKind.u64.wrap (a0)) 11)))) t190 _ A5.out).mono ?_); rintro e w' ⟨rfl, ⟨nd, rfl⟩⟩; refine ⟨_, rfl, ?_⟩) | (go_at_call 16; (with_reducible refine (kinds_Answer.calls (wrap64 (1 + (wrap64 (Int.tmod (IntKind.u64.wrap (a0)) 11)))) t190 _ A5.out).mono ?_); rintro e w' ⟨rfl, ⟨nd, rfl⟩⟩))) | ((first | ((with_reducible refine gate_callee (f := 9) rfl ?_); refine goesL_ (some 24) rfl rfl Try.func9 (by kernel_rfl) rfl #[] rfl (by (try simp only [List.map_toArray, List.map_cons, List.map_nil]); first | done | rfl | (simp only [List.length_drop, List.length_take]; rfl)) ?_; (with_reducible refine (comptoirlaw11_awake.calls  true _ A6.out).mono ?_); rintro e w43 ⟨rfl, hb⟩; refine ⟨_, rfl, ?_⟩) | (go_at_call 9; (with_reducible refine (comptoirlaw11_awake.calls  true _ A6.out).mono ?_); rintro e w43 ⟨rfl, hb⟩)); have n0_ := Aside0.mk (below_step (by repeat (first | (with_reducible first | exact HB.out | apply below_alloc | apply pw_below_drewN | apply below_drew1) | exact HB.out)) hb); clear HB; have HB := n0_; clear n0_; (try clear hb); (try clear hb2); (try clear hk); (try clear hi)) | (go_at_call 18; (with_reducible refine (kinds_OfCode.calls t188 t192 _ A8.out).mono ?_); rintro e w44 ⟨rfl, hb⟩; have n0_ := Aside0.mk (below_step (by repeat (first | (with_reducible first | exact HB.out | apply below_alloc | apply pw_below_drewN | apply below_drew1) | exact HB.out)) hb); clear HB; have HB := n0_; clear n0_; (try clear hb); (try clear hb2); (try clear hk); (try clear hi)))
                        as_aux_lemma =>
                          (go_at_call 24; (with_reducible refine (kinds_OfMti.calls t189 t193 _ A10.out).mono ?_); rintro e w45 ⟨rfl, hb⟩; have n0_ := Aside0.mk (below_step (by repeat (first | (with_reducible first | exact HB.out | apply below_alloc | apply pw_below_drewN | apply below_drew1) | exact HB.out)) hb); clear HB; have HB := n0_; clear n0_; (try clear hb); (try clear hb2); (try clear hk); (try clear hi))
                          go_wp2_with (first | (go_at_call 19; (with_reducible refine (kinds_Code.calls (wrap64 (1 + (wrap64 (Int.tmod (IntKind.u64.wrap (a1)) 11)))) t194 _ A12.out).mono ?_); rintro e w46 ⟨rfl, hb⟩; have n0_ := Aside0.mk (below_step (by repeat (first | (with_reducible first | exact HB.out | apply below_alloc | apply pw_below_drewN | apply below_drew1) | exact HB.out)) hb); clear HB; have HB := n0_; clear n0_; (try clear hb); (try clear hb2); (try clear hk); (try clear hi)) | (go_at_call 21; (with_reducible refine (kinds_Mti.calls (wrap64 (1 + (wrap64 (Int.tmod (IntKind.u64.wrap (a1)) 11)))) t195 _ A14.out).mono ?_); rintro e w47 ⟨rfl, hb⟩; have n0_ := Aside0.mk (below_step (by repeat (first | (with_reducible first | exact HB.out | apply below_alloc | apply pw_below_drewN | apply below_drew1) | exact HB.out)) hb); clear HB; have HB := n0_; clear n0_; (try clear hb); (try clear hb2); (try clear hk); (try clear hi)) | (go_at_call 16; (with_reducible refine (kinds_Answer.calls t190 t199 _ A34.out).mono ?_); rintro e w' ⟨rfl, ⟨nd, rfl⟩⟩) | (go_at_call 18; (with_reducible refine (kinds_OfCode.calls (⟨#[]⟩ : ByteArray) t200 _ A36.out).mono ?_); rintro e w48 ⟨rfl, hb⟩; have n0_ := Aside0.mk (below_step (by repeat (first | (with_reducible first | exact HB.out | apply below_alloc | apply pw_below_drewN | apply below_drew1) | exact HB.out)) hb); clear HB; have HB := n0_; clear n0_; (try clear hb); (try clear hb2); (try clear hk); (try clear hi)) | (go_at_call 19; (with_reducible refine (kinds_Code.calls 0 t201 _ A38.out).mono ?_); rintro e w49 ⟨rfl, hb⟩; have n0_ := Aside0.mk (below_step (by repeat (first | (with_reducible first | exact HB.out | apply below_alloc | apply pw_below_drewN | apply below_drew1) | exact HB.out)) hb); clear HB; have HB := n0_; clear n0_; (try clear hb); (try clear hb2); (try clear hk); (try clear hi)))
                          as_aux_lemma =>
                            (go_at_call 21; (with_reducible refine (kinds_Mti.calls 12 t202 _ A40.out).mono ?_); rintro e w50 ⟨rfl, hb⟩; have n0_ := Aside0.mk (below_step (by repeat (first | (with_reducible first | exact HB.out | apply below_alloc | apply pw_below_drewN | apply below_drew1) | exact HB.out)) hb); clear HB; have HB := n0_; clear n0_; (try clear hb); (try clear hb2); (try clear hk); (try clear hi))
                            go_wp2
                            go_ret
                            exact ⟨by first | rfl | (simp [errW_none, errW_some] <;> rfl) | (simp [*, errW_none, errW_some] <;> rfl), by repeat (first | (with_reducible first | exact HB.out | apply below_alloc | apply pw_below_drewN | apply below_drew1) | exact HB.out)⟩
                      · rw [if_neg c39] at H
                        have c39b0 : (t201.toList == ([] : List UInt8)) = false := beq_eq_false_iff_ne.mpr c39
                        have c39b1 : (t201.toList != ([] : List UInt8)) = true := bne_iff_ne.mpr c39
                        obtain rfl := Option.some.inj H
                        exact absurd HT_.out (by decide)
                    · rw [if_neg c37] at H
                      have c37b0 : (t200 == 0) = false := beq_eq_false_iff_ne.mpr c37
                      have c37b1 : (t200 != 0) = true := bne_iff_ne.mpr c37
                      obtain rfl := Option.some.inj H
                      exact absurd HT_.out (by decide)
                  · rw [if_neg c35] at H
                    have c35b0 : (t199 == 0) = false := beq_eq_false_iff_ne.mpr c35
                    have c35b1 : (t199 != 0) = true := bne_iff_ne.mpr c35
                    obtain rfl := Option.some.inj H
                    exact absurd HT_.out (by decide)
              · rw [if_neg c17] at H
                have c17b0 : ((t189.size : Int) == 4) = false := beq_eq_false_iff_ne.mpr c17
                have c17b1 : ((t189.size : Int) != 4) = true := bne_iff_ne.mpr c17
                obtain rfl := Option.some.inj H
                exact absurd HT_.out (by decide)
            · rw [if_neg c16] at H
              have c16b0 : ((t188.size : Int) == 4) = false := beq_eq_false_iff_ne.mpr c16
              have c16b1 : ((t188.size : Int) != 4) = true := bne_iff_ne.mpr c16
              obtain rfl := Option.some.inj H
              exact absurd HT_.out (by decide)
          · rw [if_neg c15] at H
            have c15b0 : ((t189.toList == t195.toList) == ((wrap64 (1 + (wrap64 (Int.tmod (IntKind.u64.wrap (a0)) 11)))) == (wrap64 (1 + (wrap64 (Int.tmod (IntKind.u64.wrap (a1)) 11)))))) = false := by simpa using c15
            (try (have c15b1 : decide ((t189.toList == t195.toList) = ((wrap64 (1 + (wrap64 (Int.tmod (IntKind.u64.wrap (a0)) 11)))) == (wrap64 (1 + (wrap64 (Int.tmod (IntKind.u64.wrap (a1)) 11)))))) = false := by simpa using c15))
            (try (have c15b2 : ((t189.toList == t195.toList) == ((wrap64 (1 + (wrap64 (Int.tmod (IntKind.u64.wrap (a0)) 11)))) == (wrap64 (1 + (wrap64 (Int.tmod (IntKind.u64.wrap (a1)) 11)))))) = false := by simpa using c15))
            (try (have c15b3 : ¬ ((t189.toList == t195.toList) = ((wrap64 (1 + (wrap64 (Int.tmod (IntKind.u64.wrap (a0)) 11)))) == (wrap64 (1 + (wrap64 (Int.tmod (IntKind.u64.wrap (a1)) 11)))))) := by simpa using c15))
            clear c15
            obtain rfl := Option.some.inj H
            exact absurd HT_.out (by decide)
        · rw [if_neg c13] at H
          have c13b0 : ((t188.toList == t194.toList) == ((wrap64 (1 + (wrap64 (Int.tmod (IntKind.u64.wrap (a0)) 11)))) == (wrap64 (1 + (wrap64 (Int.tmod (IntKind.u64.wrap (a1)) 11)))))) = false := by simpa using c13
          (try (have c13b1 : decide ((t188.toList == t194.toList) = ((wrap64 (1 + (wrap64 (Int.tmod (IntKind.u64.wrap (a0)) 11)))) == (wrap64 (1 + (wrap64 (Int.tmod (IntKind.u64.wrap (a1)) 11)))))) = false := by simpa using c13))
          (try (have c13b2 : ((t188.toList == t194.toList) == ((wrap64 (1 + (wrap64 (Int.tmod (IntKind.u64.wrap (a0)) 11)))) == (wrap64 (1 + (wrap64 (Int.tmod (IntKind.u64.wrap (a1)) 11)))))) = false := by simpa using c13))
          (try (have c13b3 : ¬ ((t188.toList == t194.toList) = ((wrap64 (1 + (wrap64 (Int.tmod (IntKind.u64.wrap (a0)) 11)))) == (wrap64 (1 + (wrap64 (Int.tmod (IntKind.u64.wrap (a1)) 11)))))) := by simpa using c13))
          clear c13
          obtain rfl := Option.some.inj H
          exact absurd HT_.out (by decide)
      · rw [if_neg c11] at H
        have c11b0 : (t193 == (wrap64 (1 + (wrap64 (Int.tmod (IntKind.u64.wrap (a0)) 11))))) = false := beq_eq_false_iff_ne.mpr c11
        have c11b1 : (t193 != (wrap64 (1 + (wrap64 (Int.tmod (IntKind.u64.wrap (a0)) 11))))) = true := bne_iff_ne.mpr c11
        obtain rfl := Option.some.inj H
        exact absurd HT_.out (by decide)
    · rw [if_neg c9] at H
      have c9b0 : (t192 == (wrap64 (1 + (wrap64 (Int.tmod (IntKind.u64.wrap (a0)) 11))))) = false := beq_eq_false_iff_ne.mpr c9
      have c9b1 : (t192 != (wrap64 (1 + (wrap64 (Int.tmod (IntKind.u64.wrap (a0)) 11))))) = true := bne_iff_ne.mpr c9
      obtain rfl := Option.some.inj H
      exact absurd HT_.out (by decide)
  · replace c7 := Bool.eq_false_iff.mpr c7
    subst c7
    have H1 : (some false) = some r := by rw [if_neg (show ¬ (false = true) by decide)] at H; exact H
    clear H
    have H := H1
    clear H1
    obtain rfl := Option.some.inj H
    exact absurd HT_.out (by decide)

/-- THE ONE PURE STATEMENT of comptoirlaw11_KindsOwn: yours. -/
def comptoirlaw11_KindsOwn.Pure : Prop := ∀ (a0 : Int) (a1 : Int), (Lit.int .i64 a0).wf = true → (Lit.int .i64 a1).wf = true → comptoirlaw11_KindsOwn.f a0 a1 = some true
theorem comptoirlaw11_KindsOwn.walk (P : comptoirlaw11_KindsOwn.Pure) (a0 : Int) (a1 : Int) (w : World) (w0 : (Lit.int .i64 a0).wf = true) (w1 : (Lit.int .i64 a1).wf = true) :
    Calls Try.prog 7 #[.int .i64 a0, .int .i64 a1] w fun e w' => e = .returned (.bool true) ∧ Below w.heap.size w w' := by
  have h := P a0 a1 w0 w1
  refine (comptoirlaw11_KindsOwn.calls a0 a1 true rfl w h).mono ?_
  rintro e w' ⟨rfl, hd⟩
  exact ⟨rfl, hd⟩

end Go.Proofs.Ythdjodamdakjbaa.MK
