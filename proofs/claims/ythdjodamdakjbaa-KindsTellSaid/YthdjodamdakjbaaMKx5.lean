-- laid by wip/tools/mixprint.py over the kit's print (functions of function values by hand)
import Derived.Test.YthdjodamdakjbaaHLoad
import Derived.Test.YthdjodamdakjbaaMKx0
import Derived.Test.YthdjodamdakjbaaMKx1
import Derived.Test.YthdjodamdakjbaaMKx2
import Derived.Test.YthdjodamdakjbaaMKx3
import Derived.Test.YthdjodamdakjbaaMKx4
import Derived.Test.YthdjodamdakjbaaHFits
import Derived.Test.YthdjodamdakjbaaHKinds
namespace Go.Proofs.Ythdjodamdakjbaa.MK
open Go.RowKit Go.Proofs.YthdjodamdakjbaaW.PrintWords Go.Proofs.YthdjodamdakjbaaW.PrintLast Go.Proofs.YthdjodamdakjbaaW.PrintMore
attribute [local go_sem] max2_int min2_int max_two min_two max_three min_three max_four min_four   -- for this text's walks alone
set_option linter.unusedVariables false
set_option linter.unusedSimpArgs false

/-! ### comptoirlaw11_KindsTell: function 6 -/
def comptoirlaw11_KindsTell.f (k : Nat) (a0 : Int) (a1 : ByteArray) (a2_0 : Int) (a2_1 : Int) (a2_2 : ByteArray) (a2_3 : ByteArray) (a2_4 : ByteArray) (a2_5 : ByteArray) (a2_6 : Int) (a2_7 : ByteArray) (a2_8 : ByteArray) (a2_9 : ByteArray) (a2_10 : ByteArray) (a2_11 : Int) (a2_12 : ByteArray) (a2_13 : ByteArray) (a2_14 : Int) (a2_15 : ByteArray) (l2_16 : List (S51)) (a2_17 : ByteArray) (a2_18 : ByteArray) (l2_19 : List (S53)) (l2_20 : List (S55)) : Option (Bool) := (comptoirlaw11_awake.f).bind fun t173 => (if t173 = true then ((kinds_Code.f a0).bind fun t174 => ((comptoirref07_Code.f a0).bind fun t175 => (if t174.toList = t175.toList then ((kinds_Mti.f a0).bind fun t176 => ((comptoirref07_Mti.f a0).bind fun t177 => (if t176.toList = t177.toList then ((kinds_OfCode.f a1).bind fun t178 => ((comptoirref07_OfCode.f k a1).bind fun t179 => (if t178 = t179 then ((kinds_OfMti.f a1).bind fun t180 => ((comptoirref07_OfMti.f k a1).bind fun t181 => (if t180 = t181 then ((kinds_Answer.f a0).bind fun t182 => ((comptoirref07_Answer.f a0).bind fun t183 => (if t182 = t183 then ((kinds_Money.f a0).bind fun t184 => ((comptoirref07_Money.f a0).bind fun t185 => (if (t184 == t185) = true then ((kinds_Fits.f a2_0 a2_1 a2_2 a2_3 a2_4 a2_5 a2_6 a2_7 a2_8 a2_9 a2_10 a2_11 a2_12 a2_13 a2_14 a2_15 l2_16 a2_17 a2_18 l2_19 l2_20).bind fun t186 => ((comptoirref07_Fits.f k a2_0 a2_1 a2_2 a2_3 a2_4 a2_5 a2_6 a2_7 a2_8 a2_9 a2_10 a2_11 a2_12 a2_13 a2_14 a2_15 l2_16 a2_17 a2_18 l2_19 l2_20).bind fun t187 => (some (t186 == t187)))) else (some false)))) else (some false)))) else (some false)))) else (some false)))) else (some false)))) else (some false)))) else (some false))
theorem comptoirlaw11_KindsTell.mono : ∀ a0 a1 a2 a3 a4 a5 a6 a7 a8 a9 a10 a11 a12 a13 a14 a15 a16 a17 a18 a19 a20 a21 a22 k, LeO (comptoirlaw11_KindsTell.f k a0 a1 a2 a3 a4 a5 a6 a7 a8 a9 a10 a11 a12 a13 a14 a15 a16 a17 a18 a19 a20 a21 a22) (comptoirlaw11_KindsTell.f (k + 1) a0 a1 a2 a3 a4 a5 a6 a7 a8 a9 a10 a11 a12 a13 a14 a15 a16 a17 a18 a19 a20 a21 a22) := by
  intro a0 a1 a2 a3 a4 a5 a6 a7 a8 a9 a10 a11 a12 a13 a14 a15 a16 a17 a18 a19 a20 a21 a22 k
  unfold comptoirlaw11_KindsTell.f
  repeat' first
      | (with_reducible exact comptoirref07_Fits.mono _ _ _ _ _ _ _ _ _ _ _ _ _ _ _ _ _ _ _ _ _ _)
      | (with_reducible exact comptoirref07_OfCode.mono _ _)
      | (with_reducible exact comptoirref07_OfMti.mono _ _)
      | (with_reducible exact LeO.refl _)
      | (with_reducible exact LeO.none _)
      | (with_reducible refine LeO.ite ?_ ?_)
      | (with_reducible refine LeO.bind ?_ (fun _ => ?_))
      | exact comptoirref07_Fits.mono _ _ _ _ _ _ _ _ _ _ _ _ _ _ _ _ _ _ _ _ _ _
      | exact comptoirref07_OfCode.mono _ _
      | exact comptoirref07_OfMti.mono _ _
      | exact LeO.none _
      | refine LeO.ite ?_ ?_
      | refine LeO.bind ?_ (fun _ => ?_)
def comptoirlaw11_KindsTell.T1 : Bool × List (List Nat × List Nat) := (true, [([], []), ([0, 0], [0]), ([1], [1]), ([2, 1, 1], [1, 2]), ([1], [1]), ([4, 3, 1], [1, 4]), ([3, 5, 1], [1, 3, 5]), ([1, 6], [1, 6]), ([7, 5], [7]), ([8], [8]), ([9, 8, 8], [8, 9]), ([8], [8]), ([11, 10, 8], [8, 11]), ([10, 12, 8], [8, 10, 12]), ([8, 13], [8, 13]), ([14, 12], [14]), ([15], [15]), ([16, 15, 15], [15, 16]), ([15], [15]), ([18, 17, 15], [15, 18]), ([17, 19, 15], [15, 17, 19]), ([15, 20], [15, 20]), ([21, 19], [21]), ([22], [22]), ([23, 22, 22], [22, 23]), ([22], [22]), ([25, 24, 22], [22, 25]), ([24, 26, 22], [22, 24, 26]), ([22, 27], [22, 27]), ([28, 26], [28]), ([29], [29]), ([30, 29, 29], [29, 30]), ([29], [29]), ([32, 31, 29], [29, 32]), ([31, 33, 29], [29, 31, 33]), ([29, 34], [29, 34]), ([35, 33], [35]), ([36], [36]), ([37, 36, 36], [36, 37]), ([36], [36]), ([39, 38, 36], [36, 39]), ([38, 40, 36], [36, 38, 40]), ([36, 41], [36, 41]), ([42, 40], [42]), ([43], [43]), ([44, 43, 43], [43, 44]), ([43], [43]), ([46, 45, 43], [43, 46]), ([45, 47, 43], [43, 45, 47]), ([43, 48], [43, 48]), ([49, 47, 0, 1, 2, 3, 4, 5, 6, 7, 8, 9, 10, 11, 12, 13, 14, 15, 16, 17, 18, 19, 20, 21, 22, 23, 24, 25, 26, 27, 28, 29, 30, 31, 32, 33, 34, 35, 36, 37, 38, 39, 40, 41, 42, 43, 44, 45, 46, 47, 48, 49], [49])])
def comptoirlaw11_KindsTell.B1 : List Nat := [0, 1, 3, 7, 3, 31, 63, 127, 255, 511, 1023, 511, 4095, 8191, 16383, 32767, 65535, 131071, 65535, 524287, 1048575, 2097151, 4194303, 8388607, 16777215, 8388607, 67108863, 134217727, 268435455, 536870911, 1073741823, 2147483647, 1073741823, 8589934591, 17179869183, 34359738367, 68719476735, 137438953471, 274877906943, 137438953471, 1099511627775, 2199023255551, 4398046511103, 8796093022207, 17592186044415, 35184372088831, 17592186044415, 140737488355327, 281474976710655, 562949953421311, 1125899906842623]
theorem comptoirlaw11_KindsTell.tab1 : rtab .any (opsOf Try.f6 1) = comptoirlaw11_KindsTell.T1 := by kernel_rfl
theorem comptoirlaw11_KindsTell.bits1 : waitsOk comptoirlaw11_KindsTell.T1.2 comptoirlaw11_KindsTell.B1 = true := by kernel_rfl
set_option maxHeartbeats 8000000 in
set_option maxRecDepth 100000 in
theorem comptoirlaw11_KindsTell.calls (k : Nat) (a0 : Int) (a1 : ByteArray) (a2_0 : Int) (a2_1 : Int) (a2_2 : ByteArray) (a2_3 : ByteArray) (a2_4 : ByteArray) (a2_5 : ByteArray) (a2_6 : Int) (a2_7 : ByteArray) (a2_8 : ByteArray) (a2_9 : ByteArray) (a2_10 : ByteArray) (a2_11 : Int) (a2_12 : ByteArray) (a2_13 : ByteArray) (a2_14 : Int) (a2_15 : ByteArray) (A2_16 : Option Addr) (c2_16 : Nat) (l2_16 : List (S51)) (a2_17 : ByteArray) (a2_18 : ByteArray) (A2_19 : Option Addr) (c2_19 : Nat) (l2_19 : List (S53)) (A2_20 : Option Addr) (c2_20 : Nat) (l2_20 : List (S55)) (r : Bool) (ht_ : r = true) (w : World) (hr2_16 : Kd.C k51 w A2_16 l2_16.length l2_16) (hc2_16 : l2_16.length ≤ c2_16) (hr2_19 : Kd.C k53 w A2_19 l2_19.length l2_19) (hc2_19 : l2_19.length ≤ c2_19) (hr2_20 : Kd.C k55 w A2_20 l2_20.length l2_20) (hc2_20 : l2_20.length ≤ c2_20) (h : comptoirlaw11_KindsTell.f k a0 a1 a2_0 a2_1 a2_2 a2_3 a2_4 a2_5 a2_6 a2_7 a2_8 a2_9 a2_10 a2_11 a2_12 a2_13 a2_14 a2_15 l2_16 a2_17 a2_18 l2_19 l2_20 = some r) :
    Calls Try.prog 6 #[.int .i64 a0, .string a1, .agg #[.int .i64 a2_0, .int .i64 a2_1, .string a2_2, .string a2_3, .string a2_4, .string a2_5, .int .u64 a2_6, .string a2_7, .string a2_8, .string a2_9, .string a2_10, .int .i64 a2_11, .string a2_12, .string a2_13, .int .i64 a2_14, .string a2_15, .slice A2_16 l2_16.length c2_16, .string a2_17, .string a2_18, .slice A2_19 l2_19.length c2_19, .slice A2_20 l2_20.length c2_20]] w fun e w' => e = .returned (.bool r) ∧ Below w.heap.size w w' := by
  have HT_ := Aside0.mk ht_
  clear ht_
  have hu29 := Try.underlying29
  have HR2_16 := Aside0.mk hr2_16
  have HC2_16 := Aside0.mk hc2_16
  clear hr2_16 hc2_16
  have HR2_19 := Aside0.mk hr2_19
  have HC2_19 := Aside0.mk hc2_19
  clear hr2_19 hc2_19
  have HR2_20 := Aside0.mk hr2_20
  have HC2_20 := Aside0.mk hc2_20
  clear hr2_20 hc2_20
  have HB := Aside0.mk (Below.refl w.heap.size w)
  have H : ((comptoirlaw11_awake.f).bind fun t173 => (if t173 = true then ((kinds_Code.f a0).bind fun t174 => ((comptoirref07_Code.f a0).bind fun t175 => (if t174.toList = t175.toList then ((kinds_Mti.f a0).bind fun t176 => ((comptoirref07_Mti.f a0).bind fun t177 => (if t176.toList = t177.toList then ((kinds_OfCode.f a1).bind fun t178 => ((comptoirref07_OfCode.f k a1).bind fun t179 => (if t178 = t179 then ((kinds_OfMti.f a1).bind fun t180 => ((comptoirref07_OfMti.f k a1).bind fun t181 => (if t180 = t181 then ((kinds_Answer.f a0).bind fun t182 => ((comptoirref07_Answer.f a0).bind fun t183 => (if t182 = t183 then ((kinds_Money.f a0).bind fun t184 => ((comptoirref07_Money.f a0).bind fun t185 => (if (t184 == t185) = true then ((kinds_Fits.f a2_0 a2_1 a2_2 a2_3 a2_4 a2_5 a2_6 a2_7 a2_8 a2_9 a2_10 a2_11 a2_12 a2_13 a2_14 a2_15 l2_16 a2_17 a2_18 l2_19 l2_20).bind fun t186 => ((comptoirref07_Fits.f k a2_0 a2_1 a2_2 a2_3 a2_4 a2_5 a2_6 a2_7 a2_8 a2_9 a2_10 a2_11 a2_12 a2_13 a2_14 a2_15 l2_16 a2_17 a2_18 l2_19 l2_20).bind fun t187 => (some (t186 == t187)))) else (some false)))) else (some false)))) else (some false)))) else (some false)))) else (some false)))) else (some false)))) else (some false))) = some r := h
  clear h
  replace H := Option.bind_eq_some_iff.mp H
  obtain ⟨t173, A40, H⟩ := H
  replace H : (if t173 = true then ((kinds_Code.f a0).bind fun t174 => ((comptoirref07_Code.f a0).bind fun t175 => (if t174.toList = t175.toList then ((kinds_Mti.f a0).bind fun t176 => ((comptoirref07_Mti.f a0).bind fun t177 => (if t176.toList = t177.toList then ((kinds_OfCode.f a1).bind fun t178 => ((comptoirref07_OfCode.f k a1).bind fun t179 => (if t178 = t179 then ((kinds_OfMti.f a1).bind fun t180 => ((comptoirref07_OfMti.f k a1).bind fun t181 => (if t180 = t181 then ((kinds_Answer.f a0).bind fun t182 => ((comptoirref07_Answer.f a0).bind fun t183 => (if t182 = t183 then ((kinds_Money.f a0).bind fun t184 => ((comptoirref07_Money.f a0).bind fun t185 => (if (t184 == t185) = true then ((kinds_Fits.f a2_0 a2_1 a2_2 a2_3 a2_4 a2_5 a2_6 a2_7 a2_8 a2_9 a2_10 a2_11 a2_12 a2_13 a2_14 a2_15 l2_16 a2_17 a2_18 l2_19 l2_20).bind fun t186 => ((comptoirref07_Fits.f k a2_0 a2_1 a2_2 a2_3 a2_4 a2_5 a2_6 a2_7 a2_8 a2_9 a2_10 a2_11 a2_12 a2_13 a2_14 a2_15 l2_16 a2_17 a2_18 l2_19 l2_20).bind fun t187 => (some (t186 == t187)))) else (some false)))) else (some false)))) else (some false)))) else (some false)))) else (some false)))) else (some false)))) else (some false)) = some r := H
  have A4 := Aside0.mk A40
  clear A40
  by_cases c5 : t173 = true
  · subst c5
    have H1 : ((kinds_Code.f a0).bind fun t174 => ((comptoirref07_Code.f a0).bind fun t175 => (if t174.toList = t175.toList then ((kinds_Mti.f a0).bind fun t176 => ((comptoirref07_Mti.f a0).bind fun t177 => (if t176.toList = t177.toList then ((kinds_OfCode.f a1).bind fun t178 => ((comptoirref07_OfCode.f k a1).bind fun t179 => (if t178 = t179 then ((kinds_OfMti.f a1).bind fun t180 => ((comptoirref07_OfMti.f k a1).bind fun t181 => (if t180 = t181 then ((kinds_Answer.f a0).bind fun t182 => ((comptoirref07_Answer.f a0).bind fun t183 => (if t182 = t183 then ((kinds_Money.f a0).bind fun t184 => ((comptoirref07_Money.f a0).bind fun t185 => (if (t184 == t185) = true then ((kinds_Fits.f a2_0 a2_1 a2_2 a2_3 a2_4 a2_5 a2_6 a2_7 a2_8 a2_9 a2_10 a2_11 a2_12 a2_13 a2_14 a2_15 l2_16 a2_17 a2_18 l2_19 l2_20).bind fun t186 => ((comptoirref07_Fits.f k a2_0 a2_1 a2_2 a2_3 a2_4 a2_5 a2_6 a2_7 a2_8 a2_9 a2_10 a2_11 a2_12 a2_13 a2_14 a2_15 l2_16 a2_17 a2_18 l2_19 l2_20).bind fun t187 => (some (t186 == t187)))) else (some false)))) else (some false)))) else (some false)))) else (some false)))) else (some false)))) else (some false)))) = some r := by rw [if_pos rfl] at H; exact H
    clear H
    have H := H1
    clear H1
    replace H := Option.bind_eq_some_iff.mp H
    obtain ⟨t174, A60, H⟩ := H
    replace H : ((comptoirref07_Code.f a0).bind fun t175 => (if t174.toList = t175.toList then ((kinds_Mti.f a0).bind fun t176 => ((comptoirref07_Mti.f a0).bind fun t177 => (if t176.toList = t177.toList then ((kinds_OfCode.f a1).bind fun t178 => ((comptoirref07_OfCode.f k a1).bind fun t179 => (if t178 = t179 then ((kinds_OfMti.f a1).bind fun t180 => ((comptoirref07_OfMti.f k a1).bind fun t181 => (if t180 = t181 then ((kinds_Answer.f a0).bind fun t182 => ((comptoirref07_Answer.f a0).bind fun t183 => (if t182 = t183 then ((kinds_Money.f a0).bind fun t184 => ((comptoirref07_Money.f a0).bind fun t185 => (if (t184 == t185) = true then ((kinds_Fits.f a2_0 a2_1 a2_2 a2_3 a2_4 a2_5 a2_6 a2_7 a2_8 a2_9 a2_10 a2_11 a2_12 a2_13 a2_14 a2_15 l2_16 a2_17 a2_18 l2_19 l2_20).bind fun t186 => ((comptoirref07_Fits.f k a2_0 a2_1 a2_2 a2_3 a2_4 a2_5 a2_6 a2_7 a2_8 a2_9 a2_10 a2_11 a2_12 a2_13 a2_14 a2_15 l2_16 a2_17 a2_18 l2_19 l2_20).bind fun t187 => (some (t186 == t187)))) else (some false)))) else (some false)))) else (some false)))) else (some false)))) else (some false)))) else (some false))) = some r := H
    have A6 := Aside0.mk A60
    clear A60
    replace H := Option.bind_eq_some_iff.mp H
    obtain ⟨t175, A70, H⟩ := H
    replace H : (if t174.toList = t175.toList then ((kinds_Mti.f a0).bind fun t176 => ((comptoirref07_Mti.f a0).bind fun t177 => (if t176.toList = t177.toList then ((kinds_OfCode.f a1).bind fun t178 => ((comptoirref07_OfCode.f k a1).bind fun t179 => (if t178 = t179 then ((kinds_OfMti.f a1).bind fun t180 => ((comptoirref07_OfMti.f k a1).bind fun t181 => (if t180 = t181 then ((kinds_Answer.f a0).bind fun t182 => ((comptoirref07_Answer.f a0).bind fun t183 => (if t182 = t183 then ((kinds_Money.f a0).bind fun t184 => ((comptoirref07_Money.f a0).bind fun t185 => (if (t184 == t185) = true then ((kinds_Fits.f a2_0 a2_1 a2_2 a2_3 a2_4 a2_5 a2_6 a2_7 a2_8 a2_9 a2_10 a2_11 a2_12 a2_13 a2_14 a2_15 l2_16 a2_17 a2_18 l2_19 l2_20).bind fun t186 => ((comptoirref07_Fits.f k a2_0 a2_1 a2_2 a2_3 a2_4 a2_5 a2_6 a2_7 a2_8 a2_9 a2_10 a2_11 a2_12 a2_13 a2_14 a2_15 l2_16 a2_17 a2_18 l2_19 l2_20).bind fun t187 => (some (t186 == t187)))) else (some false)))) else (some false)))) else (some false)))) else (some false)))) else (some false)))) else (some false)) = some r := H
    have A7 := Aside0.mk A70
    clear A70
    by_cases c8 : t174.toList = t175.toList
    · rw [if_pos c8] at H
      have c8b0 : (t174.toList == t175.toList) = true := beq_iff_eq.mpr c8
      have c8b1 : (t174.toList != t175.toList) = false := bne_eq_false_iff_eq.mpr c8
      clear c8
      replace H := Option.bind_eq_some_iff.mp H
      obtain ⟨t176, A90, H⟩ := H
      replace H : ((comptoirref07_Mti.f a0).bind fun t177 => (if t176.toList = t177.toList then ((kinds_OfCode.f a1).bind fun t178 => ((comptoirref07_OfCode.f k a1).bind fun t179 => (if t178 = t179 then ((kinds_OfMti.f a1).bind fun t180 => ((comptoirref07_OfMti.f k a1).bind fun t181 => (if t180 = t181 then ((kinds_Answer.f a0).bind fun t182 => ((comptoirref07_Answer.f a0).bind fun t183 => (if t182 = t183 then ((kinds_Money.f a0).bind fun t184 => ((comptoirref07_Money.f a0).bind fun t185 => (if (t184 == t185) = true then ((kinds_Fits.f a2_0 a2_1 a2_2 a2_3 a2_4 a2_5 a2_6 a2_7 a2_8 a2_9 a2_10 a2_11 a2_12 a2_13 a2_14 a2_15 l2_16 a2_17 a2_18 l2_19 l2_20).bind fun t186 => ((comptoirref07_Fits.f k a2_0 a2_1 a2_2 a2_3 a2_4 a2_5 a2_6 a2_7 a2_8 a2_9 a2_10 a2_11 a2_12 a2_13 a2_14 a2_15 l2_16 a2_17 a2_18 l2_19 l2_20).bind fun t187 => (some (t186 == t187)))) else (some false)))) else (some false)))) else (some false)))) else (some false)))) else (some false))) = some r := H
      have A9 := Aside0.mk A90
      clear A90
      replace H := Option.bind_eq_some_iff.mp H
      obtain ⟨t177, A100, H⟩ := H
      replace H : (if t176.toList = t177.toList then ((kinds_OfCode.f a1).bind fun t178 => ((comptoirref07_OfCode.f k a1).bind fun t179 => (if t178 = t179 then ((kinds_OfMti.f a1).bind fun t180 => ((comptoirref07_OfMti.f k a1).bind fun t181 => (if t180 = t181 then ((kinds_Answer.f a0).bind fun t182 => ((comptoirref07_Answer.f a0).bind fun t183 => (if t182 = t183 then ((kinds_Money.f a0).bind fun t184 => ((comptoirref07_Money.f a0).bind fun t185 => (if (t184 == t185) = true then ((kinds_Fits.f a2_0 a2_1 a2_2 a2_3 a2_4 a2_5 a2_6 a2_7 a2_8 a2_9 a2_10 a2_11 a2_12 a2_13 a2_14 a2_15 l2_16 a2_17 a2_18 l2_19 l2_20).bind fun t186 => ((comptoirref07_Fits.f k a2_0 a2_1 a2_2 a2_3 a2_4 a2_5 a2_6 a2_7 a2_8 a2_9 a2_10 a2_11 a2_12 a2_13 a2_14 a2_15 l2_16 a2_17 a2_18 l2_19 l2_20).bind fun t187 => (some (t186 == t187)))) else (some false)))) else (some false)))) else (some false)))) else (some false)))) else (some false)) = some r := H
      have A10 := Aside0.mk A100
      clear A100
      by_cases c11 : t176.toList = t177.toList
      · rw [if_pos c11] at H
        have c11b0 : (t176.toList == t177.toList) = true := beq_iff_eq.mpr c11
        have c11b1 : (t176.toList != t177.toList) = false := bne_eq_false_iff_eq.mpr c11
        clear c11
        replace H := Option.bind_eq_some_iff.mp H
        obtain ⟨t178, A120, H⟩ := H
        replace H : ((comptoirref07_OfCode.f k a1).bind fun t179 => (if t178 = t179 then ((kinds_OfMti.f a1).bind fun t180 => ((comptoirref07_OfMti.f k a1).bind fun t181 => (if t180 = t181 then ((kinds_Answer.f a0).bind fun t182 => ((comptoirref07_Answer.f a0).bind fun t183 => (if t182 = t183 then ((kinds_Money.f a0).bind fun t184 => ((comptoirref07_Money.f a0).bind fun t185 => (if (t184 == t185) = true then ((kinds_Fits.f a2_0 a2_1 a2_2 a2_3 a2_4 a2_5 a2_6 a2_7 a2_8 a2_9 a2_10 a2_11 a2_12 a2_13 a2_14 a2_15 l2_16 a2_17 a2_18 l2_19 l2_20).bind fun t186 => ((comptoirref07_Fits.f k a2_0 a2_1 a2_2 a2_3 a2_4 a2_5 a2_6 a2_7 a2_8 a2_9 a2_10 a2_11 a2_12 a2_13 a2_14 a2_15 l2_16 a2_17 a2_18 l2_19 l2_20).bind fun t187 => (some (t186 == t187)))) else (some false)))) else (some false)))) else (some false)))) else (some false))) = some r := H
        have A12 := Aside0.mk A120
        clear A120
        replace H := Option.bind_eq_some_iff.mp H
        obtain ⟨t179, A130, H⟩ := H
        replace H : (if t178 = t179 then ((kinds_OfMti.f a1).bind fun t180 => ((comptoirref07_OfMti.f k a1).bind fun t181 => (if t180 = t181 then ((kinds_Answer.f a0).bind fun t182 => ((comptoirref07_Answer.f a0).bind fun t183 => (if t182 = t183 then ((kinds_Money.f a0).bind fun t184 => ((comptoirref07_Money.f a0).bind fun t185 => (if (t184 == t185) = true then ((kinds_Fits.f a2_0 a2_1 a2_2 a2_3 a2_4 a2_5 a2_6 a2_7 a2_8 a2_9 a2_10 a2_11 a2_12 a2_13 a2_14 a2_15 l2_16 a2_17 a2_18 l2_19 l2_20).bind fun t186 => ((comptoirref07_Fits.f k a2_0 a2_1 a2_2 a2_3 a2_4 a2_5 a2_6 a2_7 a2_8 a2_9 a2_10 a2_11 a2_12 a2_13 a2_14 a2_15 l2_16 a2_17 a2_18 l2_19 l2_20).bind fun t187 => (some (t186 == t187)))) else (some false)))) else (some false)))) else (some false)))) else (some false)) = some r := H
        have A13 := Aside0.mk A130
        clear A130
        by_cases c14 : t178 = t179
        · rw [if_pos c14] at H
          have c14b0 : (t178 == t179) = true := beq_iff_eq.mpr c14
          have c14b1 : (t178 != t179) = false := bne_eq_false_iff_eq.mpr c14
          clear c14
          replace H := Option.bind_eq_some_iff.mp H
          obtain ⟨t180, A150, H⟩ := H
          replace H : ((comptoirref07_OfMti.f k a1).bind fun t181 => (if t180 = t181 then ((kinds_Answer.f a0).bind fun t182 => ((comptoirref07_Answer.f a0).bind fun t183 => (if t182 = t183 then ((kinds_Money.f a0).bind fun t184 => ((comptoirref07_Money.f a0).bind fun t185 => (if (t184 == t185) = true then ((kinds_Fits.f a2_0 a2_1 a2_2 a2_3 a2_4 a2_5 a2_6 a2_7 a2_8 a2_9 a2_10 a2_11 a2_12 a2_13 a2_14 a2_15 l2_16 a2_17 a2_18 l2_19 l2_20).bind fun t186 => ((comptoirref07_Fits.f k a2_0 a2_1 a2_2 a2_3 a2_4 a2_5 a2_6 a2_7 a2_8 a2_9 a2_10 a2_11 a2_12 a2_13 a2_14 a2_15 l2_16 a2_17 a2_18 l2_19 l2_20).bind fun t187 => (some (t186 == t187)))) else (some false)))) else (some false)))) else (some false))) = some r := H
          have A15 := Aside0.mk A150
          clear A150
          replace H := Option.bind_eq_some_iff.mp H
          obtain ⟨t181, A160, H⟩ := H
          replace H : (if t180 = t181 then ((kinds_Answer.f a0).bind fun t182 => ((comptoirref07_Answer.f a0).bind fun t183 => (if t182 = t183 then ((kinds_Money.f a0).bind fun t184 => ((comptoirref07_Money.f a0).bind fun t185 => (if (t184 == t185) = true then ((kinds_Fits.f a2_0 a2_1 a2_2 a2_3 a2_4 a2_5 a2_6 a2_7 a2_8 a2_9 a2_10 a2_11 a2_12 a2_13 a2_14 a2_15 l2_16 a2_17 a2_18 l2_19 l2_20).bind fun t186 => ((comptoirref07_Fits.f k a2_0 a2_1 a2_2 a2_3 a2_4 a2_5 a2_6 a2_7 a2_8 a2_9 a2_10 a2_11 a2_12 a2_13 a2_14 a2_15 l2_16 a2_17 a2_18 l2_19 l2_20).bind fun t187 => (some (t186 == t187)))) else (some false)))) else (some false)))) else (some false)) = some r := H
          have A16 := Aside0.mk A160
          clear A160
          by_cases c17 : t180 = t181
          · rw [if_pos c17] at H
            have c17b0 : (t180 == t181) = true := beq_iff_eq.mpr c17
            have c17b1 : (t180 != t181) = false := bne_eq_false_iff_eq.mpr c17
            clear c17
            replace H := Option.bind_eq_some_iff.mp H
            obtain ⟨t182, A180, H⟩ := H
            replace H : ((comptoirref07_Answer.f a0).bind fun t183 => (if t182 = t183 then ((kinds_Money.f a0).bind fun t184 => ((comptoirref07_Money.f a0).bind fun t185 => (if (t184 == t185) = true then ((kinds_Fits.f a2_0 a2_1 a2_2 a2_3 a2_4 a2_5 a2_6 a2_7 a2_8 a2_9 a2_10 a2_11 a2_12 a2_13 a2_14 a2_15 l2_16 a2_17 a2_18 l2_19 l2_20).bind fun t186 => ((comptoirref07_Fits.f k a2_0 a2_1 a2_2 a2_3 a2_4 a2_5 a2_6 a2_7 a2_8 a2_9 a2_10 a2_11 a2_12 a2_13 a2_14 a2_15 l2_16 a2_17 a2_18 l2_19 l2_20).bind fun t187 => (some (t186 == t187)))) else (some false)))) else (some false))) = some r := H
            have A18 := Aside0.mk A180
            clear A180
            replace H := Option.bind_eq_some_iff.mp H
            obtain ⟨t183, A190, H⟩ := H
            replace H : (if t182 = t183 then ((kinds_Money.f a0).bind fun t184 => ((comptoirref07_Money.f a0).bind fun t185 => (if (t184 == t185) = true then ((kinds_Fits.f a2_0 a2_1 a2_2 a2_3 a2_4 a2_5 a2_6 a2_7 a2_8 a2_9 a2_10 a2_11 a2_12 a2_13 a2_14 a2_15 l2_16 a2_17 a2_18 l2_19 l2_20).bind fun t186 => ((comptoirref07_Fits.f k a2_0 a2_1 a2_2 a2_3 a2_4 a2_5 a2_6 a2_7 a2_8 a2_9 a2_10 a2_11 a2_12 a2_13 a2_14 a2_15 l2_16 a2_17 a2_18 l2_19 l2_20).bind fun t187 => (some (t186 == t187)))) else (some false)))) else (some false)) = some r := H
            have A19 := Aside0.mk A190
            clear A190
            by_cases c20 : t182 = t183
            · rw [if_pos c20] at H
              have c20b0 : (t182 == t183) = true := beq_iff_eq.mpr c20
              have c20b1 : (t182 != t183) = false := bne_eq_false_iff_eq.mpr c20
              clear c20
              replace H := Option.bind_eq_some_iff.mp H
              obtain ⟨t184, A210, H⟩ := H
              replace H : ((comptoirref07_Money.f a0).bind fun t185 => (if (t184 == t185) = true then ((kinds_Fits.f a2_0 a2_1 a2_2 a2_3 a2_4 a2_5 a2_6 a2_7 a2_8 a2_9 a2_10 a2_11 a2_12 a2_13 a2_14 a2_15 l2_16 a2_17 a2_18 l2_19 l2_20).bind fun t186 => ((comptoirref07_Fits.f k a2_0 a2_1 a2_2 a2_3 a2_4 a2_5 a2_6 a2_7 a2_8 a2_9 a2_10 a2_11 a2_12 a2_13 a2_14 a2_15 l2_16 a2_17 a2_18 l2_19 l2_20).bind fun t187 => (some (t186 == t187)))) else (some false))) = some r := H
              have A21 := Aside0.mk A210
              clear A210
              replace H := Option.bind_eq_some_iff.mp H
              obtain ⟨t185, A220, H⟩ := H
              replace H : (if (t184 == t185) = true then ((kinds_Fits.f a2_0 a2_1 a2_2 a2_3 a2_4 a2_5 a2_6 a2_7 a2_8 a2_9 a2_10 a2_11 a2_12 a2_13 a2_14 a2_15 l2_16 a2_17 a2_18 l2_19 l2_20).bind fun t186 => ((comptoirref07_Fits.f k a2_0 a2_1 a2_2 a2_3 a2_4 a2_5 a2_6 a2_7 a2_8 a2_9 a2_10 a2_11 a2_12 a2_13 a2_14 a2_15 l2_16 a2_17 a2_18 l2_19 l2_20).bind fun t187 => (some (t186 == t187)))) else (some false)) = some r := H
              have A22 := Aside0.mk A220
              clear A220
              by_cases c23 : (t184 == t185) = true
              · rw [if_pos c23] at H
                have c23b0 : (t184 == t185) = true := c23
                (try (have c23b1 : decide (t184 = t185) = true := by simpa using c23))
                (try (have c23b2 : (t184 == t185) = true := by simpa using c23))
                clear c23
                replace H := Option.bind_eq_some_iff.mp H
                obtain ⟨t186, A240, H⟩ := H
                replace H : ((comptoirref07_Fits.f k a2_0 a2_1 a2_2 a2_3 a2_4 a2_5 a2_6 a2_7 a2_8 a2_9 a2_10 a2_11 a2_12 a2_13 a2_14 a2_15 l2_16 a2_17 a2_18 l2_19 l2_20).bind fun t187 => (some (t186 == t187))) = some r := H
                have A24 := Aside0.mk A240
                clear A240
                replace H := Option.bind_eq_some_iff.mp H
                obtain ⟨t187, A250, H⟩ := H
                replace H : (some (t186 == t187)) = some r := H
                have A25 := Aside0.mk A250
                clear A250
                obtain rfl := Option.some.inj H
                simp only [Option.some.injEq, Prod.mk.injEq] at H
                obtain ⟨rfl⟩ := H
                go_enter Try.func6, Try.ntmps6
                try go_wp2_with (first | ((with_reducible refine gate_dst (N := 5) rfl ?_); refine box_event ?hg (N := 5) ?hd (cs := #[.int .i64 a2_0, .int .i64 a2_1, .string a2_2, .string a2_3, .string a2_4, .string a2_5, .int .u64 a2_6, .string a2_7, .string a2_8, .string a2_9, .string a2_10, .int .i64 a2_11, .string a2_12, .string a2_13, .int .i64 a2_14, .string a2_15, .slice A2_16 l2_16.length c2_16, .string a2_17, .string a2_18, .slice A2_19 l2_19.length c2_19, .slice A2_20 l2_20.length c2_20]) (t := 29) ?hr ?_; (case hd => rfl); (case hg => rfl); (case hr => first | (go_simp; done) | (go_simp; rfl) | (go_simp; simp only [show ∀ l_ : List UInt8, (l_ != []) = !l_.isEmpty from fun l_ => by cases l_ <;> rfl]; done)); intro gb172 hg w26 hbox hb; have n0_ := Aside0.mk (below_step (by repeat (first | (with_reducible first | exact HB.out | apply below_alloc | apply pw_below_drewN | apply below_drew1) | exact HB.out)) hb); have n1_ := Aside0.mk (hbox); have n2_ := Aside0.mk ((by rw [hg]; exact (below_size (by repeat (first | (with_reducible first | exact HB.out | apply below_alloc | apply pw_below_drewN | apply below_drew1) | exact HB.out))) : w.heap.size ≤ gb172)); have n3_ := Aside0.mk ((by rw [hg]; exact (below_size (by repeat (first | (with_reducible first | exact HB.out | apply below_alloc | apply pw_below_drewN | apply below_drew1) | exact HB.out))) : w.heap.size ≤ gb172)); clear HB; have HB := n0_; have BK172 := n1_; have GW172 := n2_; have GE172 := n3_; clear n0_ n1_ n2_ n3_; clear hb hbox hg))
                have n0_ := Aside0.mk (blk_drew BK172.out)
                have n1_ := Aside0.mk (below_drew1 HB.out)
                clear BK172
                clear HB
                have BK172 := n0_
                have HB := n1_
                clear n0_ n1_
                refine start_ (n := 51) (S := fun w' => w'.cell? ⟨gb172, 0, none⟩ = some (.int .i64 a2_0) ∧ w'.cell? ⟨gb172, 1, none⟩ = some (.int .i64 a2_1) ∧ w'.cell? ⟨gb172, 2, none⟩ = some (.string a2_2) ∧ w'.cell? ⟨gb172, 3, none⟩ = some (.string a2_3) ∧ w'.cell? ⟨gb172, 4, none⟩ = some (.string a2_4) ∧ w'.cell? ⟨gb172, 5, none⟩ = some (.string a2_5) ∧ w'.cell? ⟨gb172, 6, none⟩ = some (.int .u64 a2_6) ∧ w'.cell? ⟨gb172, 7, none⟩ = some (.string a2_7) ∧ w'.cell? ⟨gb172, 8, none⟩ = some (.string a2_8) ∧ w'.cell? ⟨gb172, 9, none⟩ = some (.string a2_9) ∧ w'.cell? ⟨gb172, 10, none⟩ = some (.string a2_10) ∧ w'.cell? ⟨gb172, 11, none⟩ = some (.int .i64 a2_11) ∧ w'.cell? ⟨gb172, 12, none⟩ = some (.string a2_12) ∧ w'.cell? ⟨gb172, 13, none⟩ = some (.string a2_13) ∧ w'.cell? ⟨gb172, 14, none⟩ = some (.int .i64 a2_14) ∧ w'.cell? ⟨gb172, 15, none⟩ = some (.string a2_15) ∧ w'.cell? ⟨gb172, 16, none⟩ = some (.slice A2_16 l2_16.length c2_16) ∧ w'.cell? ⟨gb172, 17, none⟩ = some (.string a2_17) ∧ w'.cell? ⟨gb172, 18, none⟩ = some (.string a2_18) ∧ w'.cell? ⟨gb172, 19, none⟩ = some (.slice A2_19 l2_19.length c2_19) ∧ w'.cell? ⟨gb172, 20, none⟩ = some (.slice A2_20 l2_20.length c2_20)) (ds := []) #[false, false, false, false, false, false, false, false, false, false, false, false, false, false, false, false, false, false, false, false, false, false, false, false, false, false, false, false, false, false, false, false, false, false, false, false, false, false, false, false, false, false, false, false, false, false, false, false, false, false, false] (by kernel_rfl) rfl rfl ⟨(blk_cell BK172.out 0).trans rfl, (blk_cell BK172.out 1).trans rfl, (blk_cell BK172.out 2).trans rfl, (blk_cell BK172.out 3).trans rfl, (blk_cell BK172.out 4).trans rfl, (blk_cell BK172.out 5).trans rfl, (blk_cell BK172.out 6).trans rfl, (blk_cell BK172.out 7).trans rfl, (blk_cell BK172.out 8).trans rfl, (blk_cell BK172.out 9).trans rfl, (blk_cell BK172.out 10).trans rfl, (blk_cell BK172.out 11).trans rfl, (blk_cell BK172.out 12).trans rfl, (blk_cell BK172.out 13).trans rfl, (blk_cell BK172.out 14).trans rfl, (blk_cell BK172.out 15).trans rfl, (blk_cell BK172.out 16).trans rfl, (blk_cell BK172.out 17).trans rfl, (blk_cell BK172.out 18).trans rfl, (blk_cell BK172.out 19).trans rfl, (blk_cell BK172.out 20).trans rfl⟩ (fun hHeld => ?_); refine with_tabW comptoirlaw11_KindsTell.tab1 comptoirlaw11_KindsTell.bits1 (fun HT_ HW_ => ?_)
                generalize w26.drew = w27 at BK172 HB hHeld ⊢
                refine one_ (i := 0) (N := some 7) #[true, false, false, false, false, false, false, false, false, false, false, false, false, false, false, false, false, false, false, false, false, false, false, false, false, false, false, false, false, false, false, false, false, false, false, false, false, false, false, false, false, false, false, false, false, false, false, false, false, false, false] rfl rfl (one_of HT_.out (by kernel_rfl)) (by decide) (fun K hK => ?_)
                refine goes_ Try.func9 (by kernel_rfl) rfl #[] (by rfl) rfl rfl (by (try simp only [List.map_toArray, List.map_cons, List.map_nil]); first | done | rfl | (simp only [List.length_drop, List.length_take]; rfl)) ?_
                with_reducible refine (comptoirlaw11_awake.calls  true _ A4.out).mono ?_
                rintro e w28 ⟨rfl, hb⟩
                refine ⟨_, rfl, ?_⟩
                have n0_ := Aside0.mk (blk_below (g := gb172) (o := .cells #[.int .i64 a2_0, .int .i64 a2_1, .string a2_2, .string a2_3, .string a2_4, .string a2_5, .int .u64 a2_6, .string a2_7, .string a2_8, .string a2_9, .string a2_10, .int .i64 a2_11, .string a2_12, .string a2_13, .int .i64 a2_14, .string a2_15, .slice A2_16 l2_16.length c2_16, .string a2_17, .string a2_18, .slice A2_19 l2_19.length c2_19, .slice A2_20 l2_20.length c2_20] 29 (0, 0)) (by (with_reducible repeat (first | refine blk_drewN ?_ _ | refine blk_drew ?_ | refine blk_alloc ?_ _)); exact BK172.out) hb)
                have n1_ := Aside0.mk (below_step (by repeat (first | (with_reducible first | exact HB.out | apply below_alloc | apply pw_below_drewN | apply below_drew1 | refine below_set ?_ GE172.out) | exact HB.out)) hb)
                clear BK172
                clear HB
                have BK172 := n0_
                have HB := n1_
                clear n0_ n1_
                (try clear hb)
                (try clear hb2)
                (try clear hk)
                (try clear hi)
                refine hK.out _ _ ⟨(blk_cell BK172.out 0).trans rfl, (blk_cell BK172.out 1).trans rfl, (blk_cell BK172.out 2).trans rfl, (blk_cell BK172.out 3).trans rfl, (blk_cell BK172.out 4).trans rfl, (blk_cell BK172.out 5).trans rfl, (blk_cell BK172.out 6).trans rfl, (blk_cell BK172.out 7).trans rfl, (blk_cell BK172.out 8).trans rfl, (blk_cell BK172.out 9).trans rfl, (blk_cell BK172.out 10).trans rfl, (blk_cell BK172.out 11).trans rfl, (blk_cell BK172.out 12).trans rfl, (blk_cell BK172.out 13).trans rfl, (blk_cell BK172.out 14).trans rfl, (blk_cell BK172.out 15).trans rfl, (blk_cell BK172.out 16).trans rfl, (blk_cell BK172.out 17).trans rfl, (blk_cell BK172.out 18).trans rfl, (blk_cell BK172.out 19).trans rfl, (blk_cell BK172.out 20).trans rfl⟩ (fun hHeld => ?_)
                clear hK K
                refine norm_ (a' := ?_) ?_ ?_
                rotate_left
                · show Act.put _ (some 7) _ = _
                  simp only [Act.put, List.setIfInBounds_toArray, List.set_cons_zero, List.set_cons_succ, i64_w, i32_w]
                  rfl
                refine pure_ (i := 1) (N := some 8) (v := ?_) (a' := ?_) #[true, true, false, false, false, false, false, false, false, false, false, false, false, false, false, false, false, false, false, false, false, false, false, false, false, false, false, false, false, false, false, false, false, false, false, false, false, false, false, false, false, false, false, false, false, false, false, false, false, false, false] rfl rfl (any_of HT_.out (by kernel_rfl)) (fun _ _ _ h => h) (Or.inl ⟨by rfl, ?_⟩) ?_ ?_
                rotate_left
                · intro w'
                  go_simp
                  with_reducible rfl
                rotate_left
                · simp only [Act.put, List.setIfInBounds_toArray, List.set_cons_zero, List.set_cons_succ, i64_w, i32_w]
                  rfl
                refine pure_ (i := 2) (N := some 9) (v := ?_) (a' := ?_) #[true, true, true, false, false, false, false, false, false, false, false, false, false, false, false, false, false, false, false, false, false, false, false, false, false, false, false, false, false, false, false, false, false, false, false, false, false, false, false, false, false, false, false, false, false, false, false, false, false, false, false] rfl rfl (any_of HT_.out (by kernel_rfl)) (fun _ _ _ h => h) (Or.inl ⟨by rfl, ?_⟩) ?_ ?_
                rotate_left
                · intro w'
                  go_simp
                  with_reducible rfl
                rotate_left
                · simp only [Act.put, List.setIfInBounds_toArray, List.set_cons_zero, List.set_cons_succ, i64_w, i32_w]
                  rfl
                refine pure_ (i := 4) (N := some 11) (v := ?_) (a' := ?_) #[true, true, true, false, true, false, false, false, false, false, false, false, false, false, false, false, false, false, false, false, false, false, false, false, false, false, false, false, false, false, false, false, false, false, false, false, false, false, false, false, false, false, false, false, false, false, false, false, false, false, false] rfl rfl (any_of HT_.out (by kernel_rfl)) (fun _ _ _ h => h) (Or.inl ⟨by rfl, ?_⟩) ?_ ?_
                rotate_left
                · intro w'
                  go_simp
                  with_reducible rfl
                rotate_left
                · simp only [Act.put, List.setIfInBounds_toArray, List.set_cons_zero, List.set_cons_succ, i64_w, i32_w]
                  rfl
                refine one_ (i := 3) (N := some 10) #[true, true, true, true, true, false, false, false, false, false, false, false, false, false, false, false, false, false, false, false, false, false, false, false, false, false, false, false, false, false, false, false, false, false, false, false, false, false, false, false, false, false, false, false, false, false, false, false, false, false, false] rfl rfl (one_of HT_.out (by kernel_rfl)) (by decide) (fun K hK => ?_)
                refine goes_ Try.func19 (by kernel_rfl) rfl #[.int .i64 a0] (by rfl) rfl rfl (by (try simp only [List.map_toArray, List.map_cons, List.map_nil]); first | done | rfl | (simp only [List.length_drop, List.length_take]; rfl)) ?_
                with_reducible refine (kinds_Code.calls a0 t174 _ A6.out).mono ?_
                rintro e w29 ⟨rfl, hb⟩
                refine ⟨_, rfl, ?_⟩
                have n0_ := Aside0.mk (blk_below (g := gb172) (o := .cells #[.int .i64 a2_0, .int .i64 a2_1, .string a2_2, .string a2_3, .string a2_4, .string a2_5, .int .u64 a2_6, .string a2_7, .string a2_8, .string a2_9, .string a2_10, .int .i64 a2_11, .string a2_12, .string a2_13, .int .i64 a2_14, .string a2_15, .slice A2_16 l2_16.length c2_16, .string a2_17, .string a2_18, .slice A2_19 l2_19.length c2_19, .slice A2_20 l2_20.length c2_20] 29 (0, 0)) (by (with_reducible repeat (first | refine blk_drewN ?_ _ | refine blk_drew ?_ | refine blk_alloc ?_ _)); exact BK172.out) hb)
                have n1_ := Aside0.mk (below_step (by repeat (first | (with_reducible first | exact HB.out | apply below_alloc | apply pw_below_drewN | apply below_drew1 | refine below_set ?_ GE172.out) | exact HB.out)) hb)
                clear BK172
                clear HB
                have BK172 := n0_
                have HB := n1_
                clear n0_ n1_
                (try clear hb)
                (try clear hb2)
                (try clear hk)
                (try clear hi)
                refine hK.out _ _ ⟨(blk_cell BK172.out 0).trans rfl, (blk_cell BK172.out 1).trans rfl, (blk_cell BK172.out 2).trans rfl, (blk_cell BK172.out 3).trans rfl, (blk_cell BK172.out 4).trans rfl, (blk_cell BK172.out 5).trans rfl, (blk_cell BK172.out 6).trans rfl, (blk_cell BK172.out 7).trans rfl, (blk_cell BK172.out 8).trans rfl, (blk_cell BK172.out 9).trans rfl, (blk_cell BK172.out 10).trans rfl, (blk_cell BK172.out 11).trans rfl, (blk_cell BK172.out 12).trans rfl, (blk_cell BK172.out 13).trans rfl, (blk_cell BK172.out 14).trans rfl, (blk_cell BK172.out 15).trans rfl, (blk_cell BK172.out 16).trans rfl, (blk_cell BK172.out 17).trans rfl, (blk_cell BK172.out 18).trans rfl, (blk_cell BK172.out 19).trans rfl, (blk_cell BK172.out 20).trans rfl⟩ (fun hHeld => ?_)
                clear hK K
                refine norm_ (a' := ?_) ?_ ?_
                rotate_left
                · show Act.put _ (some 10) _ = _
                  simp only [Act.put, List.setIfInBounds_toArray, List.set_cons_zero, List.set_cons_succ, i64_w, i32_w]
                  rfl
                as_aux_lemma =>
                  refine one_ (i := 5) (N := some 12) #[true, true, true, true, true, true, false, false, false, false, false, false, false, false, false, false, false, false, false, false, false, false, false, false, false, false, false, false, false, false, false, false, false, false, false, false, false, false, false, false, false, false, false, false, false, false, false, false, false, false, false] rfl rfl (one_of HT_.out (by kernel_rfl)) (by decide) (fun K hK => ?_)
                  refine goes_ Try.func20 (by kernel_rfl) rfl #[.int .i64 a0] (by rfl) rfl rfl (by (try simp only [List.map_toArray, List.map_cons, List.map_nil]); first | done | rfl | (simp only [List.length_drop, List.length_take]; rfl)) ?_
                  with_reducible refine (comptoirref07_Code.calls a0 t175 _ A7.out).mono ?_
                  rintro e w30 ⟨rfl, hb⟩
                  refine ⟨_, rfl, ?_⟩
                  have n0_ := Aside0.mk (blk_below (g := gb172) (o := .cells #[.int .i64 a2_0, .int .i64 a2_1, .string a2_2, .string a2_3, .string a2_4, .string a2_5, .int .u64 a2_6, .string a2_7, .string a2_8, .string a2_9, .string a2_10, .int .i64 a2_11, .string a2_12, .string a2_13, .int .i64 a2_14, .string a2_15, .slice A2_16 l2_16.length c2_16, .string a2_17, .string a2_18, .slice A2_19 l2_19.length c2_19, .slice A2_20 l2_20.length c2_20] 29 (0, 0)) (by (with_reducible repeat (first | refine blk_drewN ?_ _ | refine blk_drew ?_ | refine blk_alloc ?_ _)); exact BK172.out) hb)
                  have n1_ := Aside0.mk (below_step (by repeat (first | (with_reducible first | exact HB.out | apply below_alloc | apply pw_below_drewN | apply below_drew1 | refine below_set ?_ GE172.out) | exact HB.out)) hb)
                  clear BK172
                  clear HB
                  have BK172 := n0_
                  have HB := n1_
                  clear n0_ n1_
                  (try clear hb)
                  (try clear hb2)
                  (try clear hk)
                  (try clear hi)
                  refine hK.out _ _ ⟨(blk_cell BK172.out 0).trans rfl, (blk_cell BK172.out 1).trans rfl, (blk_cell BK172.out 2).trans rfl, (blk_cell BK172.out 3).trans rfl, (blk_cell BK172.out 4).trans rfl, (blk_cell BK172.out 5).trans rfl, (blk_cell BK172.out 6).trans rfl, (blk_cell BK172.out 7).trans rfl, (blk_cell BK172.out 8).trans rfl, (blk_cell BK172.out 9).trans rfl, (blk_cell BK172.out 10).trans rfl, (blk_cell BK172.out 11).trans rfl, (blk_cell BK172.out 12).trans rfl, (blk_cell BK172.out 13).trans rfl, (blk_cell BK172.out 14).trans rfl, (blk_cell BK172.out 15).trans rfl, (blk_cell BK172.out 16).trans rfl, (blk_cell BK172.out 17).trans rfl, (blk_cell BK172.out 18).trans rfl, (blk_cell BK172.out 19).trans rfl, (blk_cell BK172.out 20).trans rfl⟩ (fun hHeld => ?_)
                  clear hK K
                  refine norm_ (a' := ?_) ?_ ?_
                  rotate_left
                  · show Act.put _ (some 12) _ = _
                    simp only [Act.put, List.setIfInBounds_toArray, List.set_cons_zero, List.set_cons_succ, i64_w, i32_w]
                    rfl
                  refine pure_ (i := 6) (N := some 13) (v := ?_) (a' := ?_) #[true, true, true, true, true, true, true, false, false, false, false, false, false, false, false, false, false, false, false, false, false, false, false, false, false, false, false, false, false, false, false, false, false, false, false, false, false, false, false, false, false, false, false, false, false, false, false, false, false, false, false] rfl rfl (any_of HT_.out (by kernel_rfl)) (fun _ _ _ h => h) (Or.inl ⟨by rfl, ?_⟩) ?_ ?_
                  rotate_left
                  · intro w'
                    go_simp
                    with_reducible rfl
                  rotate_left
                  · simp only [Act.put, List.setIfInBounds_toArray, List.set_cons_zero, List.set_cons_succ, i64_w, i32_w]
                    rfl
                  refine pure_ (i := 7) (N := some 14) (v := ?_) (a' := ?_) #[true, true, true, true, true, true, true, true, false, false, false, false, false, false, false, false, false, false, false, false, false, false, false, false, false, false, false, false, false, false, false, false, false, false, false, false, false, false, false, false, false, false, false, false, false, false, false, false, false, false, false] rfl rfl (any_of HT_.out (by kernel_rfl)) (fun _ _ _ h => h) (Or.inl ⟨by rfl, ?_⟩) ?_ ?_
                  rotate_left
                  · intro w'
                    go_simp
                    with_reducible rfl
                  rotate_left
                  · simp only [Act.put, List.setIfInBounds_toArray, List.set_cons_zero, List.set_cons_succ, i64_w, i32_w]
                    rfl
                  refine pure_ (i := 8) (N := some 15) (v := ?_) (a' := ?_) #[true, true, true, true, true, true, true, true, true, false, false, false, false, false, false, false, false, false, false, false, false, false, false, false, false, false, false, false, false, false, false, false, false, false, false, false, false, false, false, false, false, false, false, false, false, false, false, false, false, false, false] rfl rfl (any_of HT_.out (by kernel_rfl)) (fun _ _ _ h => h) (Or.inl ⟨by rfl, ?_⟩) ?_ ?_
                  rotate_left
                  · intro w'
                    go_simp
                    with_reducible rfl
                  rotate_left
                  · simp only [Act.put, List.setIfInBounds_toArray, List.set_cons_zero, List.set_cons_succ, i64_w, i32_w]
                    rfl
                  refine pure_ (i := 9) (N := some 16) (v := ?_) (a' := ?_) #[true, true, true, true, true, true, true, true, true, true, false, false, false, false, false, false, false, false, false, false, false, false, false, false, false, false, false, false, false, false, false, false, false, false, false, false, false, false, false, false, false, false, false, false, false, false, false, false, false, false, false] rfl rfl (any_of HT_.out (by kernel_rfl)) (fun _ _ _ h => h) (Or.inl ⟨by rfl, ?_⟩) ?_ ?_
                  rotate_left
                  · intro w'
                    go_simp
                    with_reducible rfl
                  rotate_left
                  · simp only [Act.put, List.setIfInBounds_toArray, List.set_cons_zero, List.set_cons_succ, i64_w, i32_w]
                    rfl
                  refine pure_ (i := 11) (N := some 18) (v := ?_) (a' := ?_) #[true, true, true, true, true, true, true, true, true, true, false, true, false, false, false, false, false, false, false, false, false, false, false, false, false, false, false, false, false, false, false, false, false, false, false, false, false, false, false, false, false, false, false, false, false, false, false, false, false, false, false] rfl rfl (any_of HT_.out (by kernel_rfl)) (fun _ _ _ h => h) (Or.inl ⟨by rfl, ?_⟩) ?_ ?_
                  rotate_left
                  · intro w'
                    go_simp
                    with_reducible rfl
                  rotate_left
                  · simp only [Act.put, List.setIfInBounds_toArray, List.set_cons_zero, List.set_cons_succ, i64_w, i32_w]
                    rfl
                  refine one_ (i := 10) (N := some 17) #[true, true, true, true, true, true, true, true, true, true, true, true, false, false, false, false, false, false, false, false, false, false, false, false, false, false, false, false, false, false, false, false, false, false, false, false, false, false, false, false, false, false, false, false, false, false, false, false, false, false, false] rfl rfl (one_of HT_.out (by kernel_rfl)) (by decide) (fun K hK => ?_)
                  refine goes_ Try.func21 (by kernel_rfl) rfl #[.int .i64 a0] (by rfl) rfl rfl (by (try simp only [List.map_toArray, List.map_cons, List.map_nil]); first | done | rfl | (simp only [List.length_drop, List.length_take]; rfl)) ?_
                  with_reducible refine (kinds_Mti.calls a0 t176 _ A9.out).mono ?_
                  rintro e w31 ⟨rfl, hb⟩
                  refine ⟨_, rfl, ?_⟩
                  have n0_ := Aside0.mk (blk_below (g := gb172) (o := .cells #[.int .i64 a2_0, .int .i64 a2_1, .string a2_2, .string a2_3, .string a2_4, .string a2_5, .int .u64 a2_6, .string a2_7, .string a2_8, .string a2_9, .string a2_10, .int .i64 a2_11, .string a2_12, .string a2_13, .int .i64 a2_14, .string a2_15, .slice A2_16 l2_16.length c2_16, .string a2_17, .string a2_18, .slice A2_19 l2_19.length c2_19, .slice A2_20 l2_20.length c2_20] 29 (0, 0)) (by (with_reducible repeat (first | refine blk_drewN ?_ _ | refine blk_drew ?_ | refine blk_alloc ?_ _)); exact BK172.out) hb)
                  have n1_ := Aside0.mk (below_step (by repeat (first | (with_reducible first | exact HB.out | apply below_alloc | apply pw_below_drewN | apply below_drew1 | refine below_set ?_ GE172.out) | exact HB.out)) hb)
                  clear BK172
                  clear HB
                  have BK172 := n0_
                  have HB := n1_
                  clear n0_ n1_
                  (try clear hb)
                  (try clear hb2)
                  (try clear hk)
                  (try clear hi)
                  refine hK.out _ _ ⟨(blk_cell BK172.out 0).trans rfl, (blk_cell BK172.out 1).trans rfl, (blk_cell BK172.out 2).trans rfl, (blk_cell BK172.out 3).trans rfl, (blk_cell BK172.out 4).trans rfl, (blk_cell BK172.out 5).trans rfl, (blk_cell BK172.out 6).trans rfl, (blk_cell BK172.out 7).trans rfl, (blk_cell BK172.out 8).trans rfl, (blk_cell BK172.out 9).trans rfl, (blk_cell BK172.out 10).trans rfl, (blk_cell BK172.out 11).trans rfl, (blk_cell BK172.out 12).trans rfl, (blk_cell BK172.out 13).trans rfl, (blk_cell BK172.out 14).trans rfl, (blk_cell BK172.out 15).trans rfl, (blk_cell BK172.out 16).trans rfl, (blk_cell BK172.out 17).trans rfl, (blk_cell BK172.out 18).trans rfl, (blk_cell BK172.out 19).trans rfl, (blk_cell BK172.out 20).trans rfl⟩ (fun hHeld => ?_)
                  clear hK K
                  refine norm_ (a' := ?_) ?_ ?_
                  rotate_left
                  · show Act.put _ (some 17) _ = _
                    simp only [Act.put, List.setIfInBounds_toArray, List.set_cons_zero, List.set_cons_succ, i64_w, i32_w]
                    rfl
                  as_aux_lemma =>
                    refine one_ (i := 12) (N := some 19) #[true, true, true, true, true, true, true, true, true, true, true, true, true, false, false, false, false, false, false, false, false, false, false, false, false, false, false, false, false, false, false, false, false, false, false, false, false, false, false, false, false, false, false, false, false, false, false, false, false, false, false] rfl rfl (one_of HT_.out (by kernel_rfl)) (by decide) (fun K hK => ?_)
                    refine goes_ Try.func22 (by kernel_rfl) rfl #[.int .i64 a0] (by rfl) rfl rfl (by (try simp only [List.map_toArray, List.map_cons, List.map_nil]); first | done | rfl | (simp only [List.length_drop, List.length_take]; rfl)) ?_
                    with_reducible refine (comptoirref07_Mti.calls a0 t177 _ A10.out).mono ?_
                    rintro e w32 ⟨rfl, hb⟩
                    refine ⟨_, rfl, ?_⟩
                    have n0_ := Aside0.mk (blk_below (g := gb172) (o := .cells #[.int .i64 a2_0, .int .i64 a2_1, .string a2_2, .string a2_3, .string a2_4, .string a2_5, .int .u64 a2_6, .string a2_7, .string a2_8, .string a2_9, .string a2_10, .int .i64 a2_11, .string a2_12, .string a2_13, .int .i64 a2_14, .string a2_15, .slice A2_16 l2_16.length c2_16, .string a2_17, .string a2_18, .slice A2_19 l2_19.length c2_19, .slice A2_20 l2_20.length c2_20] 29 (0, 0)) (by (with_reducible repeat (first | refine blk_drewN ?_ _ | refine blk_drew ?_ | refine blk_alloc ?_ _)); exact BK172.out) hb)
                    have n1_ := Aside0.mk (below_step (by repeat (first | (with_reducible first | exact HB.out | apply below_alloc | apply pw_below_drewN | apply below_drew1 | refine below_set ?_ GE172.out) | exact HB.out)) hb)
                    clear BK172
                    clear HB
                    have BK172 := n0_
                    have HB := n1_
                    clear n0_ n1_
                    (try clear hb)
                    (try clear hb2)
                    (try clear hk)
                    (try clear hi)
                    refine hK.out _ _ ⟨(blk_cell BK172.out 0).trans rfl, (blk_cell BK172.out 1).trans rfl, (blk_cell BK172.out 2).trans rfl, (blk_cell BK172.out 3).trans rfl, (blk_cell BK172.out 4).trans rfl, (blk_cell BK172.out 5).trans rfl, (blk_cell BK172.out 6).trans rfl, (blk_cell BK172.out 7).trans rfl, (blk_cell BK172.out 8).trans rfl, (blk_cell BK172.out 9).trans rfl, (blk_cell BK172.out 10).trans rfl, (blk_cell BK172.out 11).trans rfl, (blk_cell BK172.out 12).trans rfl, (blk_cell BK172.out 13).trans rfl, (blk_cell BK172.out 14).trans rfl, (blk_cell BK172.out 15).trans rfl, (blk_cell BK172.out 16).trans rfl, (blk_cell BK172.out 17).trans rfl, (blk_cell BK172.out 18).trans rfl, (blk_cell BK172.out 19).trans rfl, (blk_cell BK172.out 20).trans rfl⟩ (fun hHeld => ?_)
                    clear hK K
                    refine norm_ (a' := ?_) ?_ ?_
                    rotate_left
                    · show Act.put _ (some 19) _ = _
                      simp only [Act.put, List.setIfInBounds_toArray, List.set_cons_zero, List.set_cons_succ, i64_w, i32_w]
                      rfl
                    refine pure_ (i := 13) (N := some 20) (v := ?_) (a' := ?_) #[true, true, true, true, true, true, true, true, true, true, true, true, true, true, false, false, false, false, false, false, false, false, false, false, false, false, false, false, false, false, false, false, false, false, false, false, false, false, false, false, false, false, false, false, false, false, false, false, false, false, false] rfl rfl (any_of HT_.out (by kernel_rfl)) (fun _ _ _ h => h) (Or.inl ⟨by rfl, ?_⟩) ?_ ?_
                    rotate_left
                    · intro w'
                      go_simp
                      with_reducible rfl
                    rotate_left
                    · simp only [Act.put, List.setIfInBounds_toArray, List.set_cons_zero, List.set_cons_succ, i64_w, i32_w]
                      rfl
                    refine pure_ (i := 14) (N := some 21) (v := ?_) (a' := ?_) #[true, true, true, true, true, true, true, true, true, true, true, true, true, true, true, false, false, false, false, false, false, false, false, false, false, false, false, false, false, false, false, false, false, false, false, false, false, false, false, false, false, false, false, false, false, false, false, false, false, false, false] rfl rfl (any_of HT_.out (by kernel_rfl)) (fun _ _ _ h => h) (Or.inl ⟨by rfl, ?_⟩) ?_ ?_
                    rotate_left
                    · intro w'
                      go_simp
                      with_reducible rfl
                    rotate_left
                    · simp only [Act.put, List.setIfInBounds_toArray, List.set_cons_zero, List.set_cons_succ, i64_w, i32_w]
                      rfl
                    refine pure_ (i := 15) (N := some 22) (v := ?_) (a' := ?_) #[true, true, true, true, true, true, true, true, true, true, true, true, true, true, true, true, false, false, false, false, false, false, false, false, false, false, false, false, false, false, false, false, false, false, false, false, false, false, false, false, false, false, false, false, false, false, false, false, false, false, false] rfl rfl (any_of HT_.out (by kernel_rfl)) (fun _ _ _ h => h) (Or.inl ⟨by rfl, ?_⟩) ?_ ?_
                    rotate_left
                    · intro w'
                      go_simp
                      with_reducible rfl
                    rotate_left
                    · simp only [Act.put, List.setIfInBounds_toArray, List.set_cons_zero, List.set_cons_succ, i64_w, i32_w]
                      rfl
                    refine pure_ (i := 16) (N := some 23) (v := ?_) (a' := ?_) #[true, true, true, true, true, true, true, true, true, true, true, true, true, true, true, true, true, false, false, false, false, false, false, false, false, false, false, false, false, false, false, false, false, false, false, false, false, false, false, false, false, false, false, false, false, false, false, false, false, false, false] rfl rfl (any_of HT_.out (by kernel_rfl)) (fun _ _ _ h => h) (Or.inl ⟨by rfl, ?_⟩) ?_ ?_
                    rotate_left
                    · intro w'
                      go_simp
                      with_reducible rfl
                    rotate_left
                    · simp only [Act.put, List.setIfInBounds_toArray, List.set_cons_zero, List.set_cons_succ, i64_w, i32_w]
                      rfl
                    refine pure_ (i := 18) (N := some 25) (v := ?_) (a' := ?_) #[true, true, true, true, true, true, true, true, true, true, true, true, true, true, true, true, true, false, true, false, false, false, false, false, false, false, false, false, false, false, false, false, false, false, false, false, false, false, false, false, false, false, false, false, false, false, false, false, false, false, false] rfl rfl (any_of HT_.out (by kernel_rfl)) (fun _ _ _ h => h) (Or.inl ⟨by rfl, ?_⟩) ?_ ?_
                    rotate_left
                    · intro w'
                      go_simp
                      with_reducible rfl
                    rotate_left
                    · simp only [Act.put, List.setIfInBounds_toArray, List.set_cons_zero, List.set_cons_succ, i64_w, i32_w]
                      rfl
                    refine one_ (i := 17) (N := some 24) #[true, true, true, true, true, true, true, true, true, true, true, true, true, true, true, true, true, true, true, false, false, false, false, false, false, false, false, false, false, false, false, false, false, false, false, false, false, false, false, false, false, false, false, false, false, false, false, false, false, false, false] rfl rfl (one_of HT_.out (by kernel_rfl)) (by decide) (fun K hK => ?_)
                    refine goes_ Try.func18 (by kernel_rfl) rfl #[.string a1] (by rfl) rfl rfl (by (try simp only [List.map_toArray, List.map_cons, List.map_nil]); first | done | rfl | (simp only [List.length_drop, List.length_take]; rfl)) ?_
                    with_reducible refine (kinds_OfCode.calls a1 t178 _ A12.out).mono ?_
                    rintro e w33 ⟨rfl, hb⟩
                    refine ⟨_, rfl, ?_⟩
                    have n0_ := Aside0.mk (blk_below (g := gb172) (o := .cells #[.int .i64 a2_0, .int .i64 a2_1, .string a2_2, .string a2_3, .string a2_4, .string a2_5, .int .u64 a2_6, .string a2_7, .string a2_8, .string a2_9, .string a2_10, .int .i64 a2_11, .string a2_12, .string a2_13, .int .i64 a2_14, .string a2_15, .slice A2_16 l2_16.length c2_16, .string a2_17, .string a2_18, .slice A2_19 l2_19.length c2_19, .slice A2_20 l2_20.length c2_20] 29 (0, 0)) (by (with_reducible repeat (first | refine blk_drewN ?_ _ | refine blk_drew ?_ | refine blk_alloc ?_ _)); exact BK172.out) hb)
                    have n1_ := Aside0.mk (below_step (by repeat (first | (with_reducible first | exact HB.out | apply below_alloc | apply pw_below_drewN | apply below_drew1 | refine below_set ?_ GE172.out) | exact HB.out)) hb)
                    clear BK172
                    clear HB
                    have BK172 := n0_
                    have HB := n1_
                    clear n0_ n1_
                    (try clear hb)
                    (try clear hb2)
                    (try clear hk)
                    (try clear hi)
                    refine hK.out _ _ ⟨(blk_cell BK172.out 0).trans rfl, (blk_cell BK172.out 1).trans rfl, (blk_cell BK172.out 2).trans rfl, (blk_cell BK172.out 3).trans rfl, (blk_cell BK172.out 4).trans rfl, (blk_cell BK172.out 5).trans rfl, (blk_cell BK172.out 6).trans rfl, (blk_cell BK172.out 7).trans rfl, (blk_cell BK172.out 8).trans rfl, (blk_cell BK172.out 9).trans rfl, (blk_cell BK172.out 10).trans rfl, (blk_cell BK172.out 11).trans rfl, (blk_cell BK172.out 12).trans rfl, (blk_cell BK172.out 13).trans rfl, (blk_cell BK172.out 14).trans rfl, (blk_cell BK172.out 15).trans rfl, (blk_cell BK172.out 16).trans rfl, (blk_cell BK172.out 17).trans rfl, (blk_cell BK172.out 18).trans rfl, (blk_cell BK172.out 19).trans rfl, (blk_cell BK172.out 20).trans rfl⟩ (fun hHeld => ?_)
                    clear hK K
                    refine norm_ (a' := ?_) ?_ ?_
                    rotate_left
                    · show Act.put _ (some 24) _ = _
                      simp only [Act.put, List.setIfInBounds_toArray, List.set_cons_zero, List.set_cons_succ, i64_w, i32_w]
                      rfl
                    as_aux_lemma =>
                      refine one_ (i := 19) (N := some 26) #[true, true, true, true, true, true, true, true, true, true, true, true, true, true, true, true, true, true, true, true, false, false, false, false, false, false, false, false, false, false, false, false, false, false, false, false, false, false, false, false, false, false, false, false, false, false, false, false, false, false, false] rfl rfl (one_of HT_.out (by kernel_rfl)) (by decide) (fun K hK => ?_)
                      refine goes_ Try.func23 (by kernel_rfl) rfl #[.string a1] (by rfl) rfl rfl (by (try simp only [List.map_toArray, List.map_cons, List.map_nil]); first | done | rfl | (simp only [List.length_drop, List.length_take]; rfl)) ?_
                      with_reducible refine (comptoirref07_OfCode.calls k a1 t179 _ A13.out).mono ?_
                      rintro e w34 ⟨rfl, hb⟩
                      refine ⟨_, rfl, ?_⟩
                      have n0_ := Aside0.mk (blk_below (g := gb172) (o := .cells #[.int .i64 a2_0, .int .i64 a2_1, .string a2_2, .string a2_3, .string a2_4, .string a2_5, .int .u64 a2_6, .string a2_7, .string a2_8, .string a2_9, .string a2_10, .int .i64 a2_11, .string a2_12, .string a2_13, .int .i64 a2_14, .string a2_15, .slice A2_16 l2_16.length c2_16, .string a2_17, .string a2_18, .slice A2_19 l2_19.length c2_19, .slice A2_20 l2_20.length c2_20] 29 (0, 0)) (by (with_reducible repeat (first | refine blk_drewN ?_ _ | refine blk_drew ?_ | refine blk_alloc ?_ _)); exact BK172.out) hb)
                      have n1_ := Aside0.mk (below_step (by repeat (first | (with_reducible first | exact HB.out | apply below_alloc | apply pw_below_drewN | apply below_drew1 | refine below_set ?_ GE172.out) | exact HB.out)) hb)
                      clear BK172
                      clear HB
                      have BK172 := n0_
                      have HB := n1_
                      clear n0_ n1_
                      (try clear hb)
                      (try clear hb2)
                      (try clear hk)
                      (try clear hi)
                      refine hK.out _ _ ⟨(blk_cell BK172.out 0).trans rfl, (blk_cell BK172.out 1).trans rfl, (blk_cell BK172.out 2).trans rfl, (blk_cell BK172.out 3).trans rfl, (blk_cell BK172.out 4).trans rfl, (blk_cell BK172.out 5).trans rfl, (blk_cell BK172.out 6).trans rfl, (blk_cell BK172.out 7).trans rfl, (blk_cell BK172.out 8).trans rfl, (blk_cell BK172.out 9).trans rfl, (blk_cell BK172.out 10).trans rfl, (blk_cell BK172.out 11).trans rfl, (blk_cell BK172.out 12).trans rfl, (blk_cell BK172.out 13).trans rfl, (blk_cell BK172.out 14).trans rfl, (blk_cell BK172.out 15).trans rfl, (blk_cell BK172.out 16).trans rfl, (blk_cell BK172.out 17).trans rfl, (blk_cell BK172.out 18).trans rfl, (blk_cell BK172.out 19).trans rfl, (blk_cell BK172.out 20).trans rfl⟩ (fun hHeld => ?_)
                      clear hK K
                      refine norm_ (a' := ?_) ?_ ?_
                      rotate_left
                      · show Act.put _ (some 26) _ = _
                        simp only [Act.put, List.setIfInBounds_toArray, List.set_cons_zero, List.set_cons_succ, i64_w, i32_w]
                        rfl
                      refine pure_ (i := 20) (N := some 27) (v := ?_) (a' := ?_) #[true, true, true, true, true, true, true, true, true, true, true, true, true, true, true, true, true, true, true, true, true, false, false, false, false, false, false, false, false, false, false, false, false, false, false, false, false, false, false, false, false, false, false, false, false, false, false, false, false, false, false] rfl rfl (any_of HT_.out (by kernel_rfl)) (fun _ _ _ h => h) (Or.inl ⟨by rfl, ?_⟩) ?_ ?_
                      rotate_left
                      · intro w'
                        go_simp
                        with_reducible rfl
                      rotate_left
                      · simp only [Act.put, List.setIfInBounds_toArray, List.set_cons_zero, List.set_cons_succ, i64_w, i32_w]
                        rfl
                      refine pure_ (i := 21) (N := some 28) (v := ?_) (a' := ?_) #[true, true, true, true, true, true, true, true, true, true, true, true, true, true, true, true, true, true, true, true, true, true, false, false, false, false, false, false, false, false, false, false, false, false, false, false, false, false, false, false, false, false, false, false, false, false, false, false, false, false, false] rfl rfl (any_of HT_.out (by kernel_rfl)) (fun _ _ _ h => h) (Or.inl ⟨by rfl, ?_⟩) ?_ ?_
                      rotate_left
                      · intro w'
                        go_simp
                        with_reducible rfl
                      rotate_left
                      · simp only [Act.put, List.setIfInBounds_toArray, List.set_cons_zero, List.set_cons_succ, i64_w, i32_w]
                        rfl
                      refine pure_ (i := 22) (N := some 29) (v := ?_) (a' := ?_) #[true, true, true, true, true, true, true, true, true, true, true, true, true, true, true, true, true, true, true, true, true, true, true, false, false, false, false, false, false, false, false, false, false, false, false, false, false, false, false, false, false, false, false, false, false, false, false, false, false, false, false] rfl rfl (any_of HT_.out (by kernel_rfl)) (fun _ _ _ h => h) (Or.inl ⟨by rfl, ?_⟩) ?_ ?_
                      rotate_left
                      · intro w'
                        go_simp
                        with_reducible rfl
                      rotate_left
                      · simp only [Act.put, List.setIfInBounds_toArray, List.set_cons_zero, List.set_cons_succ, i64_w, i32_w]
                        rfl
                      refine pure_ (i := 23) (N := some 30) (v := ?_) (a' := ?_) #[true, true, true, true, true, true, true, true, true, true, true, true, true, true, true, true, true, true, true, true, true, true, true, true, false, false, false, false, false, false, false, false, false, false, false, false, false, false, false, false, false, false, false, false, false, false, false, false, false, false, false] rfl rfl (any_of HT_.out (by kernel_rfl)) (fun _ _ _ h => h) (Or.inl ⟨by rfl, ?_⟩) ?_ ?_
                      rotate_left
                      · intro w'
                        go_simp
                        with_reducible rfl
                      rotate_left
                      · simp only [Act.put, List.setIfInBounds_toArray, List.set_cons_zero, List.set_cons_succ, i64_w, i32_w]
                        rfl
                      refine pure_ (i := 25) (N := some 32) (v := ?_) (a' := ?_) #[true, true, true, true, true, true, true, true, true, true, true, true, true, true, true, true, true, true, true, true, true, true, true, true, false, true, false, false, false, false, false, false, false, false, false, false, false, false, false, false, false, false, false, false, false, false, false, false, false, false, false] rfl rfl (any_of HT_.out (by kernel_rfl)) (fun _ _ _ h => h) (Or.inl ⟨by rfl, ?_⟩) ?_ ?_
                      rotate_left
                      · intro w'
                        go_simp
                        with_reducible rfl
                      rotate_left
                      · simp only [Act.put, List.setIfInBounds_toArray, List.set_cons_zero, List.set_cons_succ, i64_w, i32_w]
                        rfl
                      refine one_ (i := 24) (N := some 31) #[true, true, true, true, true, true, true, true, true, true, true, true, true, true, true, true, true, true, true, true, true, true, true, true, true, true, false, false, false, false, false, false, false, false, false, false, false, false, false, false, false, false, false, false, false, false, false, false, false, false, false] rfl rfl (one_of HT_.out (by kernel_rfl)) (by decide) (fun K hK => ?_)
                      refine goes_ Try.func24 (by kernel_rfl) rfl #[.string a1] (by rfl) rfl rfl (by (try simp only [List.map_toArray, List.map_cons, List.map_nil]); first | done | rfl | (simp only [List.length_drop, List.length_take]; rfl)) ?_
                      with_reducible refine (kinds_OfMti.calls a1 t180 _ A15.out).mono ?_
                      rintro e w35 ⟨rfl, hb⟩
                      refine ⟨_, rfl, ?_⟩
                      have n0_ := Aside0.mk (blk_below (g := gb172) (o := .cells #[.int .i64 a2_0, .int .i64 a2_1, .string a2_2, .string a2_3, .string a2_4, .string a2_5, .int .u64 a2_6, .string a2_7, .string a2_8, .string a2_9, .string a2_10, .int .i64 a2_11, .string a2_12, .string a2_13, .int .i64 a2_14, .string a2_15, .slice A2_16 l2_16.length c2_16, .string a2_17, .string a2_18, .slice A2_19 l2_19.length c2_19, .slice A2_20 l2_20.length c2_20] 29 (0, 0)) (by (with_reducible repeat (first | refine blk_drewN ?_ _ | refine blk_drew ?_ | refine blk_alloc ?_ _)); exact BK172.out) hb)
                      have n1_ := Aside0.mk (below_step (by repeat (first | (with_reducible first | exact HB.out | apply below_alloc | apply pw_below_drewN | apply below_drew1 | refine below_set ?_ GE172.out) | exact HB.out)) hb)
                      clear BK172
                      clear HB
                      have BK172 := n0_
                      have HB := n1_
                      clear n0_ n1_
                      (try clear hb)
                      (try clear hb2)
                      (try clear hk)
                      (try clear hi)
                      refine hK.out _ _ ⟨(blk_cell BK172.out 0).trans rfl, (blk_cell BK172.out 1).trans rfl, (blk_cell BK172.out 2).trans rfl, (blk_cell BK172.out 3).trans rfl, (blk_cell BK172.out 4).trans rfl, (blk_cell BK172.out 5).trans rfl, (blk_cell BK172.out 6).trans rfl, (blk_cell BK172.out 7).trans rfl, (blk_cell BK172.out 8).trans rfl, (blk_cell BK172.out 9).trans rfl, (blk_cell BK172.out 10).trans rfl, (blk_cell BK172.out 11).trans rfl, (blk_cell BK172.out 12).trans rfl, (blk_cell BK172.out 13).trans rfl, (blk_cell BK172.out 14).trans rfl, (blk_cell BK172.out 15).trans rfl, (blk_cell BK172.out 16).trans rfl, (blk_cell BK172.out 17).trans rfl, (blk_cell BK172.out 18).trans rfl, (blk_cell BK172.out 19).trans rfl, (blk_cell BK172.out 20).trans rfl⟩ (fun hHeld => ?_)
                      clear hK K
                      refine norm_ (a' := ?_) ?_ ?_
                      rotate_left
                      · show Act.put _ (some 31) _ = _
                        simp only [Act.put, List.setIfInBounds_toArray, List.set_cons_zero, List.set_cons_succ, i64_w, i32_w]
                        rfl
                      as_aux_lemma =>
                        refine one_ (i := 26) (N := some 33) #[true, true, true, true, true, true, true, true, true, true, true, true, true, true, true, true, true, true, true, true, true, true, true, true, true, true, true, false, false, false, false, false, false, false, false, false, false, false, false, false, false, false, false, false, false, false, false, false, false, false, false] rfl rfl (one_of HT_.out (by kernel_rfl)) (by decide) (fun K hK => ?_)
                        refine goes_ Try.func25 (by kernel_rfl) rfl #[.string a1] (by rfl) rfl rfl (by (try simp only [List.map_toArray, List.map_cons, List.map_nil]); first | done | rfl | (simp only [List.length_drop, List.length_take]; rfl)) ?_
                        with_reducible refine (comptoirref07_OfMti.calls k a1 t181 _ A16.out).mono ?_
                        rintro e w36 ⟨rfl, hb⟩
                        refine ⟨_, rfl, ?_⟩
                        have n0_ := Aside0.mk (blk_below (g := gb172) (o := .cells #[.int .i64 a2_0, .int .i64 a2_1, .string a2_2, .string a2_3, .string a2_4, .string a2_5, .int .u64 a2_6, .string a2_7, .string a2_8, .string a2_9, .string a2_10, .int .i64 a2_11, .string a2_12, .string a2_13, .int .i64 a2_14, .string a2_15, .slice A2_16 l2_16.length c2_16, .string a2_17, .string a2_18, .slice A2_19 l2_19.length c2_19, .slice A2_20 l2_20.length c2_20] 29 (0, 0)) (by (with_reducible repeat (first | refine blk_drewN ?_ _ | refine blk_drew ?_ | refine blk_alloc ?_ _)); exact BK172.out) hb)
                        have n1_ := Aside0.mk (below_step (by repeat (first | (with_reducible first | exact HB.out | apply below_alloc | apply pw_below_drewN | apply below_drew1 | refine below_set ?_ GE172.out) | exact HB.out)) hb)
                        clear BK172
                        clear HB
                        have BK172 := n0_
                        have HB := n1_
                        clear n0_ n1_
                        (try clear hb)
                        (try clear hb2)
                        (try clear hk)
                        (try clear hi)
                        refine hK.out _ _ ⟨(blk_cell BK172.out 0).trans rfl, (blk_cell BK172.out 1).trans rfl, (blk_cell BK172.out 2).trans rfl, (blk_cell BK172.out 3).trans rfl, (blk_cell BK172.out 4).trans rfl, (blk_cell BK172.out 5).trans rfl, (blk_cell BK172.out 6).trans rfl, (blk_cell BK172.out 7).trans rfl, (blk_cell BK172.out 8).trans rfl, (blk_cell BK172.out 9).trans rfl, (blk_cell BK172.out 10).trans rfl, (blk_cell BK172.out 11).trans rfl, (blk_cell BK172.out 12).trans rfl, (blk_cell BK172.out 13).trans rfl, (blk_cell BK172.out 14).trans rfl, (blk_cell BK172.out 15).trans rfl, (blk_cell BK172.out 16).trans rfl, (blk_cell BK172.out 17).trans rfl, (blk_cell BK172.out 18).trans rfl, (blk_cell BK172.out 19).trans rfl, (blk_cell BK172.out 20).trans rfl⟩ (fun hHeld => ?_)
                        clear hK K
                        refine norm_ (a' := ?_) ?_ ?_
                        rotate_left
                        · show Act.put _ (some 33) _ = _
                          simp only [Act.put, List.setIfInBounds_toArray, List.set_cons_zero, List.set_cons_succ, i64_w, i32_w]
                          rfl
                        refine pure_ (i := 27) (N := some 34) (v := ?_) (a' := ?_) #[true, true, true, true, true, true, true, true, true, true, true, true, true, true, true, true, true, true, true, true, true, true, true, true, true, true, true, true, false, false, false, false, false, false, false, false, false, false, false, false, false, false, false, false, false, false, false, false, false, false, false] rfl rfl (any_of HT_.out (by kernel_rfl)) (fun _ _ _ h => h) (Or.inl ⟨by rfl, ?_⟩) ?_ ?_
                        rotate_left
                        · intro w'
                          go_simp
                          with_reducible rfl
                        rotate_left
                        · simp only [Act.put, List.setIfInBounds_toArray, List.set_cons_zero, List.set_cons_succ, i64_w, i32_w]
                          rfl
                        refine pure_ (i := 28) (N := some 35) (v := ?_) (a' := ?_) #[true, true, true, true, true, true, true, true, true, true, true, true, true, true, true, true, true, true, true, true, true, true, true, true, true, true, true, true, true, false, false, false, false, false, false, false, false, false, false, false, false, false, false, false, false, false, false, false, false, false, false] rfl rfl (any_of HT_.out (by kernel_rfl)) (fun _ _ _ h => h) (Or.inl ⟨by rfl, ?_⟩) ?_ ?_
                        rotate_left
                        · intro w'
                          go_simp
                          with_reducible rfl
                        rotate_left
                        · simp only [Act.put, List.setIfInBounds_toArray, List.set_cons_zero, List.set_cons_succ, i64_w, i32_w]
                          rfl
                        refine pure_ (i := 29) (N := some 36) (v := ?_) (a' := ?_) #[true, true, true, true, true, true, true, true, true, true, true, true, true, true, true, true, true, true, true, true, true, true, true, true, true, true, true, true, true, true, false, false, false, false, false, false, false, false, false, false, false, false, false, false, false, false, false, false, false, false, false] rfl rfl (any_of HT_.out (by kernel_rfl)) (fun _ _ _ h => h) (Or.inl ⟨by rfl, ?_⟩) ?_ ?_
                        rotate_left
                        · intro w'
                          go_simp
                          with_reducible rfl
                        rotate_left
                        · simp only [Act.put, List.setIfInBounds_toArray, List.set_cons_zero, List.set_cons_succ, i64_w, i32_w]
                          rfl
                        refine pure_ (i := 30) (N := some 37) (v := ?_) (a' := ?_) #[true, true, true, true, true, true, true, true, true, true, true, true, true, true, true, true, true, true, true, true, true, true, true, true, true, true, true, true, true, true, true, false, false, false, false, false, false, false, false, false, false, false, false, false, false, false, false, false, false, false, false] rfl rfl (any_of HT_.out (by kernel_rfl)) (fun _ _ _ h => h) (Or.inl ⟨by rfl, ?_⟩) ?_ ?_
                        rotate_left
                        · intro w'
                          go_simp
                          with_reducible rfl
                        rotate_left
                        · simp only [Act.put, List.setIfInBounds_toArray, List.set_cons_zero, List.set_cons_succ, i64_w, i32_w]
                          rfl
                        refine pure_ (i := 32) (N := some 39) (v := ?_) (a' := ?_) #[true, true, true, true, true, true, true, true, true, true, true, true, true, true, true, true, true, true, true, true, true, true, true, true, true, true, true, true, true, true, true, false, true, false, false, false, false, false, false, false, false, false, false, false, false, false, false, false, false, false, false] rfl rfl (any_of HT_.out (by kernel_rfl)) (fun _ _ _ h => h) (Or.inl ⟨by rfl, ?_⟩) ?_ ?_
                        rotate_left
                        · intro w'
                          go_simp
                          with_reducible rfl
                        rotate_left
                        · simp only [Act.put, List.setIfInBounds_toArray, List.set_cons_zero, List.set_cons_succ, i64_w, i32_w]
                          rfl
                        refine one_ (i := 31) (N := some 38) #[true, true, true, true, true, true, true, true, true, true, true, true, true, true, true, true, true, true, true, true, true, true, true, true, true, true, true, true, true, true, true, true, true, false, false, false, false, false, false, false, false, false, false, false, false, false, false, false, false, false, false] rfl rfl (one_of HT_.out (by kernel_rfl)) (by decide) (fun K hK => ?_)
                        refine goes_ Try.func16 (by kernel_rfl) rfl #[.int .i64 a0] (by rfl) rfl rfl (by (try simp only [List.map_toArray, List.map_cons, List.map_nil]); first | done | rfl | (simp only [List.length_drop, List.length_take]; rfl)) ?_
                        with_reducible refine (kinds_Answer.calls a0 t182 _ A18.out).mono ?_
                        rintro e w' ⟨rfl, ⟨nd, rfl⟩⟩
                        refine ⟨_, rfl, ?_⟩
                        refine hK.out _ _ ⟨(blk_cell BK172.out 0).trans rfl, (blk_cell BK172.out 1).trans rfl, (blk_cell BK172.out 2).trans rfl, (blk_cell BK172.out 3).trans rfl, (blk_cell BK172.out 4).trans rfl, (blk_cell BK172.out 5).trans rfl, (blk_cell BK172.out 6).trans rfl, (blk_cell BK172.out 7).trans rfl, (blk_cell BK172.out 8).trans rfl, (blk_cell BK172.out 9).trans rfl, (blk_cell BK172.out 10).trans rfl, (blk_cell BK172.out 11).trans rfl, (blk_cell BK172.out 12).trans rfl, (blk_cell BK172.out 13).trans rfl, (blk_cell BK172.out 14).trans rfl, (blk_cell BK172.out 15).trans rfl, (blk_cell BK172.out 16).trans rfl, (blk_cell BK172.out 17).trans rfl, (blk_cell BK172.out 18).trans rfl, (blk_cell BK172.out 19).trans rfl, (blk_cell BK172.out 20).trans rfl⟩ (fun hHeld => ?_)
                        clear hK K
                        refine norm_ (a' := ?_) ?_ ?_
                        rotate_left
                        · show Act.put _ (some 38) _ = _
                          simp only [Act.put, List.setIfInBounds_toArray, List.set_cons_zero, List.set_cons_succ, i64_w, i32_w]
                          rfl
                        as_aux_lemma =>
                          refine one_ (i := 33) (N := some 40) #[true, true, true, true, true, true, true, true, true, true, true, true, true, true, true, true, true, true, true, true, true, true, true, true, true, true, true, true, true, true, true, true, true, true, false, false, false, false, false, false, false, false, false, false, false, false, false, false, false, false, false] rfl rfl (one_of HT_.out (by kernel_rfl)) (by decide) (fun K hK => ?_)
                          refine goes_ Try.func26 (by kernel_rfl) rfl #[.int .i64 a0] (by rfl) rfl rfl (by (try simp only [List.map_toArray, List.map_cons, List.map_nil]); first | done | rfl | (simp only [List.length_drop, List.length_take]; rfl)) ?_
                          with_reducible refine (comptoirref07_Answer.calls a0 t183 _ A19.out).mono ?_
                          rintro e w' ⟨rfl, ⟨nd, rfl⟩⟩
                          refine ⟨_, rfl, ?_⟩
                          refine hK.out _ _ ⟨(blk_cell BK172.out 0).trans rfl, (blk_cell BK172.out 1).trans rfl, (blk_cell BK172.out 2).trans rfl, (blk_cell BK172.out 3).trans rfl, (blk_cell BK172.out 4).trans rfl, (blk_cell BK172.out 5).trans rfl, (blk_cell BK172.out 6).trans rfl, (blk_cell BK172.out 7).trans rfl, (blk_cell BK172.out 8).trans rfl, (blk_cell BK172.out 9).trans rfl, (blk_cell BK172.out 10).trans rfl, (blk_cell BK172.out 11).trans rfl, (blk_cell BK172.out 12).trans rfl, (blk_cell BK172.out 13).trans rfl, (blk_cell BK172.out 14).trans rfl, (blk_cell BK172.out 15).trans rfl, (blk_cell BK172.out 16).trans rfl, (blk_cell BK172.out 17).trans rfl, (blk_cell BK172.out 18).trans rfl, (blk_cell BK172.out 19).trans rfl, (blk_cell BK172.out 20).trans rfl⟩ (fun hHeld => ?_)
                          clear hK K
                          refine norm_ (a' := ?_) ?_ ?_
                          rotate_left
                          · show Act.put _ (some 40) _ = _
                            simp only [Act.put, List.setIfInBounds_toArray, List.set_cons_zero, List.set_cons_succ, i64_w, i32_w]
                            rfl
                          refine pure_ (i := 34) (N := some 41) (v := ?_) (a' := ?_) #[true, true, true, true, true, true, true, true, true, true, true, true, true, true, true, true, true, true, true, true, true, true, true, true, true, true, true, true, true, true, true, true, true, true, true, false, false, false, false, false, false, false, false, false, false, false, false, false, false, false, false] rfl rfl (any_of HT_.out (by kernel_rfl)) (fun _ _ _ h => h) (Or.inl ⟨by rfl, ?_⟩) ?_ ?_
                          rotate_left
                          · intro w'
                            go_simp
                            with_reducible rfl
                          rotate_left
                          · simp only [Act.put, List.setIfInBounds_toArray, List.set_cons_zero, List.set_cons_succ, i64_w, i32_w]
                            rfl
                          refine pure_ (i := 35) (N := some 42) (v := ?_) (a' := ?_) #[true, true, true, true, true, true, true, true, true, true, true, true, true, true, true, true, true, true, true, true, true, true, true, true, true, true, true, true, true, true, true, true, true, true, true, true, false, false, false, false, false, false, false, false, false, false, false, false, false, false, false] rfl rfl (any_of HT_.out (by kernel_rfl)) (fun _ _ _ h => h) (Or.inl ⟨by rfl, ?_⟩) ?_ ?_
                          rotate_left
                          · intro w'
                            go_simp
                            with_reducible rfl
                          rotate_left
                          · simp only [Act.put, List.setIfInBounds_toArray, List.set_cons_zero, List.set_cons_succ, i64_w, i32_w]
                            rfl
                          refine pure_ (i := 36) (N := some 43) (v := ?_) (a' := ?_) #[true, true, true, true, true, true, true, true, true, true, true, true, true, true, true, true, true, true, true, true, true, true, true, true, true, true, true, true, true, true, true, true, true, true, true, true, true, false, false, false, false, false, false, false, false, false, false, false, false, false, false] rfl rfl (any_of HT_.out (by kernel_rfl)) (fun _ _ _ h => h) (Or.inl ⟨by rfl, ?_⟩) ?_ ?_
                          rotate_left
                          · intro w'
                            go_simp
                            with_reducible rfl
                          rotate_left
                          · simp only [Act.put, List.setIfInBounds_toArray, List.set_cons_zero, List.set_cons_succ, i64_w, i32_w]
                            rfl
                          refine pure_ (i := 37) (N := some 44) (v := ?_) (a' := ?_) #[true, true, true, true, true, true, true, true, true, true, true, true, true, true, true, true, true, true, true, true, true, true, true, true, true, true, true, true, true, true, true, true, true, true, true, true, true, true, false, false, false, false, false, false, false, false, false, false, false, false, false] rfl rfl (any_of HT_.out (by kernel_rfl)) (fun _ _ _ h => h) (Or.inl ⟨by rfl, ?_⟩) ?_ ?_
                          rotate_left
                          · intro w'
                            go_simp
                            with_reducible rfl
                          rotate_left
                          · simp only [Act.put, List.setIfInBounds_toArray, List.set_cons_zero, List.set_cons_succ, i64_w, i32_w]
                            rfl
                          refine pure_ (i := 39) (N := some 46) (v := ?_) (a' := ?_) #[true, true, true, true, true, true, true, true, true, true, true, true, true, true, true, true, true, true, true, true, true, true, true, true, true, true, true, true, true, true, true, true, true, true, true, true, true, true, false, true, false, false, false, false, false, false, false, false, false, false, false] rfl rfl (any_of HT_.out (by kernel_rfl)) (fun _ _ _ h => h) (Or.inl ⟨by rfl, ?_⟩) ?_ ?_
                          rotate_left
                          · intro w'
                            go_simp
                            with_reducible rfl
                          rotate_left
                          · simp only [Act.put, List.setIfInBounds_toArray, List.set_cons_zero, List.set_cons_succ, i64_w, i32_w]
                            rfl
                          refine one_ (i := 38) (N := some 45) #[true, true, true, true, true, true, true, true, true, true, true, true, true, true, true, true, true, true, true, true, true, true, true, true, true, true, true, true, true, true, true, true, true, true, true, true, true, true, true, true, false, false, false, false, false, false, false, false, false, false, false] rfl rfl (one_of HT_.out (by kernel_rfl)) (by decide) (fun K hK => ?_)
                          refine goes_ Try.func17 (by kernel_rfl) rfl #[.int .i64 a0] (by rfl) rfl rfl (by (try simp only [List.map_toArray, List.map_cons, List.map_nil]); first | done | rfl | (simp only [List.length_drop, List.length_take]; rfl)) ?_
                          with_reducible refine (kinds_Money.calls a0 t184 _ A21.out).mono ?_
                          rintro e w' ⟨rfl, ⟨nd, rfl⟩⟩
                          refine ⟨_, rfl, ?_⟩
                          refine hK.out _ _ ⟨(blk_cell BK172.out 0).trans rfl, (blk_cell BK172.out 1).trans rfl, (blk_cell BK172.out 2).trans rfl, (blk_cell BK172.out 3).trans rfl, (blk_cell BK172.out 4).trans rfl, (blk_cell BK172.out 5).trans rfl, (blk_cell BK172.out 6).trans rfl, (blk_cell BK172.out 7).trans rfl, (blk_cell BK172.out 8).trans rfl, (blk_cell BK172.out 9).trans rfl, (blk_cell BK172.out 10).trans rfl, (blk_cell BK172.out 11).trans rfl, (blk_cell BK172.out 12).trans rfl, (blk_cell BK172.out 13).trans rfl, (blk_cell BK172.out 14).trans rfl, (blk_cell BK172.out 15).trans rfl, (blk_cell BK172.out 16).trans rfl, (blk_cell BK172.out 17).trans rfl, (blk_cell BK172.out 18).trans rfl, (blk_cell BK172.out 19).trans rfl, (blk_cell BK172.out 20).trans rfl⟩ (fun hHeld => ?_)
                          clear hK K
                          refine norm_ (a' := ?_) ?_ ?_
                          rotate_left
                          · show Act.put _ (some 45) _ = _
                            simp only [Act.put, List.setIfInBounds_toArray, List.set_cons_zero, List.set_cons_succ, i64_w, i32_w]
                            rfl
                          as_aux_lemma =>
                            refine one_ (i := 40) (N := some 47) #[true, true, true, true, true, true, true, true, true, true, true, true, true, true, true, true, true, true, true, true, true, true, true, true, true, true, true, true, true, true, true, true, true, true, true, true, true, true, true, true, true, false, false, false, false, false, false, false, false, false, false] rfl rfl (one_of HT_.out (by kernel_rfl)) (by decide) (fun K hK => ?_)
                            refine goes_ Try.func27 (by kernel_rfl) rfl #[.int .i64 a0] (by rfl) rfl rfl (by (try simp only [List.map_toArray, List.map_cons, List.map_nil]); first | done | rfl | (simp only [List.length_drop, List.length_take]; rfl)) ?_
                            with_reducible refine (comptoirref07_Money.calls a0 t185 _ A22.out).mono ?_
                            rintro e w' ⟨rfl, ⟨nd, rfl⟩⟩
                            refine ⟨_, rfl, ?_⟩
                            refine hK.out _ _ ⟨(blk_cell BK172.out 0).trans rfl, (blk_cell BK172.out 1).trans rfl, (blk_cell BK172.out 2).trans rfl, (blk_cell BK172.out 3).trans rfl, (blk_cell BK172.out 4).trans rfl, (blk_cell BK172.out 5).trans rfl, (blk_cell BK172.out 6).trans rfl, (blk_cell BK172.out 7).trans rfl, (blk_cell BK172.out 8).trans rfl, (blk_cell BK172.out 9).trans rfl, (blk_cell BK172.out 10).trans rfl, (blk_cell BK172.out 11).trans rfl, (blk_cell BK172.out 12).trans rfl, (blk_cell BK172.out 13).trans rfl, (blk_cell BK172.out 14).trans rfl, (blk_cell BK172.out 15).trans rfl, (blk_cell BK172.out 16).trans rfl, (blk_cell BK172.out 17).trans rfl, (blk_cell BK172.out 18).trans rfl, (blk_cell BK172.out 19).trans rfl, (blk_cell BK172.out 20).trans rfl⟩ (fun hHeld => ?_)
                            clear hK K
                            refine norm_ (a' := ?_) ?_ ?_
                            rotate_left
                            · show Act.put _ (some 47) _ = _
                              simp only [Act.put, List.setIfInBounds_toArray, List.set_cons_zero, List.set_cons_succ, i64_w, i32_w]
                              rfl
                            refine pure_ (i := 41) (N := some 48) (v := ?_) (a' := ?_) #[true, true, true, true, true, true, true, true, true, true, true, true, true, true, true, true, true, true, true, true, true, true, true, true, true, true, true, true, true, true, true, true, true, true, true, true, true, true, true, true, true, true, false, false, false, false, false, false, false, false, false] rfl rfl (any_of HT_.out (by kernel_rfl)) (fun _ _ _ h => h) (Or.inl ⟨by rfl, ?_⟩) ?_ ?_
                            rotate_left
                            · intro w'
                              go_simp
                              with_reducible rfl
                            rotate_left
                            · simp only [Act.put, List.setIfInBounds_toArray, List.set_cons_zero, List.set_cons_succ, i64_w, i32_w]
                              rfl
                            refine pure_ (i := 42) (N := some 49) (v := ?_) (a' := ?_) #[true, true, true, true, true, true, true, true, true, true, true, true, true, true, true, true, true, true, true, true, true, true, true, true, true, true, true, true, true, true, true, true, true, true, true, true, true, true, true, true, true, true, true, false, false, false, false, false, false, false, false] rfl rfl (any_of HT_.out (by kernel_rfl)) (fun _ _ _ h => h) (Or.inl ⟨by rfl, ?_⟩) ?_ ?_
                            rotate_left
                            · intro w'
                              go_simp
                              with_reducible rfl
                            rotate_left
                            · simp only [Act.put, List.setIfInBounds_toArray, List.set_cons_zero, List.set_cons_succ, i64_w, i32_w]
                              rfl
                            refine pure_ (i := 43) (N := some 50) (v := ?_) (a' := ?_) #[true, true, true, true, true, true, true, true, true, true, true, true, true, true, true, true, true, true, true, true, true, true, true, true, true, true, true, true, true, true, true, true, true, true, true, true, true, true, true, true, true, true, true, true, false, false, false, false, false, false, false] rfl rfl (any_of HT_.out (by kernel_rfl)) (fun _ _ _ h => h) (Or.inl ⟨by rfl, ?_⟩) ?_ ?_
                            rotate_left
                            · intro w'
                              go_simp
                              with_reducible rfl
                            rotate_left
                            · simp only [Act.put, List.setIfInBounds_toArray, List.set_cons_zero, List.set_cons_succ, i64_w, i32_w]
                              rfl
                            refine take_ (i := 44) (N := some 51) (v := ?_) (a' := ?_) #[true, true, true, true, true, true, true, true, true, true, true, true, true, true, true, true, true, true, true, true, true, true, true, true, true, true, true, true, true, true, true, true, true, true, true, true, true, true, true, true, true, true, true, true, true, false, false, false, false, false, false] rfl rfl (take_ofW HT_.out HW_.out (by kernel_rfl)) (fun _ _ _ h => h) (Or.inl ⟨by rfl, ?_⟩) hHeld ?_ ?_
                            rotate_left
                            · intro w' hS_
                              refine Go.Proofs.Ythdjodamdakjbaa.Loads.run_execOp_load (g := ?L1g0) (ty := ?L1ty0) (d := ?L1d0) (x := .tmp 5) [.int .i64 a2_0, .int .i64 a2_1, .string a2_2, .string a2_3, .string a2_4, .string a2_5, .int .u64 a2_6, .string a2_7, .string a2_8, .string a2_9, .string a2_10, .int .i64 a2_11, .string a2_12, .string a2_13, .int .i64 a2_14, .string a2_15, .slice A2_16 l2_16.length c2_16, .string a2_17, .string a2_18, .slice A2_19 l2_19.length c2_19, .slice A2_20 l2_20.length c2_20] ?L1h1 ?L1h2 ?L1h3 ?L1h4 ?L1h5 ?L1h6
                              case L1h1 => exact rfl
                              case L1h2 => exact rfl
                              case L1h3 => exact hS_
                              case L1h4 => exact Try.underlying29
                              case L1h5 => exact rfl
                              case L1h6 => kernel_rfl
                            rotate_left
                            · simp only [Act.put, List.setIfInBounds_toArray, List.set_cons_zero, List.set_cons_succ, i64_w, i32_w]
                              rfl
                            refine take_ (i := 46) (N := some 53) (v := ?_) (a' := ?_) #[true, true, true, true, true, true, true, true, true, true, true, true, true, true, true, true, true, true, true, true, true, true, true, true, true, true, true, true, true, true, true, true, true, true, true, true, true, true, true, true, true, true, true, true, true, false, true, false, false, false, false] rfl rfl (take_ofW HT_.out HW_.out (by kernel_rfl)) (fun _ _ _ h => h) (Or.inl ⟨by rfl, ?_⟩) hHeld ?_ ?_
                            rotate_left
                            · intro w' hS_
                              refine Go.Proofs.Ythdjodamdakjbaa.Loads.run_execOp_load (g := ?L2g0) (ty := ?L2ty0) (d := ?L2d0) (x := .tmp 5) [.int .i64 a2_0, .int .i64 a2_1, .string a2_2, .string a2_3, .string a2_4, .string a2_5, .int .u64 a2_6, .string a2_7, .string a2_8, .string a2_9, .string a2_10, .int .i64 a2_11, .string a2_12, .string a2_13, .int .i64 a2_14, .string a2_15, .slice A2_16 l2_16.length c2_16, .string a2_17, .string a2_18, .slice A2_19 l2_19.length c2_19, .slice A2_20 l2_20.length c2_20] ?L2h1 ?L2h2 ?L2h3 ?L2h4 ?L2h5 ?L2h6
                              case L2h1 => exact rfl
                              case L2h2 => exact rfl
                              case L2h3 => exact hS_
                              case L2h4 => exact Try.underlying29
                              case L2h5 => exact rfl
                              case L2h6 => kernel_rfl
                            rotate_left
                            · simp only [Act.put, List.setIfInBounds_toArray, List.set_cons_zero, List.set_cons_succ, i64_w, i32_w]
                              rfl
                            refine one_ (i := 45) (N := some 52) #[true, true, true, true, true, true, true, true, true, true, true, true, true, true, true, true, true, true, true, true, true, true, true, true, true, true, true, true, true, true, true, true, true, true, true, true, true, true, true, true, true, true, true, true, true, true, true, false, false, false, false] rfl rfl (one_of HT_.out (by kernel_rfl)) (by decide) (fun K hK => ?_)
                            refine goes_ Try.func12 (by kernel_rfl) rfl #[.agg #[.int .i64 a2_0, .int .i64 a2_1, .string a2_2, .string a2_3, .string a2_4, .string a2_5, .int .u64 a2_6, .string a2_7, .string a2_8, .string a2_9, .string a2_10, .int .i64 a2_11, .string a2_12, .string a2_13, .int .i64 a2_14, .string a2_15, .slice A2_16 l2_16.length c2_16, .string a2_17, .string a2_18, .slice A2_19 l2_19.length c2_19, .slice A2_20 l2_20.length c2_20]] (by rfl) rfl rfl (by (try simp only [List.map_toArray, List.map_cons, List.map_nil]); first | done | rfl | (simp only [List.length_drop, List.length_take]; rfl)) ?_
                            with_reducible refine (kinds_Fits.calls a2_0 a2_1 a2_2 a2_3 a2_4 a2_5 a2_6 a2_7 a2_8 a2_9 a2_10 a2_11 a2_12 a2_13 a2_14 a2_15 _ _ l2_16 a2_17 a2_18 _ _ l2_19 _ _ l2_20 t186 _ ?side1 ?side2 ?side3 ?side4 ?side5 ?side6 A24.out).mono ?_
                            (case side1 => repeat (first | exact (Kd.C_below HR2_16.out (by repeat (first | (with_reducible first | exact HB.out | apply below_alloc | apply pw_below_drewN | apply below_drew1 | refine below_set ?_ GE172.out) | exact HB.out))) | (with_reducible refine Kd.C_alloc ?_ _) | (with_reducible refine Kd.C_drewN ?_ _) | (with_reducible refine Kd.C_drew ?_)))
                            (case side2 => exact HC2_16.out)
                            (case side3 => repeat (first | exact (Kd.C_below HR2_19.out (by repeat (first | (with_reducible first | exact HB.out | apply below_alloc | apply pw_below_drewN | apply below_drew1 | refine below_set ?_ GE172.out) | exact HB.out))) | (with_reducible refine Kd.C_alloc ?_ _) | (with_reducible refine Kd.C_drewN ?_ _) | (with_reducible refine Kd.C_drew ?_)))
                            (case side4 => exact HC2_19.out)
                            (case side5 => repeat (first | exact (Kd.C_below HR2_20.out (by repeat (first | (with_reducible first | exact HB.out | apply below_alloc | apply pw_below_drewN | apply below_drew1 | refine below_set ?_ GE172.out) | exact HB.out))) | (with_reducible refine Kd.C_alloc ?_ _) | (with_reducible refine Kd.C_drewN ?_ _) | (with_reducible refine Kd.C_drew ?_)))
                            (case side6 => exact HC2_20.out)
                            rintro e w37 ⟨rfl, hb⟩
                            refine ⟨_, rfl, ?_⟩
                            have n0_ := Aside0.mk (blk_below (g := gb172) (o := .cells #[.int .i64 a2_0, .int .i64 a2_1, .string a2_2, .string a2_3, .string a2_4, .string a2_5, .int .u64 a2_6, .string a2_7, .string a2_8, .string a2_9, .string a2_10, .int .i64 a2_11, .string a2_12, .string a2_13, .int .i64 a2_14, .string a2_15, .slice A2_16 l2_16.length c2_16, .string a2_17, .string a2_18, .slice A2_19 l2_19.length c2_19, .slice A2_20 l2_20.length c2_20] 29 (0, 0)) (by (with_reducible repeat (first | refine blk_drewN ?_ _ | refine blk_drew ?_ | refine blk_alloc ?_ _)); exact BK172.out) hb)
                            have n1_ := Aside0.mk (below_step (by repeat (first | (with_reducible first | exact HB.out | apply below_alloc | apply pw_below_drewN | apply below_drew1 | refine below_set ?_ GE172.out) | exact HB.out)) hb)
                            clear BK172
                            clear HB
                            have BK172 := n0_
                            have HB := n1_
                            clear n0_ n1_
                            (try clear hb)
                            (try clear hb2)
                            (try clear hk)
                            (try clear hi)
                            refine hK.out _ _ ⟨(blk_cell BK172.out 0).trans rfl, (blk_cell BK172.out 1).trans rfl, (blk_cell BK172.out 2).trans rfl, (blk_cell BK172.out 3).trans rfl, (blk_cell BK172.out 4).trans rfl, (blk_cell BK172.out 5).trans rfl, (blk_cell BK172.out 6).trans rfl, (blk_cell BK172.out 7).trans rfl, (blk_cell BK172.out 8).trans rfl, (blk_cell BK172.out 9).trans rfl, (blk_cell BK172.out 10).trans rfl, (blk_cell BK172.out 11).trans rfl, (blk_cell BK172.out 12).trans rfl, (blk_cell BK172.out 13).trans rfl, (blk_cell BK172.out 14).trans rfl, (blk_cell BK172.out 15).trans rfl, (blk_cell BK172.out 16).trans rfl, (blk_cell BK172.out 17).trans rfl, (blk_cell BK172.out 18).trans rfl, (blk_cell BK172.out 19).trans rfl, (blk_cell BK172.out 20).trans rfl⟩ (fun hHeld => ?_)
                            clear hK K
                            refine norm_ (a' := ?_) ?_ ?_
                            rotate_left
                            · show Act.put _ (some 52) _ = _
                              simp only [Act.put, List.setIfInBounds_toArray, List.set_cons_zero, List.set_cons_succ, i64_w, i32_w]
                              rfl
                            as_aux_lemma =>
                              refine one_ (i := 47) (N := some 54) #[true, true, true, true, true, true, true, true, true, true, true, true, true, true, true, true, true, true, true, true, true, true, true, true, true, true, true, true, true, true, true, true, true, true, true, true, true, true, true, true, true, true, true, true, true, true, true, true, false, false, false] rfl rfl (one_of HT_.out (by kernel_rfl)) (by decide) (fun K hK => ?_)
                              refine goes_ Try.func15 (by kernel_rfl) rfl #[.agg #[.int .i64 a2_0, .int .i64 a2_1, .string a2_2, .string a2_3, .string a2_4, .string a2_5, .int .u64 a2_6, .string a2_7, .string a2_8, .string a2_9, .string a2_10, .int .i64 a2_11, .string a2_12, .string a2_13, .int .i64 a2_14, .string a2_15, .slice A2_16 l2_16.length c2_16, .string a2_17, .string a2_18, .slice A2_19 l2_19.length c2_19, .slice A2_20 l2_20.length c2_20]] (by rfl) rfl rfl (by (try simp only [List.map_toArray, List.map_cons, List.map_nil]); first | done | rfl | (simp only [List.length_drop, List.length_take]; rfl)) ?_
                              with_reducible refine (comptoirref07_Fits.calls k a2_0 a2_1 a2_2 a2_3 a2_4 a2_5 a2_6 a2_7 a2_8 a2_9 a2_10 a2_11 a2_12 a2_13 a2_14 a2_15 _ _ l2_16 a2_17 a2_18 _ _ l2_19 _ _ l2_20 t187 _ ?side1 ?side2 ?side3 ?side4 ?side5 ?side6 A25.out).mono ?_
                              (case side1 => repeat (first | exact (Kd.C_below HR2_16.out HB.out) | (with_reducible refine Kd.C_alloc ?_ _) | (with_reducible refine Kd.C_drewN ?_ _) | (with_reducible refine Kd.C_drew ?_)))
                              (case side2 => exact HC2_16.out)
                              (case side3 => repeat (first | exact (Kd.C_below HR2_19.out HB.out) | (with_reducible refine Kd.C_alloc ?_ _) | (with_reducible refine Kd.C_drewN ?_ _) | (with_reducible refine Kd.C_drew ?_)))
                              (case side4 => exact HC2_19.out)
                              (case side5 => repeat (first | exact (Kd.C_below HR2_20.out HB.out) | (with_reducible refine Kd.C_alloc ?_ _) | (with_reducible refine Kd.C_drewN ?_ _) | (with_reducible refine Kd.C_drew ?_)))
                              (case side6 => exact HC2_20.out)
                              rintro e w38 ⟨rfl, hb⟩
                              refine ⟨_, rfl, ?_⟩
                              have n0_ := Aside0.mk (blk_below (g := gb172) (o := .cells #[.int .i64 a2_0, .int .i64 a2_1, .string a2_2, .string a2_3, .string a2_4, .string a2_5, .int .u64 a2_6, .string a2_7, .string a2_8, .string a2_9, .string a2_10, .int .i64 a2_11, .string a2_12, .string a2_13, .int .i64 a2_14, .string a2_15, .slice A2_16 l2_16.length c2_16, .string a2_17, .string a2_18, .slice A2_19 l2_19.length c2_19, .slice A2_20 l2_20.length c2_20] 29 (0, 0)) (by (with_reducible repeat (first | refine blk_drewN ?_ _ | refine blk_drew ?_ | refine blk_alloc ?_ _)); exact BK172.out) hb)
                              have n1_ := Aside0.mk (below_step (by repeat (first | (with_reducible first | exact HB.out | apply below_alloc | apply pw_below_drewN | apply below_drew1 | refine below_set ?_ GE172.out) | exact HB.out)) hb)
                              clear BK172
                              clear HB
                              have BK172 := n0_
                              have HB := n1_
                              clear n0_ n1_
                              (try clear hb)
                              (try clear hb2)
                              (try clear hk)
                              (try clear hi)
                              refine hK.out _ _ ⟨(blk_cell BK172.out 0).trans rfl, (blk_cell BK172.out 1).trans rfl, (blk_cell BK172.out 2).trans rfl, (blk_cell BK172.out 3).trans rfl, (blk_cell BK172.out 4).trans rfl, (blk_cell BK172.out 5).trans rfl, (blk_cell BK172.out 6).trans rfl, (blk_cell BK172.out 7).trans rfl, (blk_cell BK172.out 8).trans rfl, (blk_cell BK172.out 9).trans rfl, (blk_cell BK172.out 10).trans rfl, (blk_cell BK172.out 11).trans rfl, (blk_cell BK172.out 12).trans rfl, (blk_cell BK172.out 13).trans rfl, (blk_cell BK172.out 14).trans rfl, (blk_cell BK172.out 15).trans rfl, (blk_cell BK172.out 16).trans rfl, (blk_cell BK172.out 17).trans rfl, (blk_cell BK172.out 18).trans rfl, (blk_cell BK172.out 19).trans rfl, (blk_cell BK172.out 20).trans rfl⟩ (fun hHeld => ?_)
                              clear hK K
                              refine norm_ (a' := ?_) ?_ ?_
                              rotate_left
                              · show Act.put _ (some 54) _ = _
                                simp only [Act.put, List.setIfInBounds_toArray, List.set_cons_zero, List.set_cons_succ, i64_w, i32_w]
                                rfl
                              refine pure_ (i := 48) (N := some 55) (v := ?_) (a' := ?_) #[true, true, true, true, true, true, true, true, true, true, true, true, true, true, true, true, true, true, true, true, true, true, true, true, true, true, true, true, true, true, true, true, true, true, true, true, true, true, true, true, true, true, true, true, true, true, true, true, true, false, false] rfl rfl (any_of HT_.out (by kernel_rfl)) (fun _ _ _ h => h) (Or.inl ⟨by rfl, ?_⟩) ?_ ?_
                              rotate_left
                              · intro w'
                                go_simp
                                with_reducible rfl
                              rotate_left
                              · simp only [Act.put, List.setIfInBounds_toArray, List.set_cons_zero, List.set_cons_succ, i64_w, i32_w]
                                rfl
                              refine pure_ (i := 49) (N := some 56) (v := ?_) (a' := ?_) #[true, true, true, true, true, true, true, true, true, true, true, true, true, true, true, true, true, true, true, true, true, true, true, true, true, true, true, true, true, true, true, true, true, true, true, true, true, true, true, true, true, true, true, true, true, true, true, true, true, true, false] rfl rfl (any_of HT_.out (by kernel_rfl)) (fun _ _ _ h => h) (Or.inl ⟨by rfl, ?_⟩) ?_ ?_
                              rotate_left
                              · intro w'
                                go_simp
                                with_reducible rfl
                              rotate_left
                              · simp only [Act.put, List.setIfInBounds_toArray, List.set_cons_zero, List.set_cons_succ, i64_w, i32_w]
                                rfl
                              refine pure_ (i := 50) (N := some 6) (v := ?_) (a' := ?_) #[true, true, true, true, true, true, true, true, true, true, true, true, true, true, true, true, true, true, true, true, true, true, true, true, true, true, true, true, true, true, true, true, true, true, true, true, true, true, true, true, true, true, true, true, true, true, true, true, true, true, true] rfl rfl (any_of HT_.out (by kernel_rfl)) (fun _ _ _ h => h) (Or.inl ⟨by rfl, ?_⟩) ?_ ?_
                              rotate_left
                              · intro w'
                                go_simp
                                with_reducible rfl
                              rotate_left
                              · simp only [Act.put, List.setIfInBounds_toArray, List.set_cons_zero, List.set_cons_succ, i64_w, i32_w]
                                rfl
                              refine done_ (done_of HT_.out (by kernel_rfl)) ?_
                              try go_wp2
                              go_ret
                              exact ⟨by first | rfl | (simp [errW_none, errW_some] <;> rfl) | (simp [*, errW_none, errW_some] <;> rfl), by repeat (first | (with_reducible first | exact HB.out | apply below_alloc | apply pw_below_drewN | apply below_drew1 | refine below_set ?_ GE172.out) | exact HB.out)⟩
              · rw [if_neg c23] at H
                have c23b0 : (t184 == t185) = false := by simpa using c23
                (try (have c23b1 : decide (t184 = t185) = false := by simpa using c23))
                (try (have c23b2 : (t184 == t185) = false := by simpa using c23))
                (try (have c23b3 : ¬ (t184 = t185) := by simpa using c23))
                clear c23
                obtain rfl := Option.some.inj H
                exact absurd HT_.out (by decide)
            · rw [if_neg c20] at H
              have c20b0 : (t182 == t183) = false := beq_eq_false_iff_ne.mpr c20
              have c20b1 : (t182 != t183) = true := bne_iff_ne.mpr c20
              obtain rfl := Option.some.inj H
              exact absurd HT_.out (by decide)
          · rw [if_neg c17] at H
            have c17b0 : (t180 == t181) = false := beq_eq_false_iff_ne.mpr c17
            have c17b1 : (t180 != t181) = true := bne_iff_ne.mpr c17
            obtain rfl := Option.some.inj H
            exact absurd HT_.out (by decide)
        · rw [if_neg c14] at H
          have c14b0 : (t178 == t179) = false := beq_eq_false_iff_ne.mpr c14
          have c14b1 : (t178 != t179) = true := bne_iff_ne.mpr c14
          obtain rfl := Option.some.inj H
          exact absurd HT_.out (by decide)
      · rw [if_neg c11] at H
        have c11b0 : (t176.toList == t177.toList) = false := beq_eq_false_iff_ne.mpr c11
        have c11b1 : (t176.toList != t177.toList) = true := bne_iff_ne.mpr c11
        obtain rfl := Option.some.inj H
        exact absurd HT_.out (by decide)
    · rw [if_neg c8] at H
      have c8b0 : (t174.toList == t175.toList) = false := beq_eq_false_iff_ne.mpr c8
      have c8b1 : (t174.toList != t175.toList) = true := bne_iff_ne.mpr c8
      obtain rfl := Option.some.inj H
      exact absurd HT_.out (by decide)
  · replace c5 := Bool.eq_false_iff.mpr c5
    subst c5
    have H1 : (some false) = some r := by rw [if_neg (show ¬ (false = true) by decide)] at H; exact H
    clear H
    have H := H1
    clear H1
    obtain rfl := Option.some.inj H
    exact absurd HT_.out (by decide)

end Go.Proofs.Ythdjodamdakjbaa.MK
