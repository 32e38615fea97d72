-- laid by wip/tools/mixprint.py over the kit's print (functions of function values by hand)
import Derived.Test.YthapknnppabdaaaHRow
import Derived.Test.YthapknnppabdaaaMRx0
import Derived.Test.YthapknnppabdaaaMRx1
import Derived.Test.YthapknnppabdaaaMRx14
import Derived.Test.YthapknnppabdaaaHClone
namespace Go.Proofs.Ythapknnppabdaaa.MR
open Go.RowKit Go.Proofs.YthapknnppabdaaaW.PrintWords Go.Proofs.YthapknnppabdaaaW.PrintLast Go.Proofs.YthapknnppabdaaaW.PrintMore
attribute [local go_sem] max2_int min2_int max_two min_two max_three min_three max_four min_four   -- for this text's walks alone
set_option linter.unusedVariables false
set_option linter.unusedSimpArgs false

/-! ### residue_Join: function 13 -/
def residue_Join.j0 : Nat → Int → Int → ByteArray → ByteArray → ByteArray → ByteArray → Int → ByteArray → ByteArray → ByteArray → ByteArray → Int → ByteArray → ByteArray → Int → ByteArray → List (S56) → ByteArray → ByteArray → List (S48) → List (S52) → ByteArray → ByteArray → ByteArray → List (S48) → List (S52) → Option (Int × Int × ByteArray × ByteArray × ByteArray × ByteArray × Int × ByteArray × ByteArray × ByteArray × ByteArray × Int × ByteArray × ByteArray × Int × ByteArray × (List (S56)) × ByteArray × ByteArray × (List (S48)) × (List (S52)))
  | 0, _, _, _, _, _, _, _, _, _, _, _, _, _, _, _, _, _, _, _, _, _, _, _, _, _, _ => none
  | k + 1, x168000, x168001, x168002, x168003, x168004, x168005, x168006, x168007, x168008, x168009, x168010, x168011, x168012, x168013, x168014, x168015, x168016, x168017, x168018, x168019, x168020, x169000, x169001, x169002, x169003, x169004 => (residue_part_other.f x169000 x169001 x169002 x169003 x169004).bind fun t204 => (if t204 > 0 then ((residue_elements.f k x169004).bind fun t205 => (some (x168000, x168001, x168002, x168003, x168004, x168005, x168006, x168007, x168008, x168009, x168010, x168011, x168012, x168013, x168014, x168015, x168016, x168017, x168018, x168019, t205))) else (some (x168000, x168001, x168002, x168003, x168004, x168005, x168006, x168007, x168008, x168009, x168010, x168011, x168012, x168013, x168014, x168015, x168016, x168017, x168018, x168019, x168020)))
def residue_Join.f (k : Nat) (a0_0 : Int) (a0_1 : Int) (a0_2 : ByteArray) (a0_3 : ByteArray) (a0_4 : ByteArray) (a0_5 : ByteArray) (a0_6 : Int) (a0_7 : ByteArray) (a0_8 : ByteArray) (a0_9 : ByteArray) (a0_10 : ByteArray) (a0_11 : Int) (a0_12 : ByteArray) (a0_13 : ByteArray) (a0_14 : Int) (a0_15 : ByteArray) (l0_16 : List (S56)) (a0_17 : ByteArray) (a0_18 : ByteArray) (l0_19 : List (S48)) (l0_20 : List (S52)) (a1_0 : ByteArray) (a1_1 : ByteArray) (a1_2 : ByteArray) (l1_3 : List (S48)) (l1_4 : List (S52)) : Option (Int × Int × ByteArray × ByteArray × ByteArray × ByteArray × Int × ByteArray × ByteArray × ByteArray × ByteArray × Int × ByteArray × ByteArray × Int × ByteArray × (List (S56)) × ByteArray × ByteArray × (List (S48)) × (List (S52))) := (residue_own.f k a0_0 a0_1 a0_2 a0_3 a0_4 a0_5 a0_6 a0_7 a0_8 a0_9 a0_10 a0_11 a0_12 a0_13 a0_14 a0_15 l0_16 a0_17 a0_18 l0_19 l0_20).bind fun bt170 => ((residue_or.f a1_0 bt170.2.2.2.2.2.2.2.2.2.2.2.2.2.2.2.2.2.2.1).bind fun t197 => ((residue_known.f bt170.2.2.2.2.2.2.2.2.1 a1_1).bind fun t198 => ((residue_known.f bt170.2.2.2.2.2.2.2.2.2.1 a1_2).bind fun t199 => ((residue_part_extra.f a1_0 a1_1 a1_2 l1_3 l1_4).bind fun t200 => (if t200 > 0 then ((api_Pair_30.f l1_3).bind fun t201 => (residue_Join.j0 k bt170.1 bt170.2.1 bt170.2.2.1 bt170.2.2.2.1 bt170.2.2.2.2.1 bt170.2.2.2.2.2.1 bt170.2.2.2.2.2.2.1 bt170.2.2.2.2.2.2.2.1 t198 t199 bt170.2.2.2.2.2.2.2.2.2.2.1 bt170.2.2.2.2.2.2.2.2.2.2.2.1 bt170.2.2.2.2.2.2.2.2.2.2.2.2.1 bt170.2.2.2.2.2.2.2.2.2.2.2.2.2.1 bt170.2.2.2.2.2.2.2.2.2.2.2.2.2.2.1 bt170.2.2.2.2.2.2.2.2.2.2.2.2.2.2.2.1 bt170.2.2.2.2.2.2.2.2.2.2.2.2.2.2.2.2.1 bt170.2.2.2.2.2.2.2.2.2.2.2.2.2.2.2.2.2.1 t197 t201 bt170.2.2.2.2.2.2.2.2.2.2.2.2.2.2.2.2.2.2.2.2 a1_0 a1_1 a1_2 l1_3 l1_4)) else (residue_Join.j0 k bt170.1 bt170.2.1 bt170.2.2.1 bt170.2.2.2.1 bt170.2.2.2.2.1 bt170.2.2.2.2.2.1 bt170.2.2.2.2.2.2.1 bt170.2.2.2.2.2.2.2.1 t198 t199 bt170.2.2.2.2.2.2.2.2.2.2.1 bt170.2.2.2.2.2.2.2.2.2.2.2.1 bt170.2.2.2.2.2.2.2.2.2.2.2.2.1 bt170.2.2.2.2.2.2.2.2.2.2.2.2.2.1 bt170.2.2.2.2.2.2.2.2.2.2.2.2.2.2.1 bt170.2.2.2.2.2.2.2.2.2.2.2.2.2.2.2.1 bt170.2.2.2.2.2.2.2.2.2.2.2.2.2.2.2.2.1 bt170.2.2.2.2.2.2.2.2.2.2.2.2.2.2.2.2.2.1 t197 bt170.2.2.2.2.2.2.2.2.2.2.2.2.2.2.2.2.2.2.2.1 bt170.2.2.2.2.2.2.2.2.2.2.2.2.2.2.2.2.2.2.2.2 a1_0 a1_1 a1_2 l1_3 l1_4))))))
theorem residue_Join.mono_l : ∀ k, (∀ y0 y1 y2 y3 y4 y5 y6 y7 y8 y9 y10 y11 y12 y13 y14 y15 y16 y17 y18 y19 y20 y21 y22 y23 y24 y25, LeO (residue_Join.j0 k y0 y1 y2 y3 y4 y5 y6 y7 y8 y9 y10 y11 y12 y13 y14 y15 y16 y17 y18 y19 y20 y21 y22 y23 y24 y25) (residue_Join.j0 (k + 1) y0 y1 y2 y3 y4 y5 y6 y7 y8 y9 y10 y11 y12 y13 y14 y15 y16 y17 y18 y19 y20 y21 y22 y23 y24 y25))
  | 0 => fun _ _ _ _ _ _ _ _ _ _ _ _ _ _ _ _ _ _ _ _ _ _ _ _ _ _ r h => by simp [residue_Join.j0] at h
  | k + 1 => by
    have ih0 := residue_Join.mono_l k
    · intro y0 y1 y2 y3 y4 y5 y6 y7 y8 y9 y10 y11 y12 y13 y14 y15 y16 y17 y18 y19 y20 y21 y22 y23 y24 y25
      unfold residue_Join.j0
      repeat' first
      | (with_reducible exact ih0 _ _ _ _ _ _ _ _ _ _ _ _ _ _ _ _ _ _ _ _ _ _ _ _ _ _)
      | (with_reducible exact residue_elements.mono _ _)
      | (with_reducible exact residue_own.mono _ _ _ _ _ _ _ _ _ _ _ _ _ _ _ _ _ _ _ _ _ _)
      | (with_reducible exact LeO.refl _)
      | (with_reducible exact LeO.none _)
      | (with_reducible refine LeO.ite ?_ ?_)
      | (with_reducible refine LeO.bind ?_ (fun _ => ?_))
      | exact ih0 _ _ _ _ _ _ _ _ _ _ _ _ _ _ _ _ _ _ _ _ _ _ _ _ _ _
      | exact residue_elements.mono _ _
      | exact residue_own.mono _ _ _ _ _ _ _ _ _ _ _ _ _ _ _ _ _ _ _ _ _ _
      | exact LeO.none _
      | refine LeO.ite ?_ ?_
      | refine LeO.bind ?_ (fun _ => ?_)
theorem residue_Join.mono : ∀ a0 a1 a2 a3 a4 a5 a6 a7 a8 a9 a10 a11 a12 a13 a14 a15 a16 a17 a18 a19 a20 a21 a22 a23 a24 a25 k, LeO (residue_Join.f k a0 a1 a2 a3 a4 a5 a6 a7 a8 a9 a10 a11 a12 a13 a14 a15 a16 a17 a18 a19 a20 a21 a22 a23 a24 a25) (residue_Join.f (k + 1) a0 a1 a2 a3 a4 a5 a6 a7 a8 a9 a10 a11 a12 a13 a14 a15 a16 a17 a18 a19 a20 a21 a22 a23 a24 a25) := by
  intro a0 a1 a2 a3 a4 a5 a6 a7 a8 a9 a10 a11 a12 a13 a14 a15 a16 a17 a18 a19 a20 a21 a22 a23 a24 a25 k
  have ih0 := residue_Join.mono_l k
  unfold residue_Join.f
  repeat' first
      | (with_reducible exact ih0 _ _ _ _ _ _ _ _ _ _ _ _ _ _ _ _ _ _ _ _ _ _ _ _ _ _)
      | (with_reducible exact residue_elements.mono _ _)
      | (with_reducible exact residue_own.mono _ _ _ _ _ _ _ _ _ _ _ _ _ _ _ _ _ _ _ _ _ _)
      | (with_reducible exact LeO.refl _)
      | (with_reducible exact LeO.none _)
      | (with_reducible refine LeO.ite ?_ ?_)
      | (with_reducible refine LeO.bind ?_ (fun _ => ?_))
      | exact ih0 _ _ _ _ _ _ _ _ _ _ _ _ _ _ _ _ _ _ _ _ _ _ _ _ _ _
      | exact residue_elements.mono _ _
      | exact residue_own.mono _ _ _ _ _ _ _ _ _ _ _ _ _ _ _ _ _ _ _ _ _ _
      | exact LeO.none _
      | refine LeO.ite ?_ ?_
      | refine LeO.bind ?_ (fun _ => ?_)
def residue_Join.T2 : Bool × List (List Nat × List Nat) := (true, [([], []), ([0], [0]), ([], []), ([2], [2]), ([1, 3], [1, 3]), ([], []), ([5], [5]), ([], []), ([7], [7]), ([6, 8, 4], [6, 8]), ([], []), ([10], [10]), ([], []), ([12], [12]), ([11, 13, 9], [11, 13]), ([0, 1, 2, 3, 4, 5, 6, 10, 11], []), ([15, 4, 14, 0, 1, 2, 3, 4, 5, 6, 10, 11], [4, 15]), ([0, 1, 2, 3, 4, 5, 6, 7, 8, 9, 10, 11, 15, 16], []), ([17, 9, 16, 0, 1, 2, 3, 4, 5, 6, 7, 8, 9, 10, 11, 15, 16], [9, 17]), ([0, 1, 2, 3, 4, 5, 6, 7, 8, 9, 10, 11, 12, 13, 14, 15, 16, 17, 18], []), ([19, 14, 18, 0, 1, 2, 3, 4, 5, 6, 7, 8, 9, 10, 11, 12, 13, 14, 15, 16, 17, 18], [14, 19])])
def residue_Join.B2 : List Nat := [0, 1, 0, 4, 15, 0, 32, 0, 128, 511, 0, 1024, 0, 4096, 16383, 3199, 65535, 131071, 262143, 524287, 1048575]
theorem residue_Join.tab2 : rtab .any (opsOf Try.f13 2) = residue_Join.T2 := by kernel_rfl
theorem residue_Join.bits2 : waitsOk residue_Join.T2.2 residue_Join.B2 = true := by kernel_rfl
set_option maxHeartbeats 8000000 in
set_option maxRecDepth 100000 in
theorem residue_Join.calls (k : Nat) (a0_0 : Int) (a0_1 : Int) (a0_2 : ByteArray) (a0_3 : ByteArray) (a0_4 : ByteArray) (a0_5 : ByteArray) (a0_6 : Int) (a0_7 : ByteArray) (a0_8 : ByteArray) (a0_9 : ByteArray) (a0_10 : ByteArray) (a0_11 : Int) (a0_12 : ByteArray) (a0_13 : ByteArray) (a0_14 : Int) (a0_15 : ByteArray) (A0_16 : Option Addr) (c0_16 : Nat) (l0_16 : List (S56)) (a0_17 : ByteArray) (a0_18 : ByteArray) (A0_19 : Option Addr) (c0_19 : Nat) (l0_19 : List (S48)) (A0_20 : Option Addr) (c0_20 : Nat) (l0_20 : List (S52)) (a1_0 : ByteArray) (a1_1 : ByteArray) (a1_2 : ByteArray) (A1_3 : Option Addr) (c1_3 : Nat) (l1_3 : List (S48)) (A1_4 : Option Addr) (c1_4 : Nat) (l1_4 : List (S52)) (r1 : Int) (r2 : Int) (r3 : ByteArray) (r4 : ByteArray) (r5 : ByteArray) (r6 : ByteArray) (r7 : Int) (r8 : ByteArray) (r9 : ByteArray) (r10 : ByteArray) (r11 : ByteArray) (r12 : Int) (r13 : ByteArray) (r14 : ByteArray) (r15 : Int) (r16 : ByteArray) (r17 : List (S56)) (r18 : ByteArray) (r19 : ByteArray) (r20 : List (S48)) (r21 : List (S52)) (w : World) (hr0_16 : Kd.C k56 w A0_16 l0_16.length l0_16) (hc0_16 : l0_16.length ≤ c0_16) (hr0_19 : Kd.C k48 w A0_19 l0_19.length l0_19) (hc0_19 : l0_19.length ≤ c0_19) (hr0_20 : Kd.C k52 w A0_20 l0_20.length l0_20) (hc0_20 : l0_20.length ≤ c0_20) (hr1_3 : Kd.C k48 w A1_3 l1_3.length l1_3) (hc1_3 : l1_3.length ≤ c1_3) (hr1_4 : Kd.C k52 w A1_4 l1_4.length l1_4) (hc1_4 : l1_4.length ≤ c1_4) (h : residue_Join.f k a0_0 a0_1 a0_2 a0_3 a0_4 a0_5 a0_6 a0_7 a0_8 a0_9 a0_10 a0_11 a0_12 a0_13 a0_14 a0_15 l0_16 a0_17 a0_18 l0_19 l0_20 a1_0 a1_1 a1_2 l1_3 l1_4 = some (r1, r2, r3, r4, r5, r6, r7, r8, r9, r10, r11, r12, r13, r14, r15, r16, r17, r18, r19, r20, r21)) :
    Calls Try.prog 13 #[.agg #[.int .i64 a0_0, .int .i64 a0_1, .string a0_2, .string a0_3, .string a0_4, .string a0_5, .int .u64 a0_6, .string a0_7, .string a0_8, .string a0_9, .string a0_10, .int .i64 a0_11, .string a0_12, .string a0_13, .int .i64 a0_14, .string a0_15, .slice A0_16 l0_16.length c0_16, .string a0_17, .string a0_18, .slice A0_19 l0_19.length c0_19, .slice A0_20 l0_20.length c0_20], .agg #[.string a1_0, .string a1_1, .string a1_2, .slice A1_3 l1_3.length c1_3, .slice A1_4 l1_4.length c1_4]] w fun e w' => ∃ v16_ v19_ v20_ : Value, e = .returned (.agg #[.int .i64 r1, .int .i64 r2, .string r3, .string r4, .string r5, .string r6, .int .u64 r7, .string r8, .string r9, .string r10, .string r11, .int .i64 r12, .string r13, .string r14, .int .i64 r15, .string r16, v16_, .string r18, .string r19, v19_, v20_]) ∧ Kd.S k56 56 w' w.heap.size (fun _ => True) v16_ r17 ∧ Kd.R k48 48 w' w.heap.size (fun _ => True) v19_ r20 ∧ Kd.S k52 52 w' w.heap.size (fun _ => True) v20_ r21 ∧ Below w.heap.size w w' := by
  have hu29 := Try.underlying29
  have hu31 := Try.underlying31
  have HR0_16 := Aside0.mk hr0_16
  have HC0_16 := Aside0.mk hc0_16
  clear hr0_16 hc0_16
  have HR0_19 := Aside0.mk hr0_19
  have HC0_19 := Aside0.mk hc0_19
  clear hr0_19 hc0_19
  have HR0_20 := Aside0.mk hr0_20
  have HC0_20 := Aside0.mk hc0_20
  clear hr0_20 hc0_20
  have HR1_3 := Aside0.mk hr1_3
  have HC1_3 := Aside0.mk hc1_3
  clear hr1_3 hc1_3
  have HR1_4 := Aside0.mk hr1_4
  have HC1_4 := Aside0.mk hc1_4
  clear hr1_4 hc1_4
  have HB := Aside0.mk (Below.refl w.heap.size w)
  have H : ((residue_own.f k a0_0 a0_1 a0_2 a0_3 a0_4 a0_5 a0_6 a0_7 a0_8 a0_9 a0_10 a0_11 a0_12 a0_13 a0_14 a0_15 l0_16 a0_17 a0_18 l0_19 l0_20).bind fun bt170 => ((residue_or.f a1_0 bt170.2.2.2.2.2.2.2.2.2.2.2.2.2.2.2.2.2.2.1).bind fun t197 => ((residue_known.f bt170.2.2.2.2.2.2.2.2.1 a1_1).bind fun t198 => ((residue_known.f bt170.2.2.2.2.2.2.2.2.2.1 a1_2).bind fun t199 => ((residue_part_extra.f a1_0 a1_1 a1_2 l1_3 l1_4).bind fun t200 => (if t200 > 0 then ((api_Pair_30.f l1_3).bind fun t201 => (residue_Join.j0 k bt170.1 bt170.2.1 bt170.2.2.1 bt170.2.2.2.1 bt170.2.2.2.2.1 bt170.2.2.2.2.2.1 bt170.2.2.2.2.2.2.1 bt170.2.2.2.2.2.2.2.1 t198 t199 bt170.2.2.2.2.2.2.2.2.2.2.1 bt170.2.2.2.2.2.2.2.2.2.2.2.1 bt170.2.2.2.2.2.2.2.2.2.2.2.2.1 bt170.2.2.2.2.2.2.2.2.2.2.2.2.2.1 bt170.2.2.2.2.2.2.2.2.2.2.2.2.2.2.1 bt170.2.2.2.2.2.2.2.2.2.2.2.2.2.2.2.1 bt170.2.2.2.2.2.2.2.2.2.2.2.2.2.2.2.2.1 bt170.2.2.2.2.2.2.2.2.2.2.2.2.2.2.2.2.2.1 t197 t201 bt170.2.2.2.2.2.2.2.2.2.2.2.2.2.2.2.2.2.2.2.2 a1_0 a1_1 a1_2 l1_3 l1_4)) else (residue_Join.j0 k bt170.1 bt170.2.1 bt170.2.2.1 bt170.2.2.2.1 bt170.2.2.2.2.1 bt170.2.2.2.2.2.1 bt170.2.2.2.2.2.2.1 bt170.2.2.2.2.2.2.2.1 t198 t199 bt170.2.2.2.2.2.2.2.2.2.2.1 bt170.2.2.2.2.2.2.2.2.2.2.2.1 bt170.2.2.2.2.2.2.2.2.2.2.2.2.1 bt170.2.2.2.2.2.2.2.2.2.2.2.2.2.1 bt170.2.2.2.2.2.2.2.2.2.2.2.2.2.2.1 bt170.2.2.2.2.2.2.2.2.2.2.2.2.2.2.2.1 bt170.2.2.2.2.2.2.2.2.2.2.2.2.2.2.2.2.1 bt170.2.2.2.2.2.2.2.2.2.2.2.2.2.2.2.2.2.1 t197 bt170.2.2.2.2.2.2.2.2.2.2.2.2.2.2.2.2.2.2.2.1 bt170.2.2.2.2.2.2.2.2.2.2.2.2.2.2.2.2.2.2.2.2 a1_0 a1_1 a1_2 l1_3 l1_4))))))) = some (r1, r2, r3, r4, r5, r6, r7, r8, r9, r10, r11, r12, r13, r14, r15, r16, r17, r18, r19, r20, r21) := h
  clear h
  replace H := Option.bind_eq_some_iff.mp H
  obtain ⟨⟨t170, t171, t172, t173, t174, t175, t176, t177, t178, t179, t180, t181, t182, t183, t184, t185, t186, t189, t190, t191, t194⟩, A30, H⟩ := H
  replace H : ((residue_or.f a1_0 t190).bind fun t197 => ((residue_known.f t178 a1_1).bind fun t198 => ((residue_known.f t179 a1_2).bind fun t199 => ((residue_part_extra.f a1_0 a1_1 a1_2 l1_3 l1_4).bind fun t200 => (if t200 > 0 then ((api_Pair_30.f l1_3).bind fun t201 => (residue_Join.j0 k t170 t171 t172 t173 t174 t175 t176 t177 t198 t199 t180 t181 t182 t183 t184 t185 t186 t189 t197 t201 t194 a1_0 a1_1 a1_2 l1_3 l1_4)) else (residue_Join.j0 k t170 t171 t172 t173 t174 t175 t176 t177 t198 t199 t180 t181 t182 t183 t184 t185 t186 t189 t197 t191 t194 a1_0 a1_1 a1_2 l1_3 l1_4)))))) = some (r1, r2, r3, r4, r5, r6, r7, r8, r9, r10, r11, r12, r13, r14, r15, r16, r17, r18, r19, r20, r21) := H
  have A3 := Aside0.mk A30
  clear A30
  replace H := Option.bind_eq_some_iff.mp H
  obtain ⟨t197, A40, H⟩ := H
  replace H : ((residue_known.f t178 a1_1).bind fun t198 => ((residue_known.f t179 a1_2).bind fun t199 => ((residue_part_extra.f a1_0 a1_1 a1_2 l1_3 l1_4).bind fun t200 => (if t200 > 0 then ((api_Pair_30.f l1_3).bind fun t201 => (residue_Join.j0 k t170 t171 t172 t173 t174 t175 t176 t177 t198 t199 t180 t181 t182 t183 t184 t185 t186 t189 t197 t201 t194 a1_0 a1_1 a1_2 l1_3 l1_4)) else (residue_Join.j0 k t170 t171 t172 t173 t174 t175 t176 t177 t198 t199 t180 t181 t182 t183 t184 t185 t186 t189 t197 t191 t194 a1_0 a1_1 a1_2 l1_3 l1_4))))) = some (r1, r2, r3, r4, r5, r6, r7, r8, r9, r10, r11, r12, r13, r14, r15, r16, r17, r18, r19, r20, r21) := H
  have A4 := Aside0.mk A40
  clear A40
  replace H := Option.bind_eq_some_iff.mp H
  obtain ⟨t198, A50, H⟩ := H
  replace H : ((residue_known.f t179 a1_2).bind fun t199 => ((residue_part_extra.f a1_0 a1_1 a1_2 l1_3 l1_4).bind fun t200 => (if t200 > 0 then ((api_Pair_30.f l1_3).bind fun t201 => (residue_Join.j0 k t170 t171 t172 t173 t174 t175 t176 t177 t198 t199 t180 t181 t182 t183 t184 t185 t186 t189 t197 t201 t194 a1_0 a1_1 a1_2 l1_3 l1_4)) else (residue_Join.j0 k t170 t171 t172 t173 t174 t175 t176 t177 t198 t199 t180 t181 t182 t183 t184 t185 t186 t189 t197 t191 t194 a1_0 a1_1 a1_2 l1_3 l1_4)))) = some (r1, r2, r3, r4, r5, r6, r7, r8, r9, r10, r11, r12, r13, r14, r15, r16, r17, r18, r19, r20, r21) := H
  have A5 := Aside0.mk A50
  clear A50
  replace H := Option.bind_eq_some_iff.mp H
  obtain ⟨t199, A60, H⟩ := H
  replace H : ((residue_part_extra.f a1_0 a1_1 a1_2 l1_3 l1_4).bind fun t200 => (if t200 > 0 then ((api_Pair_30.f l1_3).bind fun t201 => (residue_Join.j0 k t170 t171 t172 t173 t174 t175 t176 t177 t198 t199 t180 t181 t182 t183 t184 t185 t186 t189 t197 t201 t194 a1_0 a1_1 a1_2 l1_3 l1_4)) else (residue_Join.j0 k t170 t171 t172 t173 t174 t175 t176 t177 t198 t199 t180 t181 t182 t183 t184 t185 t186 t189 t197 t191 t194 a1_0 a1_1 a1_2 l1_3 l1_4))) = some (r1, r2, r3, r4, r5, r6, r7, r8, r9, r10, r11, r12, r13, r14, r15, r16, r17, r18, r19, r20, r21) := H
  have A6 := Aside0.mk A60
  clear A60
  replace H := Option.bind_eq_some_iff.mp H
  obtain ⟨t200, A70, H⟩ := H
  replace H : (if t200 > 0 then ((api_Pair_30.f l1_3).bind fun t201 => (residue_Join.j0 k t170 t171 t172 t173 t174 t175 t176 t177 t198 t199 t180 t181 t182 t183 t184 t185 t186 t189 t197 t201 t194 a1_0 a1_1 a1_2 l1_3 l1_4)) else (residue_Join.j0 k t170 t171 t172 t173 t174 t175 t176 t177 t198 t199 t180 t181 t182 t183 t184 t185 t186 t189 t197 t191 t194 a1_0 a1_1 a1_2 l1_3 l1_4)) = some (r1, r2, r3, r4, r5, r6, r7, r8, r9, r10, r11, r12, r13, r14, r15, r16, r17, r18, r19, r20, r21) := H
  have A7 := Aside0.mk A70
  clear A70
  have HC8 := Aside0.mk H
  clear H
  go_enter Try.func13, Try.ntmps13
  try go_wp2_with (first | ((with_reducible refine gate_dst (N := 2) rfl ?_); refine box_event ?hg (N := 2) ?hd (cs := #[.int .i64 a0_0, .int .i64 a0_1, .string a0_2, .string a0_3, .string a0_4, .string a0_5, .int .u64 a0_6, .string a0_7, .string a0_8, .string a0_9, .string a0_10, .int .i64 a0_11, .string a0_12, .string a0_13, .int .i64 a0_14, .string a0_15, .slice A0_16 l0_16.length c0_16, .string a0_17, .string a0_18, .slice A0_19 l0_19.length c0_19, .slice A0_20 l0_20.length c0_20]) (t := 29) ?hr ?_; (case hd => rfl); (case hg => rfl); (case hr => first | (go_simp; done) | (go_simp; rfl) | (go_simp; simp only [show ∀ l_ : List UInt8, (l_ != []) = !l_.isEmpty from fun l_ => by cases l_ <;> rfl]; done)); intro gb167 hg w9 hbox hb; have n0_ := Aside0.mk (below_step (by repeat (first | (with_reducible first | exact HB.out | apply below_alloc | apply pw_below_drewN | apply below_drew1) | exact HB.out)) hb); have n1_ := Aside0.mk (hbox); have n2_ := Aside0.mk ((by rw [hg]; exact (below_size (by repeat (first | (with_reducible first | exact HB.out | apply below_alloc | apply pw_below_drewN | apply below_drew1) | exact HB.out))) : w.heap.size ≤ gb167)); have n3_ := Aside0.mk ((by rw [hg]; exact (below_size (by repeat (first | (with_reducible first | exact HB.out | apply below_alloc | apply pw_below_drewN | apply below_drew1) | exact HB.out))) : w.heap.size ≤ gb167)); clear HB; have HB := n0_; have BK167 := n1_; have GW167 := n2_; have GE167 := n3_; clear n0_ n1_ n2_ n3_; clear hb hbox hg) | ((with_reducible refine gate_dst (N := 3) rfl ?_); refine box_event ?hg (N := 3) ?hd (cs := #[.string a1_0, .string a1_1, .string a1_2, .slice A1_3 l1_3.length c1_3, .slice A1_4 l1_4.length c1_4]) (t := 31) ?hr ?_; (case hd => rfl); (case hg => rfl); (case hr => first | (go_simp; done) | (go_simp; rfl) | (go_simp; simp only [show ∀ l_ : List UInt8, (l_ != []) = !l_.isEmpty from fun l_ => by cases l_ <;> rfl]; done)); intro gb168 hg w10 hbox hb; have n0_ := Aside0.mk (blk_below (g := gb167) (o := .cells #[.int .i64 a0_0, .int .i64 a0_1, .string a0_2, .string a0_3, .string a0_4, .string a0_5, .int .u64 a0_6, .string a0_7, .string a0_8, .string a0_9, .string a0_10, .int .i64 a0_11, .string a0_12, .string a0_13, .int .i64 a0_14, .string a0_15, .slice A0_16 l0_16.length c0_16, .string a0_17, .string a0_18, .slice A0_19 l0_19.length c0_19, .slice A0_20 l0_20.length c0_20] 29 (0, 0)) (by (with_reducible repeat (first | refine blk_drewN ?_ _ | refine blk_drew ?_ | refine blk_alloc ?_ _)); exact BK167.out) hb); have n1_ := Aside0.mk (below_step (by repeat (first | (with_reducible first | exact HB.out | apply below_alloc | apply pw_below_drewN | apply below_drew1 | refine below_set ?_ GE167.out) | exact HB.out)) hb); have n2_ := Aside0.mk (hbox); have n3_ := Aside0.mk ((by rw [hg]; exact (below_size (by repeat (first | (with_reducible first | exact HB.out | apply below_alloc | apply pw_below_drewN | apply below_drew1 | refine below_set ?_ GE167.out) | exact HB.out))) : w.heap.size ≤ gb168)); have n4_ := Aside0.mk ((by rw [hg]; exact (below_size (by repeat (first | (with_reducible first | exact HB.out | apply below_alloc | apply pw_below_drewN | apply below_drew1 | refine below_set ?_ GE167.out) | exact HB.out))) : w.heap.size ≤ gb168)); have n5_ := Aside0.mk ((by rw [hg]; exact Nat.ne_of_lt (blk_lt (g := gb167) (o := .cells #[.int .i64 a0_0, .int .i64 a0_1, .string a0_2, .string a0_3, .string a0_4, .string a0_5, .int .u64 a0_6, .string a0_7, .string a0_8, .string a0_9, .string a0_10, .int .i64 a0_11, .string a0_12, .string a0_13, .int .i64 a0_14, .string a0_15, .slice A0_16 l0_16.length c0_16, .string a0_17, .string a0_18, .slice A0_19 l0_19.length c0_19, .slice A0_20 l0_20.length c0_20] 29 (0, 0)) (by (with_reducible repeat (first | refine blk_drewN ?_ _ | refine blk_drew ?_ | refine blk_alloc ?_ _)); exact BK167.out)) : gb167 ≠ gb168)); have n6_ := Aside0.mk ((by rw [hg]; exact Nat.ne_of_gt (blk_lt (g := gb167) (o := .cells #[.int .i64 a0_0, .int .i64 a0_1, .string a0_2, .string a0_3, .string a0_4, .string a0_5, .int .u64 a0_6, .string a0_7, .string a0_8, .string a0_9, .string a0_10, .int .i64 a0_11, .string a0_12, .string a0_13, .int .i64 a0_14, .string a0_15, .slice A0_16 l0_16.length c0_16, .string a0_17, .string a0_18, .slice A0_19 l0_19.length c0_19, .slice A0_20 l0_20.length c0_20] 29 (0, 0)) (by (with_reducible repeat (first | refine blk_drewN ?_ _ | refine blk_drew ?_ | refine blk_alloc ?_ _)); exact BK167.out)) : gb168 ≠ gb167)); clear BK167; clear HB; have BK167 := n0_; have HB := n1_; have BK168 := n2_; have GW168 := n3_; have GE168 := n4_; have NB167_168 := n5_; have NB168_167 := n6_; clear n0_ n1_ n2_ n3_ n4_ n5_ n6_; clear hb hbox hg) | ((with_reducible refine gate_dst (N := 4) rfl ?_); refine box_event ?hg (N := 4) ?hd (cs := #[.int .i64 0, .int .i64 0, .string (⟨#[]⟩ : ByteArray), .string (⟨#[]⟩ : ByteArray), .string (⟨#[]⟩ : ByteArray), .string (⟨#[]⟩ : ByteArray), .int .u64 0, .string (⟨#[]⟩ : ByteArray), .string (⟨#[]⟩ : ByteArray), .string (⟨#[]⟩ : ByteArray), .string (⟨#[]⟩ : ByteArray), .int .i64 0, .string (⟨#[]⟩ : ByteArray), .string (⟨#[]⟩ : ByteArray), .int .i64 0, .string (⟨#[]⟩ : ByteArray), .slice none 0 0, .string (⟨#[]⟩ : ByteArray), .string (⟨#[]⟩ : ByteArray), .slice none 0 0, .slice none 0 0]) (t := 29) ?hr ?_; (case hd => rfl); (case hg => rfl); (case hr => first | (go_simp; done) | (go_simp; rfl) | (go_simp; simp only [show ∀ l_ : List UInt8, (l_ != []) = !l_.isEmpty from fun l_ => by cases l_ <;> rfl]; done)); intro gb169 hg w11 hbox hb; have n0_ := Aside0.mk (blk_below (g := gb167) (o := .cells #[.int .i64 a0_0, .int .i64 a0_1, .string a0_2, .string a0_3, .string a0_4, .string a0_5, .int .u64 a0_6, .string a0_7, .string a0_8, .string a0_9, .string a0_10, .int .i64 a0_11, .string a0_12, .string a0_13, .int .i64 a0_14, .string a0_15, .slice A0_16 l0_16.length c0_16, .string a0_17, .string a0_18, .slice A0_19 l0_19.length c0_19, .slice A0_20 l0_20.length c0_20] 29 (0, 0)) (by (with_reducible repeat (first | refine blk_drewN ?_ _ | refine blk_drew ?_ | refine blk_alloc ?_ _)); exact BK167.out) hb); have n1_ := Aside0.mk (blk_below (g := gb168) (o := .cells #[.string a1_0, .string a1_1, .string a1_2, .slice A1_3 l1_3.length c1_3, .slice A1_4 l1_4.length c1_4] 31 (0, 0)) (by (with_reducible repeat (first | refine blk_drewN ?_ _ | refine blk_drew ?_ | refine blk_alloc ?_ _)); exact BK168.out) hb); have n2_ := Aside0.mk (below_step (by repeat (first | (with_reducible first | exact HB.out | apply below_alloc | apply pw_below_drewN | apply below_drew1 | refine below_set ?_ GE167.out | refine below_set ?_ GE168.out) | exact HB.out)) hb); have n3_ := Aside0.mk (hbox); have n4_ := Aside0.mk ((by rw [hg]; exact (below_size (by repeat (first | (with_reducible first | exact HB.out | apply below_alloc | apply pw_below_drewN | apply below_drew1 | refine below_set ?_ GE167.out | refine below_set ?_ GE168.out) | exact HB.out))) : w.heap.size ≤ gb169)); have n5_ := Aside0.mk ((by rw [hg]; exact (below_size (by repeat (first | (with_reducible first | exact HB.out | apply below_alloc | apply pw_below_drewN | apply below_drew1 | refine below_set ?_ GE167.out | refine below_set ?_ GE168.out) | exact HB.out))) : w.heap.size ≤ gb169)); have n6_ := Aside0.mk ((by rw [hg]; exact Nat.ne_of_lt (blk_lt (g := gb167) (o := .cells #[.int .i64 a0_0, .int .i64 a0_1, .string a0_2, .string a0_3, .string a0_4, .string a0_5, .int .u64 a0_6, .string a0_7, .string a0_8, .string a0_9, .string a0_10, .int .i64 a0_11, .string a0_12, .string a0_13, .int .i64 a0_14, .string a0_15, .slice A0_16 l0_16.length c0_16, .string a0_17, .string a0_18, .slice A0_19 l0_19.length c0_19, .slice A0_20 l0_20.length c0_20] 29 (0, 0)) (by (with_reducible repeat (first | refine blk_drewN ?_ _ | refine blk_drew ?_ | refine blk_alloc ?_ _)); exact BK167.out)) : gb167 ≠ gb169)); have n7_ := Aside0.mk ((by rw [hg]; exact Nat.ne_of_gt (blk_lt (g := gb167) (o := .cells #[.int .i64 a0_0, .int .i64 a0_1, .string a0_2, .string a0_3, .string a0_4, .string a0_5, .int .u64 a0_6, .string a0_7, .string a0_8, .string a0_9, .string a0_10, .int .i64 a0_11, .string a0_12, .string a0_13, .int .i64 a0_14, .string a0_15, .slice A0_16 l0_16.length c0_16, .string a0_17, .string a0_18, .slice A0_19 l0_19.length c0_19, .slice A0_20 l0_20.length c0_20] 29 (0, 0)) (by (with_reducible repeat (first | refine blk_drewN ?_ _ | refine blk_drew ?_ | refine blk_alloc ?_ _)); exact BK167.out)) : gb169 ≠ gb167)); have n8_ := Aside0.mk ((by rw [hg]; exact Nat.ne_of_lt (blk_lt (g := gb168) (o := .cells #[.string a1_0, .string a1_1, .string a1_2, .slice A1_3 l1_3.length c1_3, .slice A1_4 l1_4.length c1_4] 31 (0, 0)) (by (with_reducible repeat (first | refine blk_drewN ?_ _ | refine blk_drew ?_ | refine blk_alloc ?_ _)); exact BK168.out)) : gb168 ≠ gb169)); have n9_ := Aside0.mk ((by rw [hg]; exact Nat.ne_of_gt (blk_lt (g := gb168) (o := .cells #[.string a1_0, .string a1_1, .string a1_2, .slice A1_3 l1_3.length c1_3, .slice A1_4 l1_4.length c1_4] 31 (0, 0)) (by (with_reducible repeat (first | refine blk_drewN ?_ _ | refine blk_drew ?_ | refine blk_alloc ?_ _)); exact BK168.out)) : gb169 ≠ gb168)); clear BK167; clear BK168; clear HB; have BK167 := n0_; have BK168 := n1_; have HB := n2_; have BK169 := n3_; have GW169 := n4_; have GE169 := n5_; have NB167_169 := n6_; have NB169_167 := n7_; have NB168_169 := n8_; have NB169_168 := n9_; clear n0_ n1_ n2_ n3_ n4_ n5_ n6_ n7_ n8_ n9_; clear hb hbox hg) | ((with_reducible refine gate_dst (N := 5) rfl ?_); refine wpList_load_row rfl 29 _ rfl gb167 rfl 29 #[.int .i64 a0_0, .int .i64 a0_1, .string a0_2, .string a0_3, .string a0_4, .string a0_5, .int .u64 a0_6, .string a0_7, .string a0_8, .string a0_9, .string a0_10, .int .i64 a0_11, .string a0_12, .string a0_13, .int .i64 a0_14, .string a0_15, .slice A0_16 l0_16.length c0_16, .string a0_17, .string a0_18, .slice A0_19 l0_19.length c0_19, .slice A0_20 l0_20.length c0_20] (0, 0) _ ?lb hu29 rfl (by kernel_rfl) ?_; (case lb => exact (by (with_reducible repeat (first | refine blk_drewN ?_ _ | refine blk_drew ?_ | refine blk_alloc ?_ _)); exact BK167.out))) | ((with_reducible refine gate_callee (f := 23) rfl ?_); refine goesL_ (some 6) rfl rfl Try.func23 (by kernel_rfl) rfl #[.agg #[.int .i64 a0_0, .int .i64 a0_1, .string a0_2, .string a0_3, .string a0_4, .string a0_5, .int .u64 a0_6, .string a0_7, .string a0_8, .string a0_9, .string a0_10, .int .i64 a0_11, .string a0_12, .string a0_13, .int .i64 a0_14, .string a0_15, .slice A0_16 l0_16.length c0_16, .string a0_17, .string a0_18, .slice A0_19 l0_19.length c0_19, .slice A0_20 l0_20.length c0_20]] rfl (by (try simp only [List.map_toArray, List.map_cons, List.map_nil]); first | done | rfl | (simp only [List.length_drop, List.length_take]; rfl)) ?_; (with_reducible refine (residue_own.calls k a0_0 a0_1 a0_2 a0_3 a0_4 a0_5 a0_6 a0_7 a0_8 a0_9 a0_10 a0_11 a0_12 a0_13 a0_14 a0_15 _ _ l0_16 a0_17 a0_18 _ _ l0_19 _ _ l0_20 t170 t171 t172 t173 t174 t175 t176 t177 t178 t179 t180 t181 t182 t183 t184 t185 t186 t189 t190 t191 t194 _ ?side1 ?side2 ?side3 ?side4 ?side5 ?side6 A3.out).mono ?_); (case side1 => repeat (first | exact (Kd.C_below HR0_16.out HB.out) | (with_reducible refine Kd.C_alloc ?_ _) | (with_reducible refine Kd.C_drewN ?_ _) | (with_reducible refine Kd.C_drew ?_))); (case side2 => exact HC0_16.out); (case side3 => repeat (first | exact (Kd.C_below HR0_19.out HB.out) | (with_reducible refine Kd.C_alloc ?_ _) | (with_reducible refine Kd.C_drewN ?_ _) | (with_reducible refine Kd.C_drew ?_))); (case side4 => exact HC0_19.out); (case side5 => repeat (first | exact (Kd.C_below HR0_20.out HB.out) | (with_reducible refine Kd.C_alloc ?_ _) | (with_reducible refine Kd.C_drewN ?_ _) | (with_reducible refine Kd.C_drew ?_))); (case side6 => exact HC0_20.out); rintro e w12 ⟨v187, v192, v195, rfl, ho0, ho1, ho2, hb⟩; refine ⟨_, rfl, ?_⟩; have n0_ := Aside0.mk (Kd.S_lower ho0 (below_size (by repeat (first | (with_reducible first | exact HB.out | apply below_alloc | apply pw_below_drewN | apply below_drew1 | refine below_set ?_ GE167.out | refine below_set ?_ GE168.out | refine below_set ?_ GE169.out) | exact HB.out)))); have n1_ := Aside0.mk (Kd.R_lower ho1 (below_size (by repeat (first | (with_reducible first | exact HB.out | apply below_alloc | apply pw_below_drewN | apply below_drew1 | refine below_set ?_ GE167.out | refine below_set ?_ GE168.out | refine below_set ?_ GE169.out) | exact HB.out)))); have n2_ := Aside0.mk (Kd.S_lower ho2 (below_size (by repeat (first | (with_reducible first | exact HB.out | apply below_alloc | apply pw_below_drewN | apply below_drew1 | refine below_set ?_ GE167.out | refine below_set ?_ GE168.out | refine below_set ?_ GE169.out) | exact HB.out)))); have n3_ := Aside0.mk (blk_below (g := gb167) (o := .cells #[.int .i64 a0_0, .int .i64 a0_1, .string a0_2, .string a0_3, .string a0_4, .string a0_5, .int .u64 a0_6, .string a0_7, .string a0_8, .string a0_9, .string a0_10, .int .i64 a0_11, .string a0_12, .string a0_13, .int .i64 a0_14, .string a0_15, .slice A0_16 l0_16.length c0_16, .string a0_17, .string a0_18, .slice A0_19 l0_19.length c0_19, .slice A0_20 l0_20.length c0_20] 29 (0, 0)) (by (with_reducible repeat (first | refine blk_drewN ?_ _ | refine blk_drew ?_ | refine blk_alloc ?_ _)); exact BK167.out) hb); have n4_ := Aside0.mk (blk_below (g := gb168) (o := .cells #[.string a1_0, .string a1_1, .string a1_2, .slice A1_3 l1_3.length c1_3, .slice A1_4 l1_4.length c1_4] 31 (0, 0)) (by (with_reducible repeat (first | refine blk_drewN ?_ _ | refine blk_drew ?_ | refine blk_alloc ?_ _)); exact BK168.out) hb); have n5_ := Aside0.mk (blk_below (g := gb169) (o := .cells #[.int .i64 0, .int .i64 0, .string (⟨#[]⟩ : ByteArray), .string (⟨#[]⟩ : ByteArray), .string (⟨#[]⟩ : ByteArray), .string (⟨#[]⟩ : ByteArray), .int .u64 0, .string (⟨#[]⟩ : ByteArray), .string (⟨#[]⟩ : ByteArray), .string (⟨#[]⟩ : ByteArray), .string (⟨#[]⟩ : ByteArray), .int .i64 0, .string (⟨#[]⟩ : ByteArray), .string (⟨#[]⟩ : ByteArray), .int .i64 0, .string (⟨#[]⟩ : ByteArray), .slice none 0 0, .string (⟨#[]⟩ : ByteArray), .string (⟨#[]⟩ : ByteArray), .slice none 0 0, .slice none 0 0] 29 (0, 0)) (by (with_reducible repeat (first | refine blk_drewN ?_ _ | refine blk_drew ?_ | refine blk_alloc ?_ _)); exact BK169.out) hb); have n6_ := Aside0.mk (below_step (by repeat (first | (with_reducible first | exact HB.out | apply below_alloc | apply pw_below_drewN | apply below_drew1 | refine below_set ?_ GE167.out | refine below_set ?_ GE168.out | refine below_set ?_ GE169.out) | exact HB.out)) hb); clear BK167; clear BK168; clear BK169; clear HB; have HO188 := n0_; have HO193 := n1_; have HO196 := n2_; have BK167 := n3_; have BK168 := n4_; have BK169 := n5_; have HB := n6_; clear n0_ n1_ n2_ n3_ n4_ n5_ n6_; (try clear hb); (try clear hb2); (try clear hk); (try clear hi); (try clear ho0); (try clear ho1); (try clear ho2); obtain ⟨Ao13, co13, eo13⟩ := Kd.S_slice HO188.out; subst eo13; obtain ⟨Ao14, co14, eo14⟩ := Kd.R_slice HO193.out; subst eo14; obtain ⟨Ao15, co15, eo15⟩ := Kd.S_slice HO196.out; subst eo15) | ((with_reducible refine gate_store (t := 29) (p := 2) rfl ?_); refine Go.Proofs.Ythapknnppabdaaa.Fill.store_event rfl 29 _ _ rfl gb167 #[.int .i64 t170, .int .i64 t171, .string t172, .string t173, .string t174, .string t175, .int .u64 t176, .string t177, .string t178, .string t179, .string t180, .int .i64 t181, .string t182, .string t183, .int .i64 t184, .string t185, .slice Ao13 t186.length co13, .string t189, .string t190, .slice Ao14 t191.length co14, .slice Ao15 t194.length co15] rfl rfl 29 #[.int .i64 a0_0, .int .i64 a0_1, .string a0_2, .string a0_3, .string a0_4, .string a0_5, .int .u64 a0_6, .string a0_7, .string a0_8, .string a0_9, .string a0_10, .int .i64 a0_11, .string a0_12, .string a0_13, .int .i64 a0_14, .string a0_15, .slice A0_16 l0_16.length c0_16, .string a0_17, .string a0_18, .slice A0_19 l0_19.length c0_19, .slice A0_20 l0_20.length c0_20] BK167.out (by kernel_rfl) rfl (by first | kernel_rfl | rfl | simp [Value.oneCell']) ?_; intro w16 hbk hkp hbl; have n0_ := Aside0.mk (Kd.S_mono (Kd.S_keep (Kd.S_types HO188.out BK167.out (by decide)) hkp (fun _ hk_ => hk_.2)) (fun _ hk_ => hk_.1)); have n1_ := Aside0.mk (Kd.R_mono (Kd.R_keep (Kd.R_types HO193.out BK167.out (by decide)) hkp (fun _ hk_ => hk_.2)) (fun _ hk_ => hk_.1)); have n2_ := Aside0.mk (Kd.S_mono (Kd.S_keep (Kd.S_types HO196.out BK167.out (by decide)) hkp (fun _ hk_ => hk_.2)) (fun _ hk_ => hk_.1)); have n3_ := Aside0.mk (hbk); have n4_ := Aside0.mk (KeepBut.blk hkp BK168.out NB168_167.out (by simp)); have n5_ := Aside0.mk (KeepBut.blk hkp BK169.out NB169_167.out (by simp)); have n6_ := Aside0.mk (hbl _ _ HB.out GE167.out); clear HO188; clear HO193; clear HO196; clear BK167; clear BK168; clear BK169; clear HB; have HO188 := n0_; have HO193 := n1_; have HO196 := n2_; have BK167 := n3_; have BK168 := n4_; have BK169 := n5_; have HB := n6_; clear n0_ n1_ n2_ n3_ n4_ n5_ n6_; clear hbk hkp hbl))
  have n0_ := Aside0.mk (Kd.S_drew HO188.out)
  have n1_ := Aside0.mk (Kd.R_drew HO193.out)
  have n2_ := Aside0.mk (Kd.S_drew HO196.out)
  have n3_ := Aside0.mk (blk_drew BK167.out)
  have n4_ := Aside0.mk (blk_drew BK168.out)
  have n5_ := Aside0.mk (blk_drew BK169.out)
  have n6_ := Aside0.mk (below_drew1 HB.out)
  clear HO188
  clear HO193
  clear HO196
  clear BK167
  clear BK168
  clear BK169
  clear HB
  have HO188 := n0_
  have HO193 := n1_
  have HO196 := n2_
  have BK167 := n3_
  have BK168 := n4_
  have BK169 := n5_
  have HB := n6_
  clear n0_ n1_ n2_ n3_ n4_ n5_ n6_
  refine start_ (n := 21) (S := fun w' => w'.cell? ⟨gb168, 0, none⟩ = some (.string a1_0) ∧ w'.cell? ⟨gb168, 1, none⟩ = some (.string a1_1) ∧ w'.cell? ⟨gb168, 2, none⟩ = some (.string a1_2) ∧ w'.cell? ⟨gb168, 3, none⟩ = some (.slice A1_3 l1_3.length c1_3) ∧ w'.cell? ⟨gb168, 4, none⟩ = some (.slice A1_4 l1_4.length c1_4) ∧ w'.cell? ⟨gb167, 0, none⟩ = some (.int .i64 t170) ∧ w'.cell? ⟨gb167, 1, none⟩ = some (.int .i64 t171) ∧ w'.cell? ⟨gb167, 2, none⟩ = some (.string t172) ∧ w'.cell? ⟨gb167, 3, none⟩ = some (.string t173) ∧ w'.cell? ⟨gb167, 4, none⟩ = some (.string t174) ∧ w'.cell? ⟨gb167, 5, none⟩ = some (.string t175) ∧ w'.cell? ⟨gb167, 6, none⟩ = some (.int .u64 t176) ∧ w'.cell? ⟨gb167, 7, none⟩ = some (.string t177) ∧ w'.cell? ⟨gb167, 8, none⟩ = some (.string t178) ∧ w'.cell? ⟨gb167, 9, none⟩ = some (.string t179) ∧ w'.cell? ⟨gb167, 10, none⟩ = some (.string t180) ∧ w'.cell? ⟨gb167, 11, none⟩ = some (.int .i64 t181) ∧ w'.cell? ⟨gb167, 12, none⟩ = some (.string t182) ∧ w'.cell? ⟨gb167, 13, none⟩ = some (.string t183) ∧ w'.cell? ⟨gb167, 14, none⟩ = some (.int .i64 t184) ∧ w'.cell? ⟨gb167, 15, none⟩ = some (.string t185) ∧ w'.cell? ⟨gb167, 16, none⟩ = some (.slice Ao13 t186.length co13) ∧ w'.cell? ⟨gb167, 17, none⟩ = some (.string t189) ∧ w'.cell? ⟨gb167, 18, none⟩ = some (.string t190) ∧ w'.cell? ⟨gb167, 19, none⟩ = some (.slice Ao14 t191.length co14) ∧ w'.cell? ⟨gb167, 20, none⟩ = some (.slice Ao15 t194.length co15)) (ds := [16, 18, 20]) #[false, false, false, false, false, false, false, false, false, false, false, false, false, false, false, false, false, false, false, false, false] (by kernel_rfl) rfl rfl ⟨(blk_cell BK168.out 0).trans rfl, (blk_cell BK168.out 1).trans rfl, (blk_cell BK168.out 2).trans rfl, (blk_cell BK168.out 3).trans rfl, (blk_cell BK168.out 4).trans rfl, (blk_cell BK167.out 0).trans rfl, (blk_cell BK167.out 1).trans rfl, (blk_cell BK167.out 2).trans rfl, (blk_cell BK167.out 3).trans rfl, (blk_cell BK167.out 4).trans rfl, (blk_cell BK167.out 5).trans rfl, (blk_cell BK167.out 6).trans rfl, (blk_cell BK167.out 7).trans rfl, (blk_cell BK167.out 8).trans rfl, (blk_cell BK167.out 9).trans rfl, (blk_cell BK167.out 10).trans rfl, (blk_cell BK167.out 11).trans rfl, (blk_cell BK167.out 12).trans rfl, (blk_cell BK167.out 13).trans rfl, (blk_cell BK167.out 14).trans rfl, (blk_cell BK167.out 15).trans rfl, (blk_cell BK167.out 16).trans rfl, (blk_cell BK167.out 17).trans rfl, (blk_cell BK167.out 18).trans rfl, (blk_cell BK167.out 19).trans rfl, (blk_cell BK167.out 20).trans rfl⟩ (fun hHeld => ?_); refine with_tabW residue_Join.tab2 residue_Join.bits2 (fun HT_ HW_ => ?_)
  generalize w16.drew = w17 at HO188 HO193 HO196 BK167 BK168 BK169 HB hHeld ⊢
  refine pure_ (i := 0) (N := some 7) (v := ?_) (a' := ?_) #[true, false, false, false, false, false, false, false, false, false, false, false, false, false, false, false, false, false, false, false, false] rfl rfl (any_of HT_.out (by kernel_rfl)) (fun _ _ _ h => h) (Or.inl ⟨by rfl, ?_⟩) ?_ ?_
  rotate_left
  · intro w'
    go_simp
    with_reducible rfl
  rotate_left
  · simp only [Act.put, List.setIfInBounds_toArray, List.set_cons_zero, List.set_cons_succ, i64_w, i32_w]
    rfl
  refine pure_ (i := 2) (N := some 9) (v := ?_) (a' := ?_) #[true, false, true, false, false, false, false, false, false, false, false, false, false, false, false, false, false, false, false, false, false] rfl rfl (any_of HT_.out (by kernel_rfl)) (fun _ _ _ h => h) (Or.inl ⟨by rfl, ?_⟩) ?_ ?_
  rotate_left
  · intro w'
    go_simp
    with_reducible rfl
  rotate_left
  · simp only [Act.put, List.setIfInBounds_toArray, List.set_cons_zero, List.set_cons_succ, i64_w, i32_w]
    rfl
  refine pure_ (i := 5) (N := some 12) (v := ?_) (a' := ?_) #[true, false, true, false, false, true, false, false, false, false, false, false, false, false, false, false, false, false, false, false, false] rfl rfl (any_of HT_.out (by kernel_rfl)) (fun _ _ _ h => h) (Or.inl ⟨by rfl, ?_⟩) ?_ ?_
  rotate_left
  · intro w'
    go_simp
    with_reducible rfl
  rotate_left
  · simp only [Act.put, List.setIfInBounds_toArray, List.set_cons_zero, List.set_cons_succ, i64_w, i32_w]
    rfl
  refine pure_ (i := 7) (N := some 14) (v := ?_) (a' := ?_) #[true, false, true, false, false, true, false, true, false, false, false, false, false, false, false, false, false, false, false, false, false] rfl rfl (any_of HT_.out (by kernel_rfl)) (fun _ _ _ h => h) (Or.inl ⟨by rfl, ?_⟩) ?_ ?_
  rotate_left
  · intro w'
    go_simp
    with_reducible rfl
  rotate_left
  · simp only [Act.put, List.setIfInBounds_toArray, List.set_cons_zero, List.set_cons_succ, i64_w, i32_w]
    rfl
  refine pure_ (i := 10) (N := some 17) (v := ?_) (a' := ?_) #[true, false, true, false, false, true, false, true, false, false, true, false, false, false, false, false, false, false, false, false, false] rfl rfl (any_of HT_.out (by kernel_rfl)) (fun _ _ _ h => h) (Or.inl ⟨by rfl, ?_⟩) ?_ ?_
  rotate_left
  · intro w'
    go_simp
    with_reducible rfl
  rotate_left
  · simp only [Act.put, List.setIfInBounds_toArray, List.set_cons_zero, List.set_cons_succ, i64_w, i32_w]
    rfl
  refine pure_ (i := 12) (N := some 19) (v := ?_) (a' := ?_) #[true, false, true, false, false, true, false, true, false, false, true, false, true, false, false, false, false, false, false, false, false] rfl rfl (any_of HT_.out (by kernel_rfl)) (fun _ _ _ h => h) (Or.inl ⟨by rfl, ?_⟩) ?_ ?_
  rotate_left
  · intro w'
    go_simp
    with_reducible rfl
  rotate_left
  · simp only [Act.put, List.setIfInBounds_toArray, List.set_cons_zero, List.set_cons_succ, i64_w, i32_w]
    rfl
  refine take_ (i := 1) (N := some 8) (v := ?_) (a' := ?_) #[true, true, true, false, false, true, false, true, false, false, true, false, true, false, false, false, false, false, false, false, false] rfl rfl (take_ofW HT_.out HW_.out (by kernel_rfl)) (fun _ _ _ h => h) (Or.inl ⟨by rfl, ?_⟩) hHeld ?_ ?_
  rotate_left
  · rintro w' ⟨s0, s1, s2, s3, s4, s5, s6, s7, s8, s9, s10, s11, s12, s13, s14, s15, s16, s17, s18, s19, s20, s21, s22, s23, s24, s25⟩
    go_simp
    with_reducible rfl
  rotate_left
  · simp only [Act.put, List.setIfInBounds_toArray, List.set_cons_zero, List.set_cons_succ, i64_w, i32_w]
    rfl
  refine take_ (i := 3) (N := some 10) (v := ?_) (a' := ?_) #[true, true, true, true, false, true, false, true, false, false, true, false, true, false, false, false, false, false, false, false, false] rfl rfl (take_ofW HT_.out HW_.out (by kernel_rfl)) (fun _ _ _ h => h) (Or.inl ⟨by rfl, ?_⟩) hHeld ?_ ?_
  rotate_left
  · rintro w' ⟨s0, s1, s2, s3, s4, s5, s6, s7, s8, s9, s10, s11, s12, s13, s14, s15, s16, s17, s18, s19, s20, s21, s22, s23, s24, s25⟩
    go_simp
    with_reducible rfl
  rotate_left
  · simp only [Act.put, List.setIfInBounds_toArray, List.set_cons_zero, List.set_cons_succ, i64_w, i32_w]
    rfl
  refine take_ (i := 6) (N := some 13) (v := ?_) (a' := ?_) #[true, true, true, true, false, true, true, true, false, false, true, false, true, false, false, false, false, false, false, false, false] rfl rfl (take_ofW HT_.out HW_.out (by kernel_rfl)) (fun _ _ _ h => h) (Or.inl ⟨by rfl, ?_⟩) hHeld ?_ ?_
  rotate_left
  · rintro w' ⟨s0, s1, s2, s3, s4, s5, s6, s7, s8, s9, s10, s11, s12, s13, s14, s15, s16, s17, s18, s19, s20, s21, s22, s23, s24, s25⟩
    go_simp
    with_reducible rfl
  rotate_left
  · simp only [Act.put, List.setIfInBounds_toArray, List.set_cons_zero, List.set_cons_succ, i64_w, i32_w]
    rfl
  refine take_ (i := 8) (N := some 15) (v := ?_) (a' := ?_) #[true, true, true, true, false, true, true, true, true, false, true, false, true, false, false, false, false, false, false, false, false] rfl rfl (take_ofW HT_.out HW_.out (by kernel_rfl)) (fun _ _ _ h => h) (Or.inl ⟨by rfl, ?_⟩) hHeld ?_ ?_
  rotate_left
  · rintro w' ⟨s0, s1, s2, s3, s4, s5, s6, s7, s8, s9, s10, s11, s12, s13, s14, s15, s16, s17, s18, s19, s20, s21, s22, s23, s24, s25⟩
    go_simp
    with_reducible rfl
  rotate_left
  · simp only [Act.put, List.setIfInBounds_toArray, List.set_cons_zero, List.set_cons_succ, i64_w, i32_w]
    rfl
  refine take_ (i := 11) (N := some 18) (v := ?_) (a' := ?_) #[true, true, true, true, false, true, true, true, true, false, true, true, true, false, false, false, false, false, false, false, false] rfl rfl (take_ofW HT_.out HW_.out (by kernel_rfl)) (fun _ _ _ h => h) (Or.inl ⟨by rfl, ?_⟩) hHeld ?_ ?_
  rotate_left
  · rintro w' ⟨s0, s1, s2, s3, s4, s5, s6, s7, s8, s9, s10, s11, s12, s13, s14, s15, s16, s17, s18, s19, s20, s21, s22, s23, s24, s25⟩
    go_simp
    with_reducible rfl
  rotate_left
  · simp only [Act.put, List.setIfInBounds_toArray, List.set_cons_zero, List.set_cons_succ, i64_w, i32_w]
    rfl
  refine take_ (i := 13) (N := some 20) (v := ?_) (a' := ?_) #[true, true, true, true, false, true, true, true, true, false, true, true, true, true, false, false, false, false, false, false, false] rfl rfl (take_ofW HT_.out HW_.out (by kernel_rfl)) (fun _ _ _ h => h) (Or.inl ⟨by rfl, ?_⟩) hHeld ?_ ?_
  rotate_left
  · rintro w' ⟨s0, s1, s2, s3, s4, s5, s6, s7, s8, s9, s10, s11, s12, s13, s14, s15, s16, s17, s18, s19, s20, s21, s22, s23, s24, s25⟩
    go_simp
    with_reducible rfl
  rotate_left
  · simp only [Act.put, List.setIfInBounds_toArray, List.set_cons_zero, List.set_cons_succ, i64_w, i32_w]
    rfl
  refine one_ (i := 4) (N := some 11) #[true, true, true, true, true, true, true, true, true, false, true, true, true, true, false, false, false, false, false, false, false] rfl rfl (one_of HT_.out (by kernel_rfl)) (by decide) (fun K hK => ?_)
  refine goes_ Try.func27 (by kernel_rfl) rfl #[.string a1_0, .string t190] (by rfl) rfl rfl (by (try simp only [List.map_toArray, List.map_cons, List.map_nil]); first | done | rfl | (simp only [List.length_drop, List.length_take]; rfl)) ?_
  with_reducible refine (residue_or.calls a1_0 t190 t197 _ A4.out).mono ?_
  rintro e w' ⟨rfl, ⟨nd, rfl⟩⟩
  refine ⟨_, rfl, ?_⟩
  refine hK.out _ _ ⟨(blk_cell BK168.out 0).trans rfl, (blk_cell BK168.out 1).trans rfl, (blk_cell BK168.out 2).trans rfl, (blk_cell BK168.out 3).trans rfl, (blk_cell BK168.out 4).trans rfl, (blk_cell BK167.out 0).trans rfl, (blk_cell BK167.out 1).trans rfl, (blk_cell BK167.out 2).trans rfl, (blk_cell BK167.out 3).trans rfl, (blk_cell BK167.out 4).trans rfl, (blk_cell BK167.out 5).trans rfl, (blk_cell BK167.out 6).trans rfl, (blk_cell BK167.out 7).trans rfl, (blk_cell BK167.out 8).trans rfl, (blk_cell BK167.out 9).trans rfl, (blk_cell BK167.out 10).trans rfl, (blk_cell BK167.out 11).trans rfl, (blk_cell BK167.out 12).trans rfl, (blk_cell BK167.out 13).trans rfl, (blk_cell BK167.out 14).trans rfl, (blk_cell BK167.out 15).trans rfl, (blk_cell BK167.out 16).trans rfl, (blk_cell BK167.out 17).trans rfl, (blk_cell BK167.out 18).trans rfl, (blk_cell BK167.out 19).trans rfl, (blk_cell BK167.out 20).trans rfl⟩ (fun hHeld => ?_)
  clear hK K
  refine norm_ (a' := ?_) ?_ ?_
  rotate_left
  · show Act.put _ (some 11) _ = _
    simp only [Act.put, List.setIfInBounds_toArray, List.set_cons_zero, List.set_cons_succ, i64_w, i32_w]
    rfl
  refine pure_ (i := 15) (N := some 22) (v := ?_) (a' := ?_) #[true, true, true, true, true, true, true, true, true, false, true, true, true, true, false, true, false, false, false, false, false] rfl rfl (any_of HT_.out (by kernel_rfl)) (fun _ _ _ h => h) (Or.inl ⟨by rfl, ?_⟩) ?_ ?_
  rotate_left
  · intro w'
    go_simp
    with_reducible rfl
  rotate_left
  · simp only [Act.put, List.setIfInBounds_toArray, List.set_cons_zero, List.set_cons_succ, i64_w, i32_w]
    rfl
  refine one_ (i := 9) (N := some 16) #[true, true, true, true, true, true, true, true, true, true, true, true, true, true, false, true, false, false, false, false, false] rfl rfl (one_of HT_.out (by kernel_rfl)) (by decide) (fun K hK => ?_)
  refine goes_ Try.func28 (by kernel_rfl) rfl #[.string t178, .string a1_1] (by rfl) rfl rfl (by (try simp only [List.map_toArray, List.map_cons, List.map_nil]); first | done | rfl | (simp only [List.length_drop, List.length_take]; rfl)) ?_
  with_reducible refine (residue_known.calls t178 a1_1 t198 _ A5.out).mono ?_
  rintro e w' ⟨rfl, ⟨nd, rfl⟩⟩
  refine ⟨_, rfl, ?_⟩
  refine hK.out _ _ ⟨(blk_cell BK168.out 0).trans rfl, (blk_cell BK168.out 1).trans rfl, (blk_cell BK168.out 2).trans rfl, (blk_cell BK168.out 3).trans rfl, (blk_cell BK168.out 4).trans rfl, (blk_cell BK167.out 0).trans rfl, (blk_cell BK167.out 1).trans rfl, (blk_cell BK167.out 2).trans rfl, (blk_cell BK167.out 3).trans rfl, (blk_cell BK167.out 4).trans rfl, (blk_cell BK167.out 5).trans rfl, (blk_cell BK167.out 6).trans rfl, (blk_cell BK167.out 7).trans rfl, (blk_cell BK167.out 8).trans rfl, (blk_cell BK167.out 9).trans rfl, (blk_cell BK167.out 10).trans rfl, (blk_cell BK167.out 11).trans rfl, (blk_cell BK167.out 12).trans rfl, (blk_cell BK167.out 13).trans rfl, (blk_cell BK167.out 14).trans rfl, (blk_cell BK167.out 15).trans rfl, (blk_cell BK167.out 16).trans rfl, (blk_cell BK167.out 17).trans rfl, (blk_cell BK167.out 18).trans rfl, (blk_cell BK167.out 19).trans rfl, (blk_cell BK167.out 20).trans rfl⟩ (fun hHeld => ?_)
  clear hK K
  refine norm_ (a' := ?_) ?_ ?_
  rotate_left
  · show Act.put _ (some 16) _ = _
    simp only [Act.put, List.setIfInBounds_toArray, List.set_cons_zero, List.set_cons_succ, i64_w, i32_w]
    rfl
  refine one_ (i := 14) (N := some 21) #[true, true, true, true, true, true, true, true, true, true, true, true, true, true, true, true, false, false, false, false, false] rfl rfl (one_of HT_.out (by kernel_rfl)) (by decide) (fun K hK => ?_)
  refine goes_ Try.func28 (by kernel_rfl) rfl #[.string t179, .string a1_2] (by rfl) rfl rfl (by (try simp only [List.map_toArray, List.map_cons, List.map_nil]); first | done | rfl | (simp only [List.length_drop, List.length_take]; rfl)) ?_
  with_reducible refine (residue_known.calls t179 a1_2 t199 _ A6.out).mono ?_
  rintro e w' ⟨rfl, ⟨nd, rfl⟩⟩
  refine ⟨_, rfl, ?_⟩
  refine hK.out _ _ ⟨(blk_cell BK168.out 0).trans rfl, (blk_cell BK168.out 1).trans rfl, (blk_cell BK168.out 2).trans rfl, (blk_cell BK168.out 3).trans rfl, (blk_cell BK168.out 4).trans rfl, (blk_cell BK167.out 0).trans rfl, (blk_cell BK167.out 1).trans rfl, (blk_cell BK167.out 2).trans rfl, (blk_cell BK167.out 3).trans rfl, (blk_cell BK167.out 4).trans rfl, (blk_cell BK167.out 5).trans rfl, (blk_cell BK167.out 6).trans rfl, (blk_cell BK167.out 7).trans rfl, (blk_cell BK167.out 8).trans rfl, (blk_cell BK167.out 9).trans rfl, (blk_cell BK167.out 10).trans rfl, (blk_cell BK167.out 11).trans rfl, (blk_cell BK167.out 12).trans rfl, (blk_cell BK167.out 13).trans rfl, (blk_cell BK167.out 14).trans rfl, (blk_cell BK167.out 15).trans rfl, (blk_cell BK167.out 16).trans rfl, (blk_cell BK167.out 17).trans rfl, (blk_cell BK167.out 18).trans rfl, (blk_cell BK167.out 19).trans rfl, (blk_cell BK167.out 20).trans rfl⟩ (fun hHeld => ?_)
  clear hK K
  refine norm_ (a' := ?_) ?_ ?_
  rotate_left
  · show Act.put _ (some 21) _ = _
    simp only [Act.put, List.setIfInBounds_toArray, List.set_cons_zero, List.set_cons_succ, i64_w, i32_w]
    rfl
  refine last_ (i := 16) (N := none) #[true, true, true, true, true, true, true, true, true, true, true, true, true, true, true, true, true, false, false, false, false] rfl rfl (one_of HT_.out (by kernel_rfl)) (by decide) (fun K hK => ?_)
  have hs18 : w17.cell? ⟨gb167, 18, none⟩ = some (.string t190) := (blk_cell BK167.out 18).trans rfl
  have hfs18 := blk_frozen BK167.out 18
  have hns18_1 := NB168_167.out
  have hns18_2 := NB169_167.out
  have hms18_1 := NB167_168.out
  have hms18_2 := NB167_169.out
  refine skip_ (w1 := ?_) (by rfl) rfl ?_ ?_
  rotate_left
  · go_simp
    rfl
  refine hK.out _ _ ?_
  clear hK K
  refine pure_ (i := 17) (N := some 23) (v := ?_) (a' := ?_) #[true, true, true, true, true, true, true, true, true, true, true, true, true, true, true, true, true, true, false, false, false] rfl rfl (any_of HT_.out (by kernel_rfl)) (fun _ _ _ h => h) (Or.inl ⟨by rfl, ?_⟩) ?_ ?_
  rotate_left
  · intro w'
    go_simp
    with_reducible rfl
  rotate_left
  · simp only [Act.put, List.setIfInBounds_toArray, List.set_cons_zero, List.set_cons_succ, i64_w, i32_w]
    rfl
  refine last_ (i := 18) (N := none) #[true, true, true, true, true, true, true, true, true, true, true, true, true, true, true, true, true, true, true, false, false] rfl rfl (one_of HT_.out (by kernel_rfl)) (by decide) (fun K hK => ?_)
  have hs19 : w17.cell? ⟨gb167, 8, none⟩ = some (.string t178) := (blk_cell BK167.out 8).trans rfl
  have hfs19 := blk_frozen BK167.out 8
  have hns19_1 := NB168_167.out
  have hns19_2 := NB169_167.out
  have hms19_1 := NB167_168.out
  have hms19_2 := NB167_169.out
  refine skip_ (w1 := ?_) (by rfl) rfl ?_ ?_
  rotate_left
  · go_simp
    rfl
  refine hK.out _ _ ?_
  clear hK K
  refine pure_ (i := 19) (N := some 24) (v := ?_) (a' := ?_) #[true, true, true, true, true, true, true, true, true, true, true, true, true, true, true, true, true, true, true, true, false] rfl rfl (any_of HT_.out (by kernel_rfl)) (fun _ _ _ h => h) (Or.inl ⟨by rfl, ?_⟩) ?_ ?_
  rotate_left
  · intro w'
    go_simp
    with_reducible rfl
  rotate_left
  · simp only [Act.put, List.setIfInBounds_toArray, List.set_cons_zero, List.set_cons_succ, i64_w, i32_w]
    rfl
  refine last_ (i := 20) (N := none) #[true, true, true, true, true, true, true, true, true, true, true, true, true, true, true, true, true, true, true, true, true] rfl rfl (one_of HT_.out (by kernel_rfl)) (by decide) (fun K hK => ?_)
  have hs20 : w17.cell? ⟨gb167, 9, none⟩ = some (.string t179) := (blk_cell BK167.out 9).trans rfl
  have hfs20 := blk_frozen BK167.out 9
  have hns20_1 := NB168_167.out
  have hns20_2 := NB169_167.out
  have hms20_1 := NB167_168.out
  have hms20_2 := NB167_169.out
  refine skip_ (w1 := ?_) (by rfl) rfl ?_ ?_
  rotate_left
  · go_simp
    rfl
  refine hK.out _ _ ?_
  clear hK K
  refine done_ (done_of HT_.out (by kernel_rfl)) ?_
  have hnb21 := NB168_167.out
  have hnc21 := NB167_168.out
  have hnb22 := NB168_169.out
  have hnc22 := NB169_168.out
  have hcz23_0 : w17.cell? ⟨gb168, 0, none⟩ = some (.string a1_0) := (blk_cell BK168.out 0).trans rfl
  have hcz23_1 : w17.cell? ⟨gb168, 1, none⟩ = some (.string a1_1) := (blk_cell BK168.out 1).trans rfl
  have hcz23_2 : w17.cell? ⟨gb168, 2, none⟩ = some (.string a1_2) := (blk_cell BK168.out 2).trans rfl
  have hcz23_3 : w17.cell? ⟨gb168, 3, none⟩ = some (.slice A1_3 l1_3.length c1_3) := (blk_cell BK168.out 3).trans rfl
  have hcz23_4 : w17.cell? ⟨gb168, 4, none⟩ = some (.slice A1_4 l1_4.length c1_4) := (blk_cell BK168.out 4).trans rfl
  have hfz23_0 := blk_frozen BK168.out 0
  have hfz23_1 := blk_frozen BK168.out 1
  have hfz23_2 := blk_frozen BK168.out 2
  have hfz23_3 := blk_frozen BK168.out 3
  have hfz23_4 := blk_frozen BK168.out 4
  go_upto_if 27 with (first | ((with_reducible refine gate_callee (f := 29) rfl ?_); refine goesL_ (some 26) rfl rfl Try.func29 (by kernel_rfl) rfl #[.agg #[.string a1_0, .string a1_1, .string a1_2, .slice A1_3 l1_3.length c1_3, .slice A1_4 l1_4.length c1_4]] rfl (by (try simp only [List.map_toArray, List.map_cons, List.map_nil]); first | done | rfl | (simp only [List.length_drop, List.length_take]; rfl)) ?_; (with_reducible refine (residue_part_extra.calls a1_0 a1_1 a1_2 _ _ l1_3 _ _ l1_4 t200 _ ?side1 ?side2 ?side3 ?side4 A7.out).mono ?_); (case side1 => exact Kd.C_below HR1_3.out (by repeat (first | (with_reducible first | exact HB.out | apply below_alloc | apply pw_below_drewN | apply below_drew1 | refine below_set ?_ GE167.out | refine below_set ?_ GE168.out | refine below_set ?_ GE169.out) | exact HB.out))); (case side2 => exact HC1_3.out); (case side3 => exact Kd.C_below HR1_4.out (by repeat (first | (with_reducible first | exact HB.out | apply below_alloc | apply pw_below_drewN | apply below_drew1 | refine below_set ?_ GE167.out | refine below_set ?_ GE168.out | refine below_set ?_ GE169.out) | exact HB.out))); (case side4 => exact HC1_4.out); rintro e w24 ⟨rfl, hb⟩; refine ⟨_, rfl, ?_⟩; have n0_ := Aside0.mk (Kd.S_below (by (with_reducible repeat (first | apply Kd.S_alloc | apply Kd.S_drewN | apply Kd.S_drew)); exact (Kd.S_mono (Kd.S_far (p := ⟨gb167, 9, none⟩) (Kd.S_far (p := ⟨gb167, 8, none⟩) (Kd.S_far (p := ⟨gb167, 18, none⟩) (Kd.S_types HO188.out BK167.out (by decide)) (fun _ hk => hk.2) (.string t197)) (fun _ hk => hk.2) (.string t198)) (fun _ hk => hk.2) (.string t199)) (fun _ h_ => h_.1))) hb); have n1_ := Aside0.mk (Kd.R_below (by (with_reducible repeat (first | apply Kd.R_alloc | apply Kd.R_drewN | apply Kd.R_drew)); exact (Kd.R_mono (Kd.R_far (p := ⟨gb167, 9, none⟩) (Kd.R_far (p := ⟨gb167, 8, none⟩) (Kd.R_far (p := ⟨gb167, 18, none⟩) (Kd.R_types HO193.out BK167.out (by decide)) (fun _ hk => hk.2) (.string t197)) (fun _ hk => hk.2) (.string t198)) (fun _ hk => hk.2) (.string t199)) (fun _ h_ => h_.1))) hb); have n2_ := Aside0.mk (Kd.S_below (by (with_reducible repeat (first | apply Kd.S_alloc | apply Kd.S_drewN | apply Kd.S_drew)); exact (Kd.S_mono (Kd.S_far (p := ⟨gb167, 9, none⟩) (Kd.S_far (p := ⟨gb167, 8, none⟩) (Kd.S_far (p := ⟨gb167, 18, none⟩) (Kd.S_types HO196.out BK167.out (by decide)) (fun _ hk => hk.2) (.string t197)) (fun _ hk => hk.2) (.string t198)) (fun _ hk => hk.2) (.string t199)) (fun _ h_ => h_.1))) hb); have n3_ := Aside0.mk (blk_below (g := gb167) (o := .cells #[.int .i64 t170, .int .i64 t171, .string t172, .string t173, .string t174, .string t175, .int .u64 t176, .string t177, .string t198, .string t199, .string t180, .int .i64 t181, .string t182, .string t183, .int .i64 t184, .string t185, .slice Ao13 t186.length co13, .string t189, .string t197, .slice Ao14 t191.length co14, .slice Ao15 t194.length co15] 29 (0, 0)) (by (with_reducible repeat (first | refine blk_drewN ?_ _ | refine blk_drew ?_ | refine blk_alloc ?_ _)); refine blk_put (cs := #[.int .i64 t170, .int .i64 t171, .string t172, .string t173, .string t174, .string t175, .int .u64 t176, .string t177, .string t198, .string t179, .string t180, .int .i64 t181, .string t182, .string t183, .int .i64 t184, .string t185, .slice Ao13 t186.length co13, .string t189, .string t197, .slice Ao14 t191.length co14, .slice Ao15 t194.length co15]) ?_ 9 _ rfl; (with_reducible repeat (first | refine blk_drewN ?_ _ | refine blk_drew ?_ | refine blk_alloc ?_ _)); refine blk_put (cs := #[.int .i64 t170, .int .i64 t171, .string t172, .string t173, .string t174, .string t175, .int .u64 t176, .string t177, .string t178, .string t179, .string t180, .int .i64 t181, .string t182, .string t183, .int .i64 t184, .string t185, .slice Ao13 t186.length co13, .string t189, .string t197, .slice Ao14 t191.length co14, .slice Ao15 t194.length co15]) ?_ 8 _ rfl; (with_reducible repeat (first | refine blk_drewN ?_ _ | refine blk_drew ?_ | refine blk_alloc ?_ _)); refine blk_put (cs := #[.int .i64 t170, .int .i64 t171, .string t172, .string t173, .string t174, .string t175, .int .u64 t176, .string t177, .string t178, .string t179, .string t180, .int .i64 t181, .string t182, .string t183, .int .i64 t184, .string t185, .slice Ao13 t186.length co13, .string t189, .string t190, .slice Ao14 t191.length co14, .slice Ao15 t194.length co15]) ?_ 18 _ rfl; (with_reducible repeat (first | refine blk_drewN ?_ _ | refine blk_drew ?_ | refine blk_alloc ?_ _)); exact BK167.out) hb); have n4_ := Aside0.mk (blk_below (g := gb168) (o := .cells #[.string a1_0, .string a1_1, .string a1_2, .slice A1_3 l1_3.length c1_3, .slice A1_4 l1_4.length c1_4] 31 (0, 0)) (by (with_reducible repeat (first | refine blk_drewN ?_ _ | refine blk_drew ?_ | refine blk_alloc ?_ _)); refine blk_far ?_ NB168_167.out _; (with_reducible repeat (first | refine blk_drewN ?_ _ | refine blk_drew ?_ | refine blk_alloc ?_ _)); refine blk_far ?_ NB168_167.out _; (with_reducible repeat (first | refine blk_drewN ?_ _ | refine blk_drew ?_ | refine blk_alloc ?_ _)); refine blk_far ?_ NB168_167.out _; (with_reducible repeat (first | refine blk_drewN ?_ _ | refine blk_drew ?_ | refine blk_alloc ?_ _)); exact BK168.out) hb); have n5_ := Aside0.mk (blk_below (g := gb169) (o := .cells #[.int .i64 0, .int .i64 0, .string (⟨#[]⟩ : ByteArray), .string (⟨#[]⟩ : ByteArray), .string (⟨#[]⟩ : ByteArray), .string (⟨#[]⟩ : ByteArray), .int .u64 0, .string (⟨#[]⟩ : ByteArray), .string (⟨#[]⟩ : ByteArray), .string (⟨#[]⟩ : ByteArray), .string (⟨#[]⟩ : ByteArray), .int .i64 0, .string (⟨#[]⟩ : ByteArray), .string (⟨#[]⟩ : ByteArray), .int .i64 0, .string (⟨#[]⟩ : ByteArray), .slice none 0 0, .string (⟨#[]⟩ : ByteArray), .string (⟨#[]⟩ : ByteArray), .slice none 0 0, .slice none 0 0] 29 (0, 0)) (by (with_reducible repeat (first | refine blk_drewN ?_ _ | refine blk_drew ?_ | refine blk_alloc ?_ _)); refine blk_far ?_ NB169_167.out _; (with_reducible repeat (first | refine blk_drewN ?_ _ | refine blk_drew ?_ | refine blk_alloc ?_ _)); refine blk_far ?_ NB169_167.out _; (with_reducible repeat (first | refine blk_drewN ?_ _ | refine blk_drew ?_ | refine blk_alloc ?_ _)); refine blk_far ?_ NB169_167.out _; (with_reducible repeat (first | refine blk_drewN ?_ _ | refine blk_drew ?_ | refine blk_alloc ?_ _)); exact BK169.out) hb); have n6_ := Aside0.mk (below_step (by repeat (first | (with_reducible first | exact HB.out | apply below_alloc | apply pw_below_drewN | apply below_drew1 | refine below_set ?_ GE167.out | refine below_set ?_ GE168.out | refine below_set ?_ GE169.out) | exact HB.out)) hb); clear HO188; clear HO193; clear HO196; clear BK167; clear BK168; clear BK169; clear HB; have HO188 := n0_; have HO193 := n1_; have HO196 := n2_; have BK167 := n3_; have BK168 := n4_; have BK169 := n5_; have HB := n6_; clear n0_ n1_ n2_ n3_ n4_ n5_ n6_; (try clear hb); (try clear hb2); (try clear hk); (try clear hi)))
  (try simp only [Act.put, List.setIfInBounds_toArray, List.set_cons_zero, List.set_cons_succ])
  go_cut [] (fun wc => ∃ (kq : Nat) (x168019_7 : List (S48)) (u168019 : Value), Aside0 (residue_Join.j0 kq t170 t171 t172 t173 t174 t175 t176 t177 t198 t199 t180 t181 t182 t183 t184 t185 t186 t189 t197 x168019_7 t194 a1_0 a1_1 a1_2 l1_3 l1_4 = some (r1, r2, r3, r4, r5, r6, r7, r8, r9, r10, r11, r12, r13, r14, r15, r16, r17, r18, r19, r20, r21)) ∧ Aside0 (kq ≤ k) ∧ Aside0 (Kd.S k56 56 wc w.heap.size (fun _ => True) (.slice Ao13 t186.length co13) t186) ∧ Aside0 (Kd.R k48 48 wc w.heap.size (fun _ => True) u168019 x168019_7) ∧ Aside0 (Kd.S k52 52 wc w.heap.size (fun _ => True) (.slice Ao15 t194.length co15) t194) ∧ Aside0 (wc.heap[gb167]? = some (.cells #[.int .i64 t170, .int .i64 t171, .string t172, .string t173, .string t174, .string t175, .int .u64 t176, .string t177, .string t198, .string t199, .string t180, .int .i64 t181, .string t182, .string t183, .int .i64 t184, .string t185, (.slice Ao13 t186.length co13), .string t189, .string t197, u168019, (.slice Ao15 t194.length co15)] 29 (0, 0))) ∧ Aside0 (wc.heap[gb168]? = some (.cells #[.string a1_0, .string a1_1, .string a1_2, (.slice A1_3 l1_3.length c1_3), (.slice A1_4 l1_4.length c1_4)] 31 (0, 0))) ∧ Aside0 (wc.heap[gb169]? = some (.cells #[.int .i64 0, .int .i64 0, .string (⟨#[]⟩ : ByteArray), .string (⟨#[]⟩ : ByteArray), .string (⟨#[]⟩ : ByteArray), .string (⟨#[]⟩ : ByteArray), .int .u64 0, .string (⟨#[]⟩ : ByteArray), .string (⟨#[]⟩ : ByteArray), .string (⟨#[]⟩ : ByteArray), .string (⟨#[]⟩ : ByteArray), .int .i64 0, .string (⟨#[]⟩ : ByteArray), .string (⟨#[]⟩ : ByteArray), .int .i64 0, .string (⟨#[]⟩ : ByteArray), (.slice none 0 0), .string (⟨#[]⟩ : ByteArray), .string (⟨#[]⟩ : ByteArray), (.slice none 0 0), (.slice none 0 0)] 29 (0, 0))) ∧ Aside0 (Below w.heap.size w wc))
  case first =>
    have H := HC8.out
    clear HC8
    by_cases c25 : t200 > 0
    · rw [if_pos c25] at H
      have c25b0 : decide (0 < t200) = true := decide_eq_true c25
      clear c25
      (first | rw [c25b0] | (simp only [i64_w, i32_w]; rw [c25b0]) | skip)
      replace H := Option.bind_eq_some_iff.mp H
      obtain ⟨t201, A260, H⟩ := H
      replace H : (residue_Join.j0 k t170 t171 t172 t173 t174 t175 t176 t177 t198 t199 t180 t181 t182 t183 t184 t185 t186 t189 t197 t201 t194 a1_0 a1_1 a1_2 l1_3 l1_4) = some (r1, r2, r3, r4, r5, r6, r7, r8, r9, r10, r11, r12, r13, r14, r15, r16, r17, r18, r19, r20, r21) := H
      have A26 := Aside0.mk A260
      clear A260
      have H' := Aside0.mk H
      clear H
      have hnb27 := NB168_167.out
      have hnc27 := NB167_168.out
      have hnb28 := NB168_169.out
      have hnc28 := NB169_168.out
      have hcz29_0 : w24.cell? ⟨gb168, 0, none⟩ = some (.string a1_0) := (blk_cell BK168.out 0).trans rfl
      have hcz29_1 : w24.cell? ⟨gb168, 1, none⟩ = some (.string a1_1) := (blk_cell BK168.out 1).trans rfl
      have hcz29_2 : w24.cell? ⟨gb168, 2, none⟩ = some (.string a1_2) := (blk_cell BK168.out 2).trans rfl
      have hcz29_3 : w24.cell? ⟨gb168, 3, none⟩ = some (.slice A1_3 l1_3.length c1_3) := (blk_cell BK168.out 3).trans rfl
      have hcz29_4 : w24.cell? ⟨gb168, 4, none⟩ = some (.slice A1_4 l1_4.length c1_4) := (blk_cell BK168.out 4).trans rfl
      have hfz29_0 := blk_frozen BK168.out 0
      have hfz29_1 := blk_frozen BK168.out 1
      have hfz29_2 := blk_frozen BK168.out 2
      have hfz29_3 := blk_frozen BK168.out 3
      have hfz29_4 := blk_frozen BK168.out 4
      go_wp2_with (first | ((with_reducible refine gate_callee (f := 30) rfl ?_); refine goesL_ (some 30) rfl rfl Try.func30 (by kernel_rfl) rfl #[.slice A1_3 l1_3.length c1_3] rfl (by (try simp only [List.map_toArray, List.map_cons, List.map_nil]); first | done | rfl | (simp only [List.length_drop, List.length_take]; rfl)) ?_; (with_reducible refine (api_Pair_30.calls _ _ l1_3 t201 _ ?side1 ?side2 A26.out).mono ?_); (case side1 => repeat (first | exact (Kd.C_below HR1_3.out HB.out) | (with_reducible refine Kd.C_alloc ?_ _) | (with_reducible refine Kd.C_drewN ?_ _) | (with_reducible refine Kd.C_drew ?_))); (case side2 => exact HC1_3.out); rintro e w30 ⟨v202, rfl, ho0, hb⟩; refine ⟨_, rfl, ?_⟩; have n0_ := Aside0.mk (Kd.S_below (by (with_reducible repeat (first | apply Kd.S_alloc | apply Kd.S_drewN | apply Kd.S_drew)); exact HO188.out) hb); have n1_ := Aside0.mk (Kd.R_elder' (by (with_reducible repeat (first | apply Kd.R_alloc | apply Kd.R_drewN | apply Kd.R_drew)); exact HO193.out) (Kd.R_base ho0) hb); have n2_ := Aside0.mk (Kd.S_below (by (with_reducible repeat (first | apply Kd.S_alloc | apply Kd.S_drewN | apply Kd.S_drew)); exact HO196.out) hb); have n3_ := Aside0.mk (Kd.R_lower (Kd.R_new' ho0 (Kd.R_lt (by (with_reducible repeat (first | apply Kd.R_alloc | apply Kd.R_drewN | apply Kd.R_drew)); exact HO193.out))) (below_size (by repeat (first | (with_reducible first | exact HB.out | apply below_alloc | apply pw_below_drewN | apply below_drew1 | refine below_set ?_ GE167.out | refine below_set ?_ GE168.out | refine below_set ?_ GE169.out) | exact HB.out)))); have n4_ := Aside0.mk (blk_below (g := gb167) (o := .cells #[.int .i64 t170, .int .i64 t171, .string t172, .string t173, .string t174, .string t175, .int .u64 t176, .string t177, .string t198, .string t199, .string t180, .int .i64 t181, .string t182, .string t183, .int .i64 t184, .string t185, .slice Ao13 t186.length co13, .string t189, .string t197, .slice Ao14 t191.length co14, .slice Ao15 t194.length co15] 29 (0, 0)) (by (with_reducible repeat (first | refine blk_drewN ?_ _ | refine blk_drew ?_ | refine blk_alloc ?_ _)); exact BK167.out) hb); have n5_ := Aside0.mk (blk_below (g := gb168) (o := .cells #[.string a1_0, .string a1_1, .string a1_2, .slice A1_3 l1_3.length c1_3, .slice A1_4 l1_4.length c1_4] 31 (0, 0)) (by (with_reducible repeat (first | refine blk_drewN ?_ _ | refine blk_drew ?_ | refine blk_alloc ?_ _)); exact BK168.out) hb); have n6_ := Aside0.mk (blk_below (g := gb169) (o := .cells #[.int .i64 0, .int .i64 0, .string (⟨#[]⟩ : ByteArray), .string (⟨#[]⟩ : ByteArray), .string (⟨#[]⟩ : ByteArray), .string (⟨#[]⟩ : ByteArray), .int .u64 0, .string (⟨#[]⟩ : ByteArray), .string (⟨#[]⟩ : ByteArray), .string (⟨#[]⟩ : ByteArray), .string (⟨#[]⟩ : ByteArray), .int .i64 0, .string (⟨#[]⟩ : ByteArray), .string (⟨#[]⟩ : ByteArray), .int .i64 0, .string (⟨#[]⟩ : ByteArray), .slice none 0 0, .string (⟨#[]⟩ : ByteArray), .string (⟨#[]⟩ : ByteArray), .slice none 0 0, .slice none 0 0] 29 (0, 0)) (by (with_reducible repeat (first | refine blk_drewN ?_ _ | refine blk_drew ?_ | refine blk_alloc ?_ _)); exact BK169.out) hb); have n7_ := Aside0.mk (below_step (by repeat (first | (with_reducible first | exact HB.out | apply below_alloc | apply pw_below_drewN | apply below_drew1 | refine below_set ?_ GE167.out | refine below_set ?_ GE168.out | refine below_set ?_ GE169.out) | exact HB.out)) hb); clear HO188; clear HO193; clear HO196; clear BK167; clear BK168; clear BK169; clear HB; have HO188 := n0_; have HO193 := n1_; have HO196 := n2_; have HO203 := n3_; have BK167 := n4_; have BK168 := n5_; have BK169 := n6_; have HB := n7_; clear n0_ n1_ n2_ n3_ n4_ n5_ n6_ n7_; (try clear hb); (try clear hb2); (try clear hk); (try clear hi); (try clear ho0); obtain ⟨Ao31, co31, eo31⟩ := Kd.R_slice HO203.out; subst eo31; have hnb32 := NB167_169.out; have hnc32 := NB169_167.out; have hcz33_0 : w30.cell? ⟨gb167, 0, none⟩ = some (.int .i64 t170) := (blk_cell BK167.out 0).trans rfl; have hcz33_1 : w30.cell? ⟨gb167, 1, none⟩ = some (.int .i64 t171) := (blk_cell BK167.out 1).trans rfl; have hcz33_2 : w30.cell? ⟨gb167, 2, none⟩ = some (.string t172) := (blk_cell BK167.out 2).trans rfl; have hcz33_3 : w30.cell? ⟨gb167, 3, none⟩ = some (.string t173) := (blk_cell BK167.out 3).trans rfl; have hcz33_4 : w30.cell? ⟨gb167, 4, none⟩ = some (.string t174) := (blk_cell BK167.out 4).trans rfl; have hcz33_5 : w30.cell? ⟨gb167, 5, none⟩ = some (.string t175) := (blk_cell BK167.out 5).trans rfl; have hcz33_6 : w30.cell? ⟨gb167, 6, none⟩ = some (.int .u64 t176) := (blk_cell BK167.out 6).trans rfl; have hcz33_7 : w30.cell? ⟨gb167, 7, none⟩ = some (.string t177) := (blk_cell BK167.out 7).trans rfl; have hcz33_8 : w30.cell? ⟨gb167, 8, none⟩ = some (.string t198) := (blk_cell BK167.out 8).trans rfl; have hcz33_9 : w30.cell? ⟨gb167, 9, none⟩ = some (.string t199) := (blk_cell BK167.out 9).trans rfl; have hcz33_10 : w30.cell? ⟨gb167, 10, none⟩ = some (.string t180) := (blk_cell BK167.out 10).trans rfl; have hcz33_11 : w30.cell? ⟨gb167, 11, none⟩ = some (.int .i64 t181) := (blk_cell BK167.out 11).trans rfl; have hcz33_12 : w30.cell? ⟨gb167, 12, none⟩ = some (.string t182) := (blk_cell BK167.out 12).trans rfl; have hcz33_13 : w30.cell? ⟨gb167, 13, none⟩ = some (.string t183) := (blk_cell BK167.out 13).trans rfl; have hcz33_14 : w30.cell? ⟨gb167, 14, none⟩ = some (.int .i64 t184) := (blk_cell BK167.out 14).trans rfl; have hcz33_15 : w30.cell? ⟨gb167, 15, none⟩ = some (.string t185) := (blk_cell BK167.out 15).trans rfl; have hcz33_16 : w30.cell? ⟨gb167, 16, none⟩ = some (.slice Ao13 t186.length co13) := (blk_cell BK167.out 16).trans rfl; have hcz33_17 : w30.cell? ⟨gb167, 17, none⟩ = some (.string t189) := (blk_cell BK167.out 17).trans rfl; have hcz33_18 : w30.cell? ⟨gb167, 18, none⟩ = some (.string t197) := (blk_cell BK167.out 18).trans rfl; have hcz33_19 : w30.cell? ⟨gb167, 19, none⟩ = some (.slice Ao14 t191.length co14) := (blk_cell BK167.out 19).trans rfl; have hcz33_20 : w30.cell? ⟨gb167, 20, none⟩ = some (.slice Ao15 t194.length co15) := (blk_cell BK167.out 20).trans rfl; have hfz33_0 := blk_frozen BK167.out 0; have hfz33_1 := blk_frozen BK167.out 1; have hfz33_2 := blk_frozen BK167.out 2; have hfz33_3 := blk_frozen BK167.out 3; have hfz33_4 := blk_frozen BK167.out 4; have hfz33_5 := blk_frozen BK167.out 5; have hfz33_6 := blk_frozen BK167.out 6; have hfz33_7 := blk_frozen BK167.out 7; have hfz33_8 := blk_frozen BK167.out 8; have hfz33_9 := blk_frozen BK167.out 9; have hfz33_10 := blk_frozen BK167.out 10; have hfz33_11 := blk_frozen BK167.out 11; have hfz33_12 := blk_frozen BK167.out 12; have hfz33_13 := blk_frozen BK167.out 13; have hfz33_14 := blk_frozen BK167.out 14; have hfz33_15 := blk_frozen BK167.out 15; have hfz33_16 := blk_frozen BK167.out 16; have hfz33_17 := blk_frozen BK167.out 17; have hfz33_18 := blk_frozen BK167.out 18; have hfz33_19 := blk_frozen BK167.out 19; have hfz33_20 := blk_frozen BK167.out 20))
      go_meet
      case rel => exact ⟨_, (t201), (.slice Ao31 t201.length co31), H', ⟨by first | omega | exact Nat.le_refl _⟩, ⟨by (with_reducible repeat (first | apply Kd.S_alloc | apply Kd.S_drewN | apply Kd.S_drew)); exact Kd.S_mono (Kd.S_far (p := ⟨gb167, 19, none⟩) (Kd.S_types HO188.out BK167.out (by decide)) (fun _ hk => hk.2) (.slice Ao31 t201.length co31)) (fun _ hk => trivial)⟩, ⟨by (with_reducible repeat (first | apply Kd.R_alloc | apply Kd.R_drewN | apply Kd.R_drew)); exact Kd.R_mono (Kd.R_far (p := ⟨gb167, 19, none⟩) (Kd.R_types HO203.out BK167.out (by decide)) (fun _ hk => hk.2) (.slice Ao31 t201.length co31)) (fun _ hk => trivial)⟩, ⟨by (with_reducible repeat (first | apply Kd.S_alloc | apply Kd.S_drewN | apply Kd.S_drew)); exact Kd.S_mono (Kd.S_far (p := ⟨gb167, 19, none⟩) (Kd.S_types HO196.out BK167.out (by decide)) (fun _ hk => hk.2) (.slice Ao31 t201.length co31)) (fun _ hk => trivial)⟩, ⟨by (with_reducible repeat (first | refine blk_drewN ?_ _ | refine blk_drew ?_ | refine blk_alloc ?_ _)); refine blk_put (cs := #[.int .i64 t170, .int .i64 t171, .string t172, .string t173, .string t174, .string t175, .int .u64 t176, .string t177, .string t198, .string t199, .string t180, .int .i64 t181, .string t182, .string t183, .int .i64 t184, .string t185, .slice Ao13 t186.length co13, .string t189, .string t197, .slice Ao14 t191.length co14, .slice Ao15 t194.length co15]) ?_ 19 _ rfl; (with_reducible repeat (first | refine blk_drewN ?_ _ | refine blk_drew ?_ | refine blk_alloc ?_ _)); exact BK167.out⟩, ⟨by (with_reducible repeat (first | refine blk_drewN ?_ _ | refine blk_drew ?_ | refine blk_alloc ?_ _)); refine blk_far ?_ NB168_167.out _; (with_reducible repeat (first | refine blk_drewN ?_ _ | refine blk_drew ?_ | refine blk_alloc ?_ _)); exact BK168.out⟩, ⟨by (with_reducible repeat (first | refine blk_drewN ?_ _ | refine blk_drew ?_ | refine blk_alloc ?_ _)); refine blk_far ?_ NB169_167.out _; (with_reducible repeat (first | refine blk_drewN ?_ _ | refine blk_drew ?_ | refine blk_alloc ?_ _)); exact BK169.out⟩, ⟨by repeat (first | (with_reducible first | exact HB.out | apply below_alloc | apply pw_below_drewN | apply below_drew1 | refine below_set ?_ GE167.out | refine below_set ?_ GE168.out | refine below_set ?_ GE169.out) | exact HB.out)⟩⟩
    · rw [if_neg c25] at H
      have c25b0 : decide (0 < t200) = false := decide_eq_false c25
      clear c25
      (first | rw [c25b0] | (simp only [i64_w, i32_w]; rw [c25b0]) | skip)
      have H' := Aside0.mk H
      clear H
      go_wp2
      go_meet
      case rel => exact ⟨_, (t191), (.slice Ao14 t191.length co14), H', ⟨by first | omega | exact Nat.le_refl _⟩, ⟨by (with_reducible repeat (first | apply Kd.S_alloc | apply Kd.S_drewN | apply Kd.S_drew)); exact HO188.out⟩, ⟨by (with_reducible repeat (first | apply Kd.R_alloc | apply Kd.R_drewN | apply Kd.R_drew)); exact HO193.out⟩, ⟨by (with_reducible repeat (first | apply Kd.S_alloc | apply Kd.S_drewN | apply Kd.S_drew)); exact HO196.out⟩, ⟨by (with_reducible repeat (first | refine blk_drewN ?_ _ | refine blk_drew ?_ | refine blk_alloc ?_ _)); exact BK167.out⟩, ⟨by (with_reducible repeat (first | refine blk_drewN ?_ _ | refine blk_drew ?_ | refine blk_alloc ?_ _)); exact BK168.out⟩, ⟨by (with_reducible repeat (first | refine blk_drewN ?_ _ | refine blk_drew ?_ | refine blk_alloc ?_ _)); exact BK169.out⟩, ⟨by repeat (first | (with_reducible first | exact HB.out | apply below_alloc | apply pw_below_drewN | apply below_drew1 | refine below_set ?_ GE167.out | refine below_set ?_ GE168.out | refine below_set ?_ GE169.out) | exact HB.out)⟩⟩
  case rest =>
    clear HC8
    try clear c1
    try clear c2
    try clear p2
    try clear c3
    try clear c13
    try clear c21
    try clear c22
    try clear c23
    try clear c25
    try clear c25b0
    try clear c27
    try clear c28
    try clear c29
    try clear c30
    try clear c32
    try clear hcz23_0
    try clear hcz23_1
    try clear hcz23_2
    try clear hcz23_3
    try clear hcz23_4
    try clear hcz29_0
    try clear hcz29_1
    try clear hcz29_2
    try clear hcz29_3
    try clear hcz29_4
    try clear hcz33_0
    try clear hcz33_1
    try clear hcz33_10
    try clear hcz33_11
    try clear hcz33_12
    try clear hcz33_13
    try clear hcz33_14
    try clear hcz33_15
    try clear hcz33_16
    try clear hcz33_17
    try clear hcz33_18
    try clear hcz33_19
    try clear hcz33_2
    try clear hcz33_20
    try clear hcz33_3
    try clear hcz33_4
    try clear hcz33_5
    try clear hcz33_6
    try clear hcz33_7
    try clear hcz33_8
    try clear hcz33_9
    try clear hfz23_0
    try clear hfz23_1
    try clear hfz23_2
    try clear hfz23_3
    try clear hfz23_4
    try clear hfz29_0
    try clear hfz29_1
    try clear hfz29_2
    try clear hfz29_3
    try clear hfz29_4
    try clear hfz33_0
    try clear hfz33_1
    try clear hfz33_10
    try clear hfz33_11
    try clear hfz33_12
    try clear hfz33_13
    try clear hfz33_14
    try clear hfz33_15
    try clear hfz33_16
    try clear hfz33_17
    try clear hfz33_18
    try clear hfz33_19
    try clear hfz33_2
    try clear hfz33_20
    try clear hfz33_3
    try clear hfz33_4
    try clear hfz33_5
    try clear hfz33_6
    try clear hfz33_7
    try clear hfz33_8
    try clear hfz33_9
    obtain ⟨kq, x168019_7, u168019, HA, HJ7, HO_168016, HO_168019, HO_168020, BK167, BK168, BK169, HB⟩ := hcut
    cases kq with
    | zero => exact absurd HA.out (by simp [residue_Join.j0])
    | succ kj7 =>
      have H := HA.out
      clear HA
      simp only [residue_Join.j0] at H
      replace H := Option.bind_eq_some_iff.mp H
      obtain ⟨t204, A340, H⟩ := H
      replace H : (if t204 > 0 then ((residue_elements.f kj7 l1_4).bind fun t205 => (some (t170, t171, t172, t173, t174, t175, t176, t177, t198, t199, t180, t181, t182, t183, t184, t185, t186, t189, t197, x168019_7, t205))) else (some (t170, t171, t172, t173, t174, t175, t176, t177, t198, t199, t180, t181, t182, t183, t184, t185, t186, t189, t197, x168019_7, t194))) = some (r1, r2, r3, r4, r5, r6, r7, r8, r9, r10, r11, r12, r13, r14, r15, r16, r17, r18, r19, r20, r21) := H
      have A34 := Aside0.mk A340
      clear A340
      by_cases c35 : t204 > 0
      · rw [if_pos c35] at H
        have c35b0 : decide (0 < t204) = true := decide_eq_true c35
        clear c35
        replace H := Option.bind_eq_some_iff.mp H
        obtain ⟨t205, A360, H⟩ := H
        replace H : (some (t170, t171, t172, t173, t174, t175, t176, t177, t198, t199, t180, t181, t182, t183, t184, t185, t186, t189, t197, x168019_7, t205)) = some (r1, r2, r3, r4, r5, r6, r7, r8, r9, r10, r11, r12, r13, r14, r15, r16, r17, r18, r19, r20, r21) := H
        have A36 := Aside0.mk A360
        clear A360
        simp only [Option.some.injEq, Prod.mk.injEq] at H
        obtain ⟨rfl, rfl, rfl, rfl, rfl, rfl, rfl, rfl, rfl, rfl, rfl, rfl, rfl, rfl, rfl, rfl, rfl, rfl, rfl, rfl, rfl⟩ := H
        have hnb37 := NB168_167.out
        have hnc37 := NB167_168.out
        have hnb38 := NB168_169.out
        have hnc38 := NB169_168.out
        have hcz39_0 : wc.cell? ⟨gb168, 0, none⟩ = some (.string a1_0) := (blk_cell BK168.out 0).trans rfl
        have hcz39_1 : wc.cell? ⟨gb168, 1, none⟩ = some (.string a1_1) := (blk_cell BK168.out 1).trans rfl
        have hcz39_2 : wc.cell? ⟨gb168, 2, none⟩ = some (.string a1_2) := (blk_cell BK168.out 2).trans rfl
        have hcz39_3 : wc.cell? ⟨gb168, 3, none⟩ = some (.slice A1_3 l1_3.length c1_3) := (blk_cell BK168.out 3).trans rfl
        have hcz39_4 : wc.cell? ⟨gb168, 4, none⟩ = some (.slice A1_4 l1_4.length c1_4) := (blk_cell BK168.out 4).trans rfl
        have hfz39_0 := blk_frozen BK168.out 0
        have hfz39_1 := blk_frozen BK168.out 1
        have hfz39_2 := blk_frozen BK168.out 2
        have hfz39_3 := blk_frozen BK168.out 3
        have hfz39_4 := blk_frozen BK168.out 4
        go_upto_region 7 with (first | ((with_reducible refine gate_callee (f := 31) rfl ?_); refine goesL_ (some 33) rfl rfl Try.func31 (by kernel_rfl) rfl #[.agg #[.string a1_0, .string a1_1, .string a1_2, .slice A1_3 l1_3.length c1_3, .slice A1_4 l1_4.length c1_4]] rfl (by (try simp only [List.map_toArray, List.map_cons, List.map_nil]); first | done | rfl | (simp only [List.length_drop, List.length_take]; rfl)) ?_; (with_reducible refine (residue_part_other.calls a1_0 a1_1 a1_2 _ _ l1_3 _ _ l1_4 t204 _ ?side1 ?side2 ?side3 ?side4 A34.out).mono ?_); (case side1 => repeat (first | exact (Kd.C_below HR1_3.out HB.out) | (with_reducible refine Kd.C_alloc ?_ _) | (with_reducible refine Kd.C_drewN ?_ _) | (with_reducible refine Kd.C_drew ?_))); (case side2 => exact HC1_3.out); (case side3 => repeat (first | exact (Kd.C_below HR1_4.out HB.out) | (with_reducible refine Kd.C_alloc ?_ _) | (with_reducible refine Kd.C_drewN ?_ _) | (with_reducible refine Kd.C_drew ?_))); (case side4 => exact HC1_4.out); rintro e w40 ⟨rfl, hb⟩; refine ⟨_, rfl, ?_⟩; have n0_ := Aside0.mk (Kd.S_below (by (with_reducible repeat (first | apply Kd.S_alloc | apply Kd.S_drewN | apply Kd.S_drew)); exact HO_168016.out) hb); have n1_ := Aside0.mk (Kd.R_below (by (with_reducible repeat (first | apply Kd.R_alloc | apply Kd.R_drewN | apply Kd.R_drew)); exact HO_168019.out) hb); have n2_ := Aside0.mk (Kd.S_below (by (with_reducible repeat (first | apply Kd.S_alloc | apply Kd.S_drewN | apply Kd.S_drew)); exact HO_168020.out) hb); have n3_ := Aside0.mk (blk_below (g := gb167) (o := .cells #[.int .i64 t170, .int .i64 t171, .string t172, .string t173, .string t174, .string t175, .int .u64 t176, .string t177, .string t198, .string t199, .string t180, .int .i64 t181, .string t182, .string t183, .int .i64 t184, .string t185, .slice Ao13 t186.length co13, .string t189, .string t197, u168019, .slice Ao15 t194.length co15] 29 (0, 0)) (by (with_reducible repeat (first | refine blk_drewN ?_ _ | refine blk_drew ?_ | refine blk_alloc ?_ _)); exact BK167.out) hb); have n4_ := Aside0.mk (blk_below (g := gb168) (o := .cells #[.string a1_0, .string a1_1, .string a1_2, .slice A1_3 l1_3.length c1_3, .slice A1_4 l1_4.length c1_4] 31 (0, 0)) (by (with_reducible repeat (first | refine blk_drewN ?_ _ | refine blk_drew ?_ | refine blk_alloc ?_ _)); exact BK168.out) hb); have n5_ := Aside0.mk (blk_below (g := gb169) (o := .cells #[.int .i64 0, .int .i64 0, .string (⟨#[]⟩ : ByteArray), .string (⟨#[]⟩ : ByteArray), .string (⟨#[]⟩ : ByteArray), .string (⟨#[]⟩ : ByteArray), .int .u64 0, .string (⟨#[]⟩ : ByteArray), .string (⟨#[]⟩ : ByteArray), .string (⟨#[]⟩ : ByteArray), .string (⟨#[]⟩ : ByteArray), .int .i64 0, .string (⟨#[]⟩ : ByteArray), .string (⟨#[]⟩ : ByteArray), .int .i64 0, .string (⟨#[]⟩ : ByteArray), .slice none 0 0, .string (⟨#[]⟩ : ByteArray), .string (⟨#[]⟩ : ByteArray), .slice none 0 0, .slice none 0 0] 29 (0, 0)) (by (with_reducible repeat (first | refine blk_drewN ?_ _ | refine blk_drew ?_ | refine blk_alloc ?_ _)); exact BK169.out) hb); have n6_ := Aside0.mk (below_step (by repeat (first | (with_reducible first | exact HB.out | apply below_alloc | apply pw_below_drewN | apply below_drew1 | refine below_set ?_ GE167.out | refine below_set ?_ GE168.out | refine below_set ?_ GE169.out) | exact HB.out)) hb); clear HO_168016; clear HO_168019; clear HO_168020; clear BK167; clear BK168; clear BK169; clear HB; have HO_168016 := n0_; have HO_168019 := n1_; have HO_168020 := n2_; have BK167 := n3_; have BK168 := n4_; have BK169 := n5_; have HB := n6_; clear n0_ n1_ n2_ n3_ n4_ n5_ n6_; (try clear hb); (try clear hb2); (try clear hk); (try clear hi); have hcz41_0 : w40.cell? ⟨gb168, 0, none⟩ = some (.string a1_0) := (blk_cell BK168.out 0).trans rfl; have hcz41_1 : w40.cell? ⟨gb168, 1, none⟩ = some (.string a1_1) := (blk_cell BK168.out 1).trans rfl; have hcz41_2 : w40.cell? ⟨gb168, 2, none⟩ = some (.string a1_2) := (blk_cell BK168.out 2).trans rfl; have hcz41_3 : w40.cell? ⟨gb168, 3, none⟩ = some (.slice A1_3 l1_3.length c1_3) := (blk_cell BK168.out 3).trans rfl; have hcz41_4 : w40.cell? ⟨gb168, 4, none⟩ = some (.slice A1_4 l1_4.length c1_4) := (blk_cell BK168.out 4).trans rfl; have hfz41_0 := blk_frozen BK168.out 0; have hfz41_1 := blk_frozen BK168.out 1; have hfz41_2 := blk_frozen BK168.out 2; have hfz41_3 := blk_frozen BK168.out 3; have hfz41_4 := blk_frozen BK168.out 4) | ((with_reducible refine gate_callee (f := 32) rfl ?_); refine goesL_ (some 37) rfl rfl Try.func32 (by kernel_rfl) rfl #[.slice A1_4 l1_4.length c1_4] rfl (by (try simp only [List.map_toArray, List.map_cons, List.map_nil]); first | done | rfl | (simp only [List.length_drop, List.length_take]; rfl)) ?_; (with_reducible refine (residue_elements.calls kj7 _ _ l1_4 t205 _ ?side1 ?side2 A36.out).mono ?_); (case side1 => repeat (first | exact (Kd.C_below HR1_4.out HB.out) | (with_reducible refine Kd.C_alloc ?_ _) | (with_reducible refine Kd.C_drewN ?_ _) | (with_reducible refine Kd.C_drew ?_))); (case side2 => exact HC1_4.out); rintro e w42 ⟨v206, rfl, ho0, hb⟩; refine ⟨_, rfl, ?_⟩; have n0_ := Aside0.mk (Kd.S_below (by (with_reducible repeat (first | apply Kd.S_alloc | apply Kd.S_drewN | apply Kd.S_drew)); exact HO_168016.out) hb); have n1_ := Aside0.mk (Kd.R_below (by (with_reducible repeat (first | apply Kd.R_alloc | apply Kd.R_drewN | apply Kd.R_drew)); exact HO_168019.out) hb); have n2_ := Aside0.mk (Kd.S_elder' (by (with_reducible repeat (first | apply Kd.S_alloc | apply Kd.S_drewN | apply Kd.S_drew)); exact HO_168020.out) (Kd.S_base ho0) hb); have n3_ := Aside0.mk (Kd.S_lower (Kd.S_new' ho0 (Kd.S_lt (by (with_reducible repeat (first | apply Kd.S_alloc | apply Kd.S_drewN | apply Kd.S_drew)); exact HO_168020.out))) (below_size (by repeat (first | (with_reducible first | exact HB.out | apply below_alloc | apply pw_below_drewN | apply below_drew1 | refine below_set ?_ GE167.out | refine below_set ?_ GE168.out | refine below_set ?_ GE169.out) | exact HB.out)))); have n4_ := Aside0.mk (blk_below (g := gb167) (o := .cells #[.int .i64 t170, .int .i64 t171, .string t172, .string t173, .string t174, .string t175, .int .u64 t176, .string t177, .string t198, .string t199, .string t180, .int .i64 t181, .string t182, .string t183, .int .i64 t184, .string t185, .slice Ao13 t186.length co13, .string t189, .string t197, u168019, .slice Ao15 t194.length co15] 29 (0, 0)) (by (with_reducible repeat (first | refine blk_drewN ?_ _ | refine blk_drew ?_ | refine blk_alloc ?_ _)); exact BK167.out) hb); have n5_ := Aside0.mk (blk_below (g := gb168) (o := .cells #[.string a1_0, .string a1_1, .string a1_2, .slice A1_3 l1_3.length c1_3, .slice A1_4 l1_4.length c1_4] 31 (0, 0)) (by (with_reducible repeat (first | refine blk_drewN ?_ _ | refine blk_drew ?_ | refine blk_alloc ?_ _)); exact BK168.out) hb); have n6_ := Aside0.mk (blk_below (g := gb169) (o := .cells #[.int .i64 0, .int .i64 0, .string (⟨#[]⟩ : ByteArray), .string (⟨#[]⟩ : ByteArray), .string (⟨#[]⟩ : ByteArray), .string (⟨#[]⟩ : ByteArray), .int .u64 0, .string (⟨#[]⟩ : ByteArray), .string (⟨#[]⟩ : ByteArray), .string (⟨#[]⟩ : ByteArray), .string (⟨#[]⟩ : ByteArray), .int .i64 0, .string (⟨#[]⟩ : ByteArray), .string (⟨#[]⟩ : ByteArray), .int .i64 0, .string (⟨#[]⟩ : ByteArray), .slice none 0 0, .string (⟨#[]⟩ : ByteArray), .string (⟨#[]⟩ : ByteArray), .slice none 0 0, .slice none 0 0] 29 (0, 0)) (by (with_reducible repeat (first | refine blk_drewN ?_ _ | refine blk_drew ?_ | refine blk_alloc ?_ _)); exact BK169.out) hb); have n7_ := Aside0.mk (below_step (by repeat (first | (with_reducible first | exact HB.out | apply below_alloc | apply pw_below_drewN | apply below_drew1 | refine below_set ?_ GE167.out | refine below_set ?_ GE168.out | refine below_set ?_ GE169.out) | exact HB.out)) hb); clear HO_168016; clear HO_168019; clear HO_168020; clear BK167; clear BK168; clear BK169; clear HB; have HO_168016 := n0_; have HO_168019 := n1_; have HO_168020 := n2_; have HO207 := n3_; have BK167 := n4_; have BK168 := n5_; have BK169 := n6_; have HB := n7_; clear n0_ n1_ n2_ n3_ n4_ n5_ n6_ n7_; (try clear hb); (try clear hb2); (try clear hk); (try clear hi); (try clear ho0); obtain ⟨Ao43, co43, eo43⟩ := Kd.S_slice HO207.out; subst eo43; have hnb44 := NB167_169.out; have hnc44 := NB169_167.out; have hcz45_0 : w42.cell? ⟨gb167, 0, none⟩ = some (.int .i64 t170) := (blk_cell BK167.out 0).trans rfl; have hcz45_1 : w42.cell? ⟨gb167, 1, none⟩ = some (.int .i64 t171) := (blk_cell BK167.out 1).trans rfl; have hcz45_2 : w42.cell? ⟨gb167, 2, none⟩ = some (.string t172) := (blk_cell BK167.out 2).trans rfl; have hcz45_3 : w42.cell? ⟨gb167, 3, none⟩ = some (.string t173) := (blk_cell BK167.out 3).trans rfl; have hcz45_4 : w42.cell? ⟨gb167, 4, none⟩ = some (.string t174) := (blk_cell BK167.out 4).trans rfl; have hcz45_5 : w42.cell? ⟨gb167, 5, none⟩ = some (.string t175) := (blk_cell BK167.out 5).trans rfl; have hcz45_6 : w42.cell? ⟨gb167, 6, none⟩ = some (.int .u64 t176) := (blk_cell BK167.out 6).trans rfl; have hcz45_7 : w42.cell? ⟨gb167, 7, none⟩ = some (.string t177) := (blk_cell BK167.out 7).trans rfl; have hcz45_8 : w42.cell? ⟨gb167, 8, none⟩ = some (.string t198) := (blk_cell BK167.out 8).trans rfl; have hcz45_9 : w42.cell? ⟨gb167, 9, none⟩ = some (.string t199) := (blk_cell BK167.out 9).trans rfl; have hcz45_10 : w42.cell? ⟨gb167, 10, none⟩ = some (.string t180) := (blk_cell BK167.out 10).trans rfl; have hcz45_11 : w42.cell? ⟨gb167, 11, none⟩ = some (.int .i64 t181) := (blk_cell BK167.out 11).trans rfl; have hcz45_12 : w42.cell? ⟨gb167, 12, none⟩ = some (.string t182) := (blk_cell BK167.out 12).trans rfl; have hcz45_13 : w42.cell? ⟨gb167, 13, none⟩ = some (.string t183) := (blk_cell BK167.out 13).trans rfl; have hcz45_14 : w42.cell? ⟨gb167, 14, none⟩ = some (.int .i64 t184) := (blk_cell BK167.out 14).trans rfl; have hcz45_15 : w42.cell? ⟨gb167, 15, none⟩ = some (.string t185) := (blk_cell BK167.out 15).trans rfl; have hcz45_16 : w42.cell? ⟨gb167, 16, none⟩ = some (.slice Ao13 t186.length co13) := (blk_cell BK167.out 16).trans rfl; have hcz45_17 : w42.cell? ⟨gb167, 17, none⟩ = some (.string t189) := (blk_cell BK167.out 17).trans rfl; have hcz45_18 : w42.cell? ⟨gb167, 18, none⟩ = some (.string t197) := (blk_cell BK167.out 18).trans rfl; have hcz45_19 : w42.cell? ⟨gb167, 19, none⟩ = some (u168019) := (blk_cell BK167.out 19).trans rfl; have hcz45_20 : w42.cell? ⟨gb167, 20, none⟩ = some (.slice Ao15 t194.length co15) := (blk_cell BK167.out 20).trans rfl; have hfz45_0 := blk_frozen BK167.out 0; have hfz45_1 := blk_frozen BK167.out 1; have hfz45_2 := blk_frozen BK167.out 2; have hfz45_3 := blk_frozen BK167.out 3; have hfz45_4 := blk_frozen BK167.out 4; have hfz45_5 := blk_frozen BK167.out 5; have hfz45_6 := blk_frozen BK167.out 6; have hfz45_7 := blk_frozen BK167.out 7; have hfz45_8 := blk_frozen BK167.out 8; have hfz45_9 := blk_frozen BK167.out 9; have hfz45_10 := blk_frozen BK167.out 10; have hfz45_11 := blk_frozen BK167.out 11; have hfz45_12 := blk_frozen BK167.out 12; have hfz45_13 := blk_frozen BK167.out 13; have hfz45_14 := blk_frozen BK167.out 14; have hfz45_15 := blk_frozen BK167.out 15; have hfz45_16 := blk_frozen BK167.out 16; have hfz45_17 := blk_frozen BK167.out 17; have hfz45_18 := blk_frozen BK167.out 18; have hfz45_19 := blk_frozen BK167.out 19; have hfz45_20 := blk_frozen BK167.out 20; obtain ⟨Ao46, co46, eo46⟩ := Kd.R_slice HO_168019.out; subst eo46))
        have p0_ : Aside0 (Kd.S k56 56 (w42.setCell ⟨gb167, 20, none⟩ (.slice Ao43 t205.length co43)) w.heap.size (fun _ => True) (.slice Ao13 t186.length co13) t186) := ⟨Kd.S_mono (Kd.S_far (p := ⟨gb167, 20, none⟩) (Kd.S_types HO_168016.out BK167.out (by decide)) (fun _ hk => hk.2) (.slice Ao43 t205.length co43)) (by intro _ hk; first | exact trivial | exact hk.1.2 | exact hk.1)⟩
        have p1_ : Aside0 (Kd.R k48 48 (w42.setCell ⟨gb167, 20, none⟩ (.slice Ao43 t205.length co43)) w.heap.size (fun _ => True) (.slice Ao46 x168019_7.length co46) x168019_7) := ⟨Kd.R_mono (Kd.R_far (p := ⟨gb167, 20, none⟩) (Kd.R_types HO_168019.out BK167.out (by decide)) (fun _ hk => hk.2) (.slice Ao43 t205.length co43)) (by intro _ hk; first | exact trivial | exact hk.1.2 | exact hk.1)⟩
        have p2_ : Aside0 (Kd.S k52 52 (w42.setCell ⟨gb167, 20, none⟩ (.slice Ao43 t205.length co43)) w.heap.size (fun k_ => some k_ ≠ (.slice Ao43 t205.length co43 : Value).ownBlock) (.slice Ao15 t194.length co15) t194) := ⟨Kd.S_mono (Kd.S_far (p := ⟨gb167, 20, none⟩) (Kd.S_types HO_168020.out BK167.out (by decide)) (fun _ hk => hk.2) (.slice Ao43 t205.length co43)) (by intro _ hk; first | exact trivial | exact hk.1.2 | exact hk.1)⟩
        have p3_ : Aside0 (Kd.S k52 52 (w42.setCell ⟨gb167, 20, none⟩ (.slice Ao43 t205.length co43)) w.heap.size (fun k_ => some k_ ≠ (.slice Ao15 t194.length co15 : Value).ownBlock) (.slice Ao43 t205.length co43) t205) := ⟨Kd.S_mono (Kd.S_far (p := ⟨gb167, 20, none⟩) (Kd.S_types HO207.out BK167.out (by decide)) (fun _ hk => hk.2) (.slice Ao43 t205.length co43)) (by intro _ hk; first | exact trivial | exact hk.1.2 | exact hk.1)⟩
        have p4_ : Aside0 ((w42.setCell ⟨gb167, 20, none⟩ (.slice Ao43 t205.length co43)).heap[gb167]? = some (.cells #[.int .i64 t170, .int .i64 t171, .string t172, .string t173, .string t174, .string t175, .int .u64 t176, .string t177, .string t198, .string t199, .string t180, .int .i64 t181, .string t182, .string t183, .int .i64 t184, .string t185, .slice Ao13 t186.length co13, .string t189, .string t197, .slice Ao46 x168019_7.length co46, .slice Ao43 t205.length co43] 29 (0, 0))) := ⟨blk_put BK167.out 20 _ rfl⟩
        have p5_ : Aside0 ((w42.setCell ⟨gb167, 20, none⟩ (.slice Ao43 t205.length co43)).heap[gb168]? = some (.cells #[.string a1_0, .string a1_1, .string a1_2, .slice A1_3 l1_3.length c1_3, .slice A1_4 l1_4.length c1_4] 31 (0, 0))) := ⟨blk_far (p := ⟨gb167, 20, none⟩) BK168.out NB168_167.out (.slice Ao43 t205.length co43)⟩
        have p6_ : Aside0 ((w42.setCell ⟨gb167, 20, none⟩ (.slice Ao43 t205.length co43)).heap[gb169]? = some (.cells #[.int .i64 0, .int .i64 0, .string (⟨#[]⟩ : ByteArray), .string (⟨#[]⟩ : ByteArray), .string (⟨#[]⟩ : ByteArray), .string (⟨#[]⟩ : ByteArray), .int .u64 0, .string (⟨#[]⟩ : ByteArray), .string (⟨#[]⟩ : ByteArray), .string (⟨#[]⟩ : ByteArray), .string (⟨#[]⟩ : ByteArray), .int .i64 0, .string (⟨#[]⟩ : ByteArray), .string (⟨#[]⟩ : ByteArray), .int .i64 0, .string (⟨#[]⟩ : ByteArray), .slice none 0 0, .string (⟨#[]⟩ : ByteArray), .string (⟨#[]⟩ : ByteArray), .slice none 0 0, .slice none 0 0] 29 (0, 0))) := ⟨blk_far (p := ⟨gb167, 20, none⟩) BK169.out NB169_167.out (.slice Ao43 t205.length co43)⟩
        have p7_ : Aside0 (Below w.heap.size w (w42.setCell ⟨gb167, 20, none⟩ (.slice Ao43 t205.length co43))) := ⟨below_set HB.out GE167.out⟩
        clear HO_168016 HO_168019 HO_168020 HO207 BK167 BK168 BK169 HB
        generalize w42.setCell ⟨gb167, 20, none⟩ (.slice Ao43 t205.length co43) = wq_ at p0_ p1_ p2_ p3_ p4_ p5_ p6_ p7_ ⊢
        have HO_168016 := p0_
        have HO_168019 := p1_
        have HO_168020 := p2_
        have HO207 := p3_
        have BK167 := p4_
        have BK168 := p5_
        have BK169 := p6_
        have HB := p7_
        clear p0_ p1_ p2_ p3_ p4_ p5_ p6_ p7_
        go_wp2_with (first | ((with_reducible refine gate_dst (N := 39) rfl ?_); refine wpList_load_row rfl 29 _ rfl gb167 rfl 29 #[.int .i64 t170, .int .i64 t171, .string t172, .string t173, .string t174, .string t175, .int .u64 t176, .string t177, .string t198, .string t199, .string t180, .int .i64 t181, .string t182, .string t183, .int .i64 t184, .string t185, .slice Ao13 t186.length co13, .string t189, .string t197, .slice Ao46 x168019_7.length co46, .slice Ao43 t205.length co43] (0, 0) _ ?lb hu29 rfl (by kernel_rfl) ?_; (case lb => exact BK167.out)) | ((with_reducible refine gate_store (t := 29) (p := 4) rfl ?_); refine Go.Proofs.Ythapknnppabdaaa.Fill.store_event rfl 29 _ _ rfl gb169 #[.int .i64 t170, .int .i64 t171, .string t172, .string t173, .string t174, .string t175, .int .u64 t176, .string t177, .string t198, .string t199, .string t180, .int .i64 t181, .string t182, .string t183, .int .i64 t184, .string t185, .slice Ao13 t186.length co13, .string t189, .string t197, .slice Ao46 x168019_7.length co46, .slice Ao43 t205.length co43] rfl rfl 29 #[.int .i64 0, .int .i64 0, .string (⟨#[]⟩ : ByteArray), .string (⟨#[]⟩ : ByteArray), .string (⟨#[]⟩ : ByteArray), .string (⟨#[]⟩ : ByteArray), .int .u64 0, .string (⟨#[]⟩ : ByteArray), .string (⟨#[]⟩ : ByteArray), .string (⟨#[]⟩ : ByteArray), .string (⟨#[]⟩ : ByteArray), .int .i64 0, .string (⟨#[]⟩ : ByteArray), .string (⟨#[]⟩ : ByteArray), .int .i64 0, .string (⟨#[]⟩ : ByteArray), .slice none 0 0, .string (⟨#[]⟩ : ByteArray), .string (⟨#[]⟩ : ByteArray), .slice none 0 0, .slice none 0 0] BK169.out (by kernel_rfl) rfl (by first | kernel_rfl | rfl | simp [Value.oneCell']) ?_; intro w47 hbk hkp hbl; have n0_ := Aside0.mk (Kd.S_mono (Kd.S_keep (Kd.S_types HO_168016.out BK169.out (by decide)) hkp (fun _ hk_ => hk_.2)) (fun _ hk_ => hk_.1)); have n1_ := Aside0.mk (Kd.R_mono (Kd.R_keep (Kd.R_types HO_168019.out BK169.out (by decide)) hkp (fun _ hk_ => hk_.2)) (fun _ hk_ => hk_.1)); have n2_ := Aside0.mk (Kd.S_mono (Kd.S_keep (Kd.S_types HO_168020.out BK169.out (by decide)) hkp (fun _ hk_ => hk_.2)) (fun _ hk_ => hk_.1)); have n3_ := Aside0.mk (Kd.S_mono (Kd.S_keep (Kd.S_types HO207.out BK169.out (by decide)) hkp (fun _ hk_ => hk_.2)) (fun _ hk_ => hk_.1)); have n4_ := Aside0.mk (KeepBut.blk hkp BK167.out NB167_169.out (by simp)); have n5_ := Aside0.mk (KeepBut.blk hkp BK168.out NB168_169.out (by simp)); have n6_ := Aside0.mk (hbk); have n7_ := Aside0.mk (hbl _ _ HB.out GE169.out); clear HO_168016; clear HO_168019; clear HO_168020; clear HO207; clear BK167; clear BK168; clear BK169; clear HB; have HO_168016 := n0_; have HO_168019 := n1_; have HO_168020 := n2_; have HO207 := n3_; have BK167 := n4_; have BK168 := n5_; have BK169 := n6_; have HB := n7_; clear n0_ n1_ n2_ n3_ n4_ n5_ n6_ n7_; clear hbk hkp hbl))
        refine bodyPost_ret (results_cell_row rfl _ _ gb169 29 #[.int .i64 t170, .int .i64 t171, .string t172, .string t173, .string t174, .string t175, .int .u64 t176, .string t177, .string t198, .string t199, .string t180, .int .i64 t181, .string t182, .string t183, .int .i64 t184, .string t185, .slice Ao13 t186.length co13, .string t189, .string t197, .slice Ao46 x168019_7.length co46, .slice Ao43 t205.length co43] (0, 0) _ rfl (by (with_reducible repeat (first | refine blk_drewN ?_ _ | refine blk_drew ?_ | refine blk_alloc ?_ _)); exact BK169.out) Try.underlying29 rfl (by kernel_rfl)) rfl ?_
        exact ⟨_, _, _, by first | rfl | (simp [errW_none, errW_some] <;> rfl) | (simp [*, errW_none, errW_some] <;> rfl), by (with_reducible repeat (first | apply Kd.S_alloc | apply Kd.S_drewN | apply Kd.S_drew)); exact HO_168016.out, by (with_reducible repeat (first | apply Kd.R_alloc | apply Kd.R_drewN | apply Kd.R_drew)); exact HO_168019.out, by (with_reducible repeat (first | apply Kd.S_alloc | apply Kd.S_drewN | apply Kd.S_drew)); exact Kd.S_mono HO207.out (fun _ hk => trivial), by repeat (first | (with_reducible first | exact HB.out | apply below_alloc | apply pw_below_drewN | apply below_drew1 | refine below_set ?_ GE167.out | refine below_set ?_ GE168.out | refine below_set ?_ GE169.out) | exact HB.out)⟩
      · rw [if_neg c35] at H
        have c35b0 : decide (0 < t204) = false := decide_eq_false c35
        clear c35
        simp only [Option.some.injEq, Prod.mk.injEq] at H
        obtain ⟨rfl, rfl, rfl, rfl, rfl, rfl, rfl, rfl, rfl, rfl, rfl, rfl, rfl, rfl, rfl, rfl, rfl, rfl, rfl, rfl, rfl⟩ := H
        have hnb48 := NB168_167.out
        have hnc48 := NB167_168.out
        have hnb49 := NB168_169.out
        have hnc49 := NB169_168.out
        have hcz50_0 : wc.cell? ⟨gb168, 0, none⟩ = some (.string a1_0) := (blk_cell BK168.out 0).trans rfl
        have hcz50_1 : wc.cell? ⟨gb168, 1, none⟩ = some (.string a1_1) := (blk_cell BK168.out 1).trans rfl
        have hcz50_2 : wc.cell? ⟨gb168, 2, none⟩ = some (.string a1_2) := (blk_cell BK168.out 2).trans rfl
        have hcz50_3 : wc.cell? ⟨gb168, 3, none⟩ = some (.slice A1_3 l1_3.length c1_3) := (blk_cell BK168.out 3).trans rfl
        have hcz50_4 : wc.cell? ⟨gb168, 4, none⟩ = some (.slice A1_4 l1_4.length c1_4) := (blk_cell BK168.out 4).trans rfl
        have hfz50_0 := blk_frozen BK168.out 0
        have hfz50_1 := blk_frozen BK168.out 1
        have hfz50_2 := blk_frozen BK168.out 2
        have hfz50_3 := blk_frozen BK168.out 3
        have hfz50_4 := blk_frozen BK168.out 4
        go_wp2_with (first | ((with_reducible refine gate_callee (f := 31) rfl ?_); refine goesL_ (some 33) rfl rfl Try.func31 (by kernel_rfl) rfl #[.agg #[.string a1_0, .string a1_1, .string a1_2, .slice A1_3 l1_3.length c1_3, .slice A1_4 l1_4.length c1_4]] rfl (by (try simp only [List.map_toArray, List.map_cons, List.map_nil]); first | done | rfl | (simp only [List.length_drop, List.length_take]; rfl)) ?_; (with_reducible refine (residue_part_other.calls a1_0 a1_1 a1_2 _ _ l1_3 _ _ l1_4 t204 _ ?side1 ?side2 ?side3 ?side4 A34.out).mono ?_); (case side1 => repeat (first | exact (Kd.C_below HR1_3.out HB.out) | (with_reducible refine Kd.C_alloc ?_ _) | (with_reducible refine Kd.C_drewN ?_ _) | (with_reducible refine Kd.C_drew ?_))); (case side2 => exact HC1_3.out); (case side3 => repeat (first | exact (Kd.C_below HR1_4.out HB.out) | (with_reducible refine Kd.C_alloc ?_ _) | (with_reducible refine Kd.C_drewN ?_ _) | (with_reducible refine Kd.C_drew ?_))); (case side4 => exact HC1_4.out); rintro e w51 ⟨rfl, hb⟩; refine ⟨_, rfl, ?_⟩; have n0_ := Aside0.mk (Kd.S_below (by (with_reducible repeat (first | apply Kd.S_alloc | apply Kd.S_drewN | apply Kd.S_drew)); exact HO_168016.out) hb); have n1_ := Aside0.mk (Kd.R_below (by (with_reducible repeat (first | apply Kd.R_alloc | apply Kd.R_drewN | apply Kd.R_drew)); exact HO_168019.out) hb); have n2_ := Aside0.mk (Kd.S_below (by (with_reducible repeat (first | apply Kd.S_alloc | apply Kd.S_drewN | apply Kd.S_drew)); exact HO_168020.out) hb); have n3_ := Aside0.mk (blk_below (g := gb167) (o := .cells #[.int .i64 t170, .int .i64 t171, .string t172, .string t173, .string t174, .string t175, .int .u64 t176, .string t177, .string t198, .string t199, .string t180, .int .i64 t181, .string t182, .string t183, .int .i64 t184, .string t185, .slice Ao13 t186.length co13, .string t189, .string t197, u168019, .slice Ao15 t194.length co15] 29 (0, 0)) (by (with_reducible repeat (first | refine blk_drewN ?_ _ | refine blk_drew ?_ | refine blk_alloc ?_ _)); exact BK167.out) hb); have n4_ := Aside0.mk (blk_below (g := gb168) (o := .cells #[.string a1_0, .string a1_1, .string a1_2, .slice A1_3 l1_3.length c1_3, .slice A1_4 l1_4.length c1_4] 31 (0, 0)) (by (with_reducible repeat (first | refine blk_drewN ?_ _ | refine blk_drew ?_ | refine blk_alloc ?_ _)); exact BK168.out) hb); have n5_ := Aside0.mk (blk_below (g := gb169) (o := .cells #[.int .i64 0, .int .i64 0, .string (⟨#[]⟩ : ByteArray), .string (⟨#[]⟩ : ByteArray), .string (⟨#[]⟩ : ByteArray), .string (⟨#[]⟩ : ByteArray), .int .u64 0, .string (⟨#[]⟩ : ByteArray), .string (⟨#[]⟩ : ByteArray), .string (⟨#[]⟩ : ByteArray), .string (⟨#[]⟩ : ByteArray), .int .i64 0, .string (⟨#[]⟩ : ByteArray), .string (⟨#[]⟩ : ByteArray), .int .i64 0, .string (⟨#[]⟩ : ByteArray), .slice none 0 0, .string (⟨#[]⟩ : ByteArray), .string (⟨#[]⟩ : ByteArray), .slice none 0 0, .slice none 0 0] 29 (0, 0)) (by (with_reducible repeat (first | refine blk_drewN ?_ _ | refine blk_drew ?_ | refine blk_alloc ?_ _)); exact BK169.out) hb); have n6_ := Aside0.mk (below_step (by repeat (first | (with_reducible first | exact HB.out | apply below_alloc | apply pw_below_drewN | apply below_drew1 | refine below_set ?_ GE167.out | refine below_set ?_ GE168.out | refine below_set ?_ GE169.out) | exact HB.out)) hb); clear HO_168016; clear HO_168019; clear HO_168020; clear BK167; clear BK168; clear BK169; clear HB; have HO_168016 := n0_; have HO_168019 := n1_; have HO_168020 := n2_; have BK167 := n3_; have BK168 := n4_; have BK169 := n5_; have HB := n6_; clear n0_ n1_ n2_ n3_ n4_ n5_ n6_; (try clear hb); (try clear hb2); (try clear hk); (try clear hi); obtain ⟨Ao52, co52, eo52⟩ := Kd.R_slice HO_168019.out; subst eo52) | ((with_reducible refine gate_dst (N := 39) rfl ?_); refine wpList_load_row rfl 29 _ rfl gb167 rfl 29 #[.int .i64 t170, .int .i64 t171, .string t172, .string t173, .string t174, .string t175, .int .u64 t176, .string t177, .string t198, .string t199, .string t180, .int .i64 t181, .string t182, .string t183, .int .i64 t184, .string t185, .slice Ao13 t186.length co13, .string t189, .string t197, .slice Ao52 x168019_7.length co52, .slice Ao15 t194.length co15] (0, 0) _ ?lb hu29 rfl (by kernel_rfl) ?_; (case lb => exact (by (with_reducible repeat (first | refine blk_drewN ?_ _ | refine blk_drew ?_ | refine blk_alloc ?_ _)); exact BK167.out))) | ((with_reducible refine gate_store (t := 29) (p := 4) rfl ?_); refine Go.Proofs.Ythapknnppabdaaa.Fill.store_event rfl 29 _ _ rfl gb169 #[.int .i64 t170, .int .i64 t171, .string t172, .string t173, .string t174, .string t175, .int .u64 t176, .string t177, .string t198, .string t199, .string t180, .int .i64 t181, .string t182, .string t183, .int .i64 t184, .string t185, .slice Ao13 t186.length co13, .string t189, .string t197, .slice Ao52 x168019_7.length co52, .slice Ao15 t194.length co15] rfl rfl 29 #[.int .i64 0, .int .i64 0, .string (⟨#[]⟩ : ByteArray), .string (⟨#[]⟩ : ByteArray), .string (⟨#[]⟩ : ByteArray), .string (⟨#[]⟩ : ByteArray), .int .u64 0, .string (⟨#[]⟩ : ByteArray), .string (⟨#[]⟩ : ByteArray), .string (⟨#[]⟩ : ByteArray), .string (⟨#[]⟩ : ByteArray), .int .i64 0, .string (⟨#[]⟩ : ByteArray), .string (⟨#[]⟩ : ByteArray), .int .i64 0, .string (⟨#[]⟩ : ByteArray), .slice none 0 0, .string (⟨#[]⟩ : ByteArray), .string (⟨#[]⟩ : ByteArray), .slice none 0 0, .slice none 0 0] BK169.out (by kernel_rfl) rfl (by first | kernel_rfl | rfl | simp [Value.oneCell']) ?_; intro w53 hbk hkp hbl; have n0_ := Aside0.mk (Kd.S_mono (Kd.S_keep (Kd.S_types HO_168016.out BK169.out (by decide)) hkp (fun _ hk_ => hk_.2)) (fun _ hk_ => hk_.1)); have n1_ := Aside0.mk (Kd.R_mono (Kd.R_keep (Kd.R_types HO_168019.out BK169.out (by decide)) hkp (fun _ hk_ => hk_.2)) (fun _ hk_ => hk_.1)); have n2_ := Aside0.mk (Kd.S_mono (Kd.S_keep (Kd.S_types HO_168020.out BK169.out (by decide)) hkp (fun _ hk_ => hk_.2)) (fun _ hk_ => hk_.1)); have n3_ := Aside0.mk (KeepBut.blk hkp BK167.out NB167_169.out (by simp)); have n4_ := Aside0.mk (KeepBut.blk hkp BK168.out NB168_169.out (by simp)); have n5_ := Aside0.mk (hbk); have n6_ := Aside0.mk (hbl _ _ HB.out GE169.out); clear HO_168016; clear HO_168019; clear HO_168020; clear BK167; clear BK168; clear BK169; clear HB; have HO_168016 := n0_; have HO_168019 := n1_; have HO_168020 := n2_; have BK167 := n3_; have BK168 := n4_; have BK169 := n5_; have HB := n6_; clear n0_ n1_ n2_ n3_ n4_ n5_ n6_; clear hbk hkp hbl))
        refine bodyPost_ret (results_cell_row rfl _ _ gb169 29 #[.int .i64 t170, .int .i64 t171, .string t172, .string t173, .string t174, .string t175, .int .u64 t176, .string t177, .string t198, .string t199, .string t180, .int .i64 t181, .string t182, .string t183, .int .i64 t184, .string t185, .slice Ao13 t186.length co13, .string t189, .string t197, .slice Ao52 x168019_7.length co52, .slice Ao15 t194.length co15] (0, 0) _ rfl (by (with_reducible repeat (first | refine blk_drewN ?_ _ | refine blk_drew ?_ | refine blk_alloc ?_ _)); exact BK169.out) Try.underlying29 rfl (by kernel_rfl)) rfl ?_
        exact ⟨_, _, _, by first | rfl | (simp [errW_none, errW_some] <;> rfl) | (simp [*, errW_none, errW_some] <;> rfl), by (with_reducible repeat (first | apply Kd.S_alloc | apply Kd.S_drewN | apply Kd.S_drew)); exact HO_168016.out, by (with_reducible repeat (first | apply Kd.R_alloc | apply Kd.R_drewN | apply Kd.R_drew)); exact HO_168019.out, by (with_reducible repeat (first | apply Kd.S_alloc | apply Kd.S_drewN | apply Kd.S_drew)); exact HO_168020.out, by repeat (first | (with_reducible first | exact HB.out | apply below_alloc | apply pw_below_drewN | apply below_drew1 | refine below_set ?_ GE167.out | refine below_set ?_ GE168.out | refine below_set ?_ GE169.out) | exact HB.out)⟩

end Go.Proofs.Ythapknnppabdaaa.MR
