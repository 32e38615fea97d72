-- laid by wip/tools/mixprint.py over the kit's print (functions of function values by hand)
import Derived.Test.YtahakmhfdogdcaaMCx0
namespace Go.Proofs.Ytahakmhfdogdcaa.MC
open Go.RowKit Go.Proofs.YtahakmhfdogdcaaW.PrintWords Go.Proofs.YtahakmhfdogdcaaW.PrintLast Go.Proofs.YtahakmhfdogdcaaW.PrintMore
attribute [local go_sem] max2_int min2_int max_two min_two max_three min_three max_four min_four   -- for this text's walks alone
set_option linter.unusedVariables false
set_option linter.unusedSimpArgs false

/-! ### codes_table: function 24 -/
def codes_table.f  : Option ((List (S37))) := some (([(⟨(⟨#[48, 48, 48]⟩ : ByteArray), (⟨#[65, 80, 80, 82]⟩ : ByteArray), (⟨#[78, 79, 82, 77]⟩ : ByteArray)⟩ : S37), (⟨(⟨#[48, 48, 49]⟩ : ByteArray), (⟨#[65, 80, 80, 82]⟩ : ByteArray), (⟨#[73, 68, 69, 78]⟩ : ByteArray)⟩ : S37), (⟨(⟨#[48, 48, 50]⟩ : ByteArray), (⟨#[80, 65, 82, 84]⟩ : ByteArray), (⟨#[78, 79, 82, 77]⟩ : ByteArray)⟩ : S37), (⟨(⟨#[49, 48, 48]⟩ : ByteArray), (⟨#[68, 69, 67, 76]⟩ : ByteArray), (⟨#[78, 79, 82, 77]⟩ : ByteArray)⟩ : S37), (⟨(⟨#[49, 48, 49]⟩ : ByteArray), (⟨#[68, 69, 67, 76]⟩ : ByteArray), (⟨#[69, 88, 80, 68]⟩ : ByteArray)⟩ : S37), (⟨(⟨#[49, 48, 50]⟩ : ByteArray), (⟨#[68, 69, 67, 76]⟩ : ByteArray), (⟨#[70, 82, 65, 85]⟩ : ByteArray)⟩ : S37), (⟨(⟨#[49, 48, 52]⟩ : ByteArray), (⟨#[68, 69, 67, 76]⟩ : ByteArray), (⟨#[82, 69, 83, 84]⟩ : ByteArray)⟩ : S37), (⟨(⟨#[49, 48, 57]⟩ : ByteArray), (⟨#[68, 69, 67, 76]⟩ : ByteArray), (⟨#[77, 82, 67, 72]⟩ : ByteArray)⟩ : S37), (⟨(⟨#[49, 49, 48]⟩ : ByteArray), (⟨#[68, 69, 67, 76]⟩ : ByteArray), (⟨#[65, 77, 78, 84]⟩ : ByteArray)⟩ : S37), (⟨(⟨#[49, 49, 54]⟩ : ByteArray), (⟨#[68, 69, 67, 76]⟩ : ByteArray), (⟨#[73, 78, 83, 70]⟩ : ByteArray)⟩ : S37), (⟨(⟨#[49, 49, 55]⟩ : ByteArray), (⟨#[68, 69, 67, 76]⟩ : ByteArray), (⟨#[80, 73, 78, 86]⟩ : ByteArray)⟩ : S37), (⟨(⟨#[49, 49, 56]⟩ : ByteArray), (⟨#[68, 69, 67, 76]⟩ : ByteArray), (⟨#[78, 79, 67, 68]⟩ : ByteArray)⟩ : S37), (⟨(⟨#[49, 50, 49]⟩ : ByteArray), (⟨#[68, 69, 67, 76]⟩ : ByteArray), (⟨#[76, 73, 77, 84]⟩ : ByteArray)⟩ : S37), (⟨(⟨#[50, 48, 48]⟩ : ByteArray), (⟨#[80, 73, 67, 75]⟩ : ByteArray), (⟨#[78, 79, 82, 77]⟩ : ByteArray)⟩ : S37), (⟨(⟨#[52, 48, 48]⟩ : ByteArray), (⟨#[82, 86, 83, 76]⟩ : ByteArray), (⟨#[78, 79, 82, 77]⟩ : ByteArray)⟩ : S37), (⟨(⟨#[53, 48, 48]⟩ : ByteArray), (⟨#[82, 69, 67, 78]⟩ : ByteArray), (⟨#[78, 79, 82, 77]⟩ : ByteArray)⟩ : S37), (⟨(⟨#[56, 48, 48]⟩ : ByteArray), (⟨#[78, 69, 84, 87]⟩ : ByteArray), (⟨#[78, 79, 82, 77]⟩ : ByteArray)⟩ : S37), (⟨(⟨#[57, 48, 52]⟩ : ByteArray), (⟨#[84, 69, 67, 72]⟩ : ByteArray), (⟨#[70, 79, 82, 77]⟩ : ByteArray)⟩ : S37), (⟨(⟨#[57, 48, 55]⟩ : ByteArray), (⟨#[84, 69, 67, 72]⟩ : ByteArray), (⟨#[73, 83, 83, 82]⟩ : ByteArray)⟩ : S37), (⟨(⟨#[57, 48, 57]⟩ : ByteArray), (⟨#[84, 69, 67, 72]⟩ : ByteArray), (⟨#[66, 85, 83, 89]⟩ : ByteArray)⟩ : S37), (⟨(⟨#[57, 49, 49]⟩ : ByteArray), (⟨#[84, 69, 67, 72]⟩ : ByteArray), (⟨#[84, 73, 77, 79]⟩ : ByteArray)⟩ : S37), (⟨(⟨#[57, 49, 50]⟩ : ByteArray), (⟨#[84, 69, 67, 72]⟩ : ByteArray), (⟨#[68, 79, 87, 78]⟩ : ByteArray)⟩ : S37)] : List (S37)))
set_option maxHeartbeats 8000000 in
set_option maxRecDepth 100000 in
theorem codes_table.calls  (r : List (S37)) (w : World) (h : codes_table.f  = some r) :
    Calls Try.prog 24 #[] w fun e w' => ∃ v0_ : Value, e = .returned (v0_) ∧ Kd.R k37 37 w' w.heap.size (fun _ => True) v0_ r ∧ Below w.heap.size w w' := by
  have hu37 := Try.underlying37
  have HB := Aside0.mk (Below.refl w.heap.size w)
  have H : (some (([(⟨(⟨#[48, 48, 48]⟩ : ByteArray), (⟨#[65, 80, 80, 82]⟩ : ByteArray), (⟨#[78, 79, 82, 77]⟩ : ByteArray)⟩ : S37), (⟨(⟨#[48, 48, 49]⟩ : ByteArray), (⟨#[65, 80, 80, 82]⟩ : ByteArray), (⟨#[73, 68, 69, 78]⟩ : ByteArray)⟩ : S37), (⟨(⟨#[48, 48, 50]⟩ : ByteArray), (⟨#[80, 65, 82, 84]⟩ : ByteArray), (⟨#[78, 79, 82, 77]⟩ : ByteArray)⟩ : S37), (⟨(⟨#[49, 48, 48]⟩ : ByteArray), (⟨#[68, 69, 67, 76]⟩ : ByteArray), (⟨#[78, 79, 82, 77]⟩ : ByteArray)⟩ : S37), (⟨(⟨#[49, 48, 49]⟩ : ByteArray), (⟨#[68, 69, 67, 76]⟩ : ByteArray), (⟨#[69, 88, 80, 68]⟩ : ByteArray)⟩ : S37), (⟨(⟨#[49, 48, 50]⟩ : ByteArray), (⟨#[68, 69, 67, 76]⟩ : ByteArray), (⟨#[70, 82, 65, 85]⟩ : ByteArray)⟩ : S37), (⟨(⟨#[49, 48, 52]⟩ : ByteArray), (⟨#[68, 69, 67, 76]⟩ : ByteArray), (⟨#[82, 69, 83, 84]⟩ : ByteArray)⟩ : S37), (⟨(⟨#[49, 48, 57]⟩ : ByteArray), (⟨#[68, 69, 67, 76]⟩ : ByteArray), (⟨#[77, 82, 67, 72]⟩ : ByteArray)⟩ : S37), (⟨(⟨#[49, 49, 48]⟩ : ByteArray), (⟨#[68, 69, 67, 76]⟩ : ByteArray), (⟨#[65, 77, 78, 84]⟩ : ByteArray)⟩ : S37), (⟨(⟨#[49, 49, 54]⟩ : ByteArray), (⟨#[68, 69, 67, 76]⟩ : ByteArray), (⟨#[73, 78, 83, 70]⟩ : ByteArray)⟩ : S37), (⟨(⟨#[49, 49, 55]⟩ : ByteArray), (⟨#[68, 69, 67, 76]⟩ : ByteArray), (⟨#[80, 73, 78, 86]⟩ : ByteArray)⟩ : S37), (⟨(⟨#[49, 49, 56]⟩ : ByteArray), (⟨#[68, 69, 67, 76]⟩ : ByteArray), (⟨#[78, 79, 67, 68]⟩ : ByteArray)⟩ : S37), (⟨(⟨#[49, 50, 49]⟩ : ByteArray), (⟨#[68, 69, 67, 76]⟩ : ByteArray), (⟨#[76, 73, 77, 84]⟩ : ByteArray)⟩ : S37), (⟨(⟨#[50, 48, 48]⟩ : ByteArray), (⟨#[80, 73, 67, 75]⟩ : ByteArray), (⟨#[78, 79, 82, 77]⟩ : ByteArray)⟩ : S37), (⟨(⟨#[52, 48, 48]⟩ : ByteArray), (⟨#[82, 86, 83, 76]⟩ : ByteArray), (⟨#[78, 79, 82, 77]⟩ : ByteArray)⟩ : S37), (⟨(⟨#[53, 48, 48]⟩ : ByteArray), (⟨#[82, 69, 67, 78]⟩ : ByteArray), (⟨#[78, 79, 82, 77]⟩ : ByteArray)⟩ : S37), (⟨(⟨#[56, 48, 48]⟩ : ByteArray), (⟨#[78, 69, 84, 87]⟩ : ByteArray), (⟨#[78, 79, 82, 77]⟩ : ByteArray)⟩ : S37), (⟨(⟨#[57, 48, 52]⟩ : ByteArray), (⟨#[84, 69, 67, 72]⟩ : ByteArray), (⟨#[70, 79, 82, 77]⟩ : ByteArray)⟩ : S37), (⟨(⟨#[57, 48, 55]⟩ : ByteArray), (⟨#[84, 69, 67, 72]⟩ : ByteArray), (⟨#[73, 83, 83, 82]⟩ : ByteArray)⟩ : S37), (⟨(⟨#[57, 48, 57]⟩ : ByteArray), (⟨#[84, 69, 67, 72]⟩ : ByteArray), (⟨#[66, 85, 83, 89]⟩ : ByteArray)⟩ : S37), (⟨(⟨#[57, 49, 49]⟩ : ByteArray), (⟨#[84, 69, 67, 72]⟩ : ByteArray), (⟨#[84, 73, 77, 79]⟩ : ByteArray)⟩ : S37), (⟨(⟨#[57, 49, 50]⟩ : ByteArray), (⟨#[84, 69, 67, 72]⟩ : ByteArray), (⟨#[68, 79, 87, 78]⟩ : ByteArray)⟩ : S37)] : List (S37)))) = some r := h
  clear h
  obtain ⟨y101, hy101⟩ : ∃ y_ : List (S37), y_ = (([(⟨(⟨#[48, 48, 48]⟩ : ByteArray), (⟨#[65, 80, 80, 82]⟩ : ByteArray), (⟨#[78, 79, 82, 77]⟩ : ByteArray)⟩ : S37), (⟨(⟨#[48, 48, 49]⟩ : ByteArray), (⟨#[65, 80, 80, 82]⟩ : ByteArray), (⟨#[73, 68, 69, 78]⟩ : ByteArray)⟩ : S37), (⟨(⟨#[48, 48, 50]⟩ : ByteArray), (⟨#[80, 65, 82, 84]⟩ : ByteArray), (⟨#[78, 79, 82, 77]⟩ : ByteArray)⟩ : S37), (⟨(⟨#[49, 48, 48]⟩ : ByteArray), (⟨#[68, 69, 67, 76]⟩ : ByteArray), (⟨#[78, 79, 82, 77]⟩ : ByteArray)⟩ : S37), (⟨(⟨#[49, 48, 49]⟩ : ByteArray), (⟨#[68, 69, 67, 76]⟩ : ByteArray), (⟨#[69, 88, 80, 68]⟩ : ByteArray)⟩ : S37), (⟨(⟨#[49, 48, 50]⟩ : ByteArray), (⟨#[68, 69, 67, 76]⟩ : ByteArray), (⟨#[70, 82, 65, 85]⟩ : ByteArray)⟩ : S37), (⟨(⟨#[49, 48, 52]⟩ : ByteArray), (⟨#[68, 69, 67, 76]⟩ : ByteArray), (⟨#[82, 69, 83, 84]⟩ : ByteArray)⟩ : S37), (⟨(⟨#[49, 48, 57]⟩ : ByteArray), (⟨#[68, 69, 67, 76]⟩ : ByteArray), (⟨#[77, 82, 67, 72]⟩ : ByteArray)⟩ : S37), (⟨(⟨#[49, 49, 48]⟩ : ByteArray), (⟨#[68, 69, 67, 76]⟩ : ByteArray), (⟨#[65, 77, 78, 84]⟩ : ByteArray)⟩ : S37), (⟨(⟨#[49, 49, 54]⟩ : ByteArray), (⟨#[68, 69, 67, 76]⟩ : ByteArray), (⟨#[73, 78, 83, 70]⟩ : ByteArray)⟩ : S37), (⟨(⟨#[49, 49, 55]⟩ : ByteArray), (⟨#[68, 69, 67, 76]⟩ : ByteArray), (⟨#[80, 73, 78, 86]⟩ : ByteArray)⟩ : S37), (⟨(⟨#[49, 49, 56]⟩ : ByteArray), (⟨#[68, 69, 67, 76]⟩ : ByteArray), (⟨#[78, 79, 67, 68]⟩ : ByteArray)⟩ : S37), (⟨(⟨#[49, 50, 49]⟩ : ByteArray), (⟨#[68, 69, 67, 76]⟩ : ByteArray), (⟨#[76, 73, 77, 84]⟩ : ByteArray)⟩ : S37), (⟨(⟨#[50, 48, 48]⟩ : ByteArray), (⟨#[80, 73, 67, 75]⟩ : ByteArray), (⟨#[78, 79, 82, 77]⟩ : ByteArray)⟩ : S37), (⟨(⟨#[52, 48, 48]⟩ : ByteArray), (⟨#[82, 86, 83, 76]⟩ : ByteArray), (⟨#[78, 79, 82, 77]⟩ : ByteArray)⟩ : S37), (⟨(⟨#[53, 48, 48]⟩ : ByteArray), (⟨#[82, 69, 67, 78]⟩ : ByteArray), (⟨#[78, 79, 82, 77]⟩ : ByteArray)⟩ : S37), (⟨(⟨#[56, 48, 48]⟩ : ByteArray), (⟨#[78, 69, 84, 87]⟩ : ByteArray), (⟨#[78, 79, 82, 77]⟩ : ByteArray)⟩ : S37), (⟨(⟨#[57, 48, 52]⟩ : ByteArray), (⟨#[84, 69, 67, 72]⟩ : ByteArray), (⟨#[70, 79, 82, 77]⟩ : ByteArray)⟩ : S37), (⟨(⟨#[57, 48, 55]⟩ : ByteArray), (⟨#[84, 69, 67, 72]⟩ : ByteArray), (⟨#[73, 83, 83, 82]⟩ : ByteArray)⟩ : S37), (⟨(⟨#[57, 48, 57]⟩ : ByteArray), (⟨#[84, 69, 67, 72]⟩ : ByteArray), (⟨#[66, 85, 83, 89]⟩ : ByteArray)⟩ : S37), (⟨(⟨#[57, 49, 49]⟩ : ByteArray), (⟨#[84, 69, 67, 72]⟩ : ByteArray), (⟨#[84, 73, 77, 79]⟩ : ByteArray)⟩ : S37), (⟨(⟨#[57, 49, 50]⟩ : ByteArray), (⟨#[84, 69, 67, 72]⟩ : ByteArray), (⟨#[68, 79, 87, 78]⟩ : ByteArray)⟩ : S37)] : List (S37))) := ⟨_, rfl⟩
  replace H : (some y101) = some r := by first | (rw [hy101]; with_reducible exact H) | (have H2_ := (Option.bind_some _ _).symm.trans H; rw [hy101]; with_reducible exact H2_) | (have H2_ := (Option.bind_some _ _).symm.trans H; with_reducible exact H2_) | with_reducible exact H | (rw [hy101]; exact H) | exact H
  have Ny101 := Aside0.mk hy101
  clear hy101
  obtain rfl := Option.some.inj H
  go_enter Try.func24, Try.ntmps24
  go_wp2_with (first | ((with_reducible refine gate_dst (N := 23) rfl ?_); refine Kd.R_lit k37 _ 37 ?hg (N := 23) ?hd (xs := ([(⟨(⟨#[48, 48, 48]⟩ : ByteArray), (⟨#[65, 80, 80, 82]⟩ : ByteArray), (⟨#[78, 79, 82, 77]⟩ : ByteArray)⟩ : S37), (⟨(⟨#[48, 48, 49]⟩ : ByteArray), (⟨#[65, 80, 80, 82]⟩ : ByteArray), (⟨#[73, 68, 69, 78]⟩ : ByteArray)⟩ : S37), (⟨(⟨#[48, 48, 50]⟩ : ByteArray), (⟨#[80, 65, 82, 84]⟩ : ByteArray), (⟨#[78, 79, 82, 77]⟩ : ByteArray)⟩ : S37), (⟨(⟨#[49, 48, 48]⟩ : ByteArray), (⟨#[68, 69, 67, 76]⟩ : ByteArray), (⟨#[78, 79, 82, 77]⟩ : ByteArray)⟩ : S37), (⟨(⟨#[49, 48, 49]⟩ : ByteArray), (⟨#[68, 69, 67, 76]⟩ : ByteArray), (⟨#[69, 88, 80, 68]⟩ : ByteArray)⟩ : S37), (⟨(⟨#[49, 48, 50]⟩ : ByteArray), (⟨#[68, 69, 67, 76]⟩ : ByteArray), (⟨#[70, 82, 65, 85]⟩ : ByteArray)⟩ : S37), (⟨(⟨#[49, 48, 52]⟩ : ByteArray), (⟨#[68, 69, 67, 76]⟩ : ByteArray), (⟨#[82, 69, 83, 84]⟩ : ByteArray)⟩ : S37), (⟨(⟨#[49, 48, 57]⟩ : ByteArray), (⟨#[68, 69, 67, 76]⟩ : ByteArray), (⟨#[77, 82, 67, 72]⟩ : ByteArray)⟩ : S37), (⟨(⟨#[49, 49, 48]⟩ : ByteArray), (⟨#[68, 69, 67, 76]⟩ : ByteArray), (⟨#[65, 77, 78, 84]⟩ : ByteArray)⟩ : S37), (⟨(⟨#[49, 49, 54]⟩ : ByteArray), (⟨#[68, 69, 67, 76]⟩ : ByteArray), (⟨#[73, 78, 83, 70]⟩ : ByteArray)⟩ : S37), (⟨(⟨#[49, 49, 55]⟩ : ByteArray), (⟨#[68, 69, 67, 76]⟩ : ByteArray), (⟨#[80, 73, 78, 86]⟩ : ByteArray)⟩ : S37), (⟨(⟨#[49, 49, 56]⟩ : ByteArray), (⟨#[68, 69, 67, 76]⟩ : ByteArray), (⟨#[78, 79, 67, 68]⟩ : ByteArray)⟩ : S37), (⟨(⟨#[49, 50, 49]⟩ : ByteArray), (⟨#[68, 69, 67, 76]⟩ : ByteArray), (⟨#[76, 73, 77, 84]⟩ : ByteArray)⟩ : S37), (⟨(⟨#[50, 48, 48]⟩ : ByteArray), (⟨#[80, 73, 67, 75]⟩ : ByteArray), (⟨#[78, 79, 82, 77]⟩ : ByteArray)⟩ : S37), (⟨(⟨#[52, 48, 48]⟩ : ByteArray), (⟨#[82, 86, 83, 76]⟩ : ByteArray), (⟨#[78, 79, 82, 77]⟩ : ByteArray)⟩ : S37), (⟨(⟨#[53, 48, 48]⟩ : ByteArray), (⟨#[82, 69, 67, 78]⟩ : ByteArray), (⟨#[78, 79, 82, 77]⟩ : ByteArray)⟩ : S37), (⟨(⟨#[56, 48, 48]⟩ : ByteArray), (⟨#[78, 69, 84, 87]⟩ : ByteArray), (⟨#[78, 79, 82, 77]⟩ : ByteArray)⟩ : S37), (⟨(⟨#[57, 48, 52]⟩ : ByteArray), (⟨#[84, 69, 67, 72]⟩ : ByteArray), (⟨#[70, 79, 82, 77]⟩ : ByteArray)⟩ : S37), (⟨(⟨#[57, 48, 55]⟩ : ByteArray), (⟨#[84, 69, 67, 72]⟩ : ByteArray), (⟨#[73, 83, 83, 82]⟩ : ByteArray)⟩ : S37), (⟨(⟨#[57, 48, 57]⟩ : ByteArray), (⟨#[84, 69, 67, 72]⟩ : ByteArray), (⟨#[66, 85, 83, 89]⟩ : ByteArray)⟩ : S37), (⟨(⟨#[57, 49, 49]⟩ : ByteArray), (⟨#[84, 69, 67, 72]⟩ : ByteArray), (⟨#[84, 73, 77, 79]⟩ : ByteArray)⟩ : S37), (⟨(⟨#[57, 49, 50]⟩ : ByteArray), (⟨#[84, 69, 67, 72]⟩ : ByteArray), (⟨#[68, 79, 87, 78]⟩ : ByteArray)⟩ : S37)] : List (S37))) (inner := [.string (⟨#[48, 48, 48]⟩ : ByteArray), .string (⟨#[65, 80, 80, 82]⟩ : ByteArray), .string (⟨#[78, 79, 82, 77]⟩ : ByteArray), .string (⟨#[48, 48, 49]⟩ : ByteArray), .string (⟨#[65, 80, 80, 82]⟩ : ByteArray), .string (⟨#[73, 68, 69, 78]⟩ : ByteArray), .string (⟨#[48, 48, 50]⟩ : ByteArray), .string (⟨#[80, 65, 82, 84]⟩ : ByteArray), .string (⟨#[78, 79, 82, 77]⟩ : ByteArray), .string (⟨#[49, 48, 48]⟩ : ByteArray), .string (⟨#[68, 69, 67, 76]⟩ : ByteArray), .string (⟨#[78, 79, 82, 77]⟩ : ByteArray), .string (⟨#[49, 48, 49]⟩ : ByteArray), .string (⟨#[68, 69, 67, 76]⟩ : ByteArray), .string (⟨#[69, 88, 80, 68]⟩ : ByteArray), .string (⟨#[49, 48, 50]⟩ : ByteArray), .string (⟨#[68, 69, 67, 76]⟩ : ByteArray), .string (⟨#[70, 82, 65, 85]⟩ : ByteArray), .string (⟨#[49, 48, 52]⟩ : ByteArray), .string (⟨#[68, 69, 67, 76]⟩ : ByteArray), .string (⟨#[82, 69, 83, 84]⟩ : ByteArray), .string (⟨#[49, 48, 57]⟩ : ByteArray), .string (⟨#[68, 69, 67, 76]⟩ : ByteArray), .string (⟨#[77, 82, 67, 72]⟩ : ByteArray), .string (⟨#[49, 49, 48]⟩ : ByteArray), .string (⟨#[68, 69, 67, 76]⟩ : ByteArray), .string (⟨#[65, 77, 78, 84]⟩ : ByteArray), .string (⟨#[49, 49, 54]⟩ : ByteArray), .string (⟨#[68, 69, 67, 76]⟩ : ByteArray), .string (⟨#[73, 78, 83, 70]⟩ : ByteArray), .string (⟨#[49, 49, 55]⟩ : ByteArray), .string (⟨#[68, 69, 67, 76]⟩ : ByteArray), .string (⟨#[80, 73, 78, 86]⟩ : ByteArray), .string (⟨#[49, 49, 56]⟩ : ByteArray), .string (⟨#[68, 69, 67, 76]⟩ : ByteArray), .string (⟨#[78, 79, 67, 68]⟩ : ByteArray), .string (⟨#[49, 50, 49]⟩ : ByteArray), .string (⟨#[68, 69, 67, 76]⟩ : ByteArray), .string (⟨#[76, 73, 77, 84]⟩ : ByteArray), .string (⟨#[50, 48, 48]⟩ : ByteArray), .string (⟨#[80, 73, 67, 75]⟩ : ByteArray), .string (⟨#[78, 79, 82, 77]⟩ : ByteArray), .string (⟨#[52, 48, 48]⟩ : ByteArray), .string (⟨#[82, 86, 83, 76]⟩ : ByteArray), .string (⟨#[78, 79, 82, 77]⟩ : ByteArray), .string (⟨#[53, 48, 48]⟩ : ByteArray), .string (⟨#[82, 69, 67, 78]⟩ : ByteArray), .string (⟨#[78, 79, 82, 77]⟩ : ByteArray), .string (⟨#[56, 48, 48]⟩ : ByteArray), .string (⟨#[78, 69, 84, 87]⟩ : ByteArray), .string (⟨#[78, 79, 82, 77]⟩ : ByteArray), .string (⟨#[57, 48, 52]⟩ : ByteArray), .string (⟨#[84, 69, 67, 72]⟩ : ByteArray), .string (⟨#[70, 79, 82, 77]⟩ : ByteArray), .string (⟨#[57, 48, 55]⟩ : ByteArray), .string (⟨#[84, 69, 67, 72]⟩ : ByteArray), .string (⟨#[73, 83, 83, 82]⟩ : ByteArray), .string (⟨#[57, 48, 57]⟩ : ByteArray), .string (⟨#[84, 69, 67, 72]⟩ : ByteArray), .string (⟨#[66, 85, 83, 89]⟩ : ByteArray), .string (⟨#[57, 49, 49]⟩ : ByteArray), .string (⟨#[84, 69, 67, 72]⟩ : ByteArray), .string (⟨#[84, 73, 77, 79]⟩ : ByteArray), .string (⟨#[57, 49, 50]⟩ : ByteArray), .string (⟨#[84, 69, 67, 72]⟩ : ByteArray), .string (⟨#[68, 79, 87, 78]⟩ : ByteArray)]) (ok := fun _ => True) (okp := fun _ => True) ?hr ?hp (fun _ hk => hk) trivial (Below.refl _ _) (Nat.le_refl _) (by simp) ?_; (case hd => rfl); (case hg => rfl); (case hr => first | (go_simp; done) | (go_simp; rfl)); (case hp => exact (Reps.c3 (show Kd.M k37 _ _ _ (⟨(⟨#[48, 48, 48]⟩ : ByteArray), (⟨#[65, 80, 80, 82]⟩ : ByteArray), (⟨#[78, 79, 82, 77]⟩ : ByteArray)⟩ : S37) [.string (⟨#[48, 48, 48]⟩ : ByteArray), .string (⟨#[65, 80, 80, 82]⟩ : ByteArray), .string (⟨#[78, 79, 82, 77]⟩ : ByteArray)] from (k37_mkM _ _ _ (⟨(⟨#[48, 48, 48]⟩ : ByteArray), (⟨#[65, 80, 80, 82]⟩ : ByteArray), (⟨#[78, 79, 82, 77]⟩ : ByteArray)⟩ : S37) )) (Reps.c3 (show Kd.M k37 _ _ _ (⟨(⟨#[48, 48, 49]⟩ : ByteArray), (⟨#[65, 80, 80, 82]⟩ : ByteArray), (⟨#[73, 68, 69, 78]⟩ : ByteArray)⟩ : S37) [.string (⟨#[48, 48, 49]⟩ : ByteArray), .string (⟨#[65, 80, 80, 82]⟩ : ByteArray), .string (⟨#[73, 68, 69, 78]⟩ : ByteArray)] from (k37_mkM _ _ _ (⟨(⟨#[48, 48, 49]⟩ : ByteArray), (⟨#[65, 80, 80, 82]⟩ : ByteArray), (⟨#[73, 68, 69, 78]⟩ : ByteArray)⟩ : S37) )) (Reps.c3 (show Kd.M k37 _ _ _ (⟨(⟨#[48, 48, 50]⟩ : ByteArray), (⟨#[80, 65, 82, 84]⟩ : ByteArray), (⟨#[78, 79, 82, 77]⟩ : ByteArray)⟩ : S37) [.string (⟨#[48, 48, 50]⟩ : ByteArray), .string (⟨#[80, 65, 82, 84]⟩ : ByteArray), .string (⟨#[78, 79, 82, 77]⟩ : ByteArray)] from (k37_mkM _ _ _ (⟨(⟨#[48, 48, 50]⟩ : ByteArray), (⟨#[80, 65, 82, 84]⟩ : ByteArray), (⟨#[78, 79, 82, 77]⟩ : ByteArray)⟩ : S37) )) (Reps.c3 (show Kd.M k37 _ _ _ (⟨(⟨#[49, 48, 48]⟩ : ByteArray), (⟨#[68, 69, 67, 76]⟩ : ByteArray), (⟨#[78, 79, 82, 77]⟩ : ByteArray)⟩ : S37) [.string (⟨#[49, 48, 48]⟩ : ByteArray), .string (⟨#[68, 69, 67, 76]⟩ : ByteArray), .string (⟨#[78, 79, 82, 77]⟩ : ByteArray)] from (k37_mkM _ _ _ (⟨(⟨#[49, 48, 48]⟩ : ByteArray), (⟨#[68, 69, 67, 76]⟩ : ByteArray), (⟨#[78, 79, 82, 77]⟩ : ByteArray)⟩ : S37) )) (Reps.c3 (show Kd.M k37 _ _ _ (⟨(⟨#[49, 48, 49]⟩ : ByteArray), (⟨#[68, 69, 67, 76]⟩ : ByteArray), (⟨#[69, 88, 80, 68]⟩ : ByteArray)⟩ : S37) [.string (⟨#[49, 48, 49]⟩ : ByteArray), .string (⟨#[68, 69, 67, 76]⟩ : ByteArray), .string (⟨#[69, 88, 80, 68]⟩ : ByteArray)] from (k37_mkM _ _ _ (⟨(⟨#[49, 48, 49]⟩ : ByteArray), (⟨#[68, 69, 67, 76]⟩ : ByteArray), (⟨#[69, 88, 80, 68]⟩ : ByteArray)⟩ : S37) )) (Reps.c3 (show Kd.M k37 _ _ _ (⟨(⟨#[49, 48, 50]⟩ : ByteArray), (⟨#[68, 69, 67, 76]⟩ : ByteArray), (⟨#[70, 82, 65, 85]⟩ : ByteArray)⟩ : S37) [.string (⟨#[49, 48, 50]⟩ : ByteArray), .string (⟨#[68, 69, 67, 76]⟩ : ByteArray), .string (⟨#[70, 82, 65, 85]⟩ : ByteArray)] from (k37_mkM _ _ _ (⟨(⟨#[49, 48, 50]⟩ : ByteArray), (⟨#[68, 69, 67, 76]⟩ : ByteArray), (⟨#[70, 82, 65, 85]⟩ : ByteArray)⟩ : S37) )) (Reps.c3 (show Kd.M k37 _ _ _ (⟨(⟨#[49, 48, 52]⟩ : ByteArray), (⟨#[68, 69, 67, 76]⟩ : ByteArray), (⟨#[82, 69, 83, 84]⟩ : ByteArray)⟩ : S37) [.string (⟨#[49, 48, 52]⟩ : ByteArray), .string (⟨#[68, 69, 67, 76]⟩ : ByteArray), .string (⟨#[82, 69, 83, 84]⟩ : ByteArray)] from (k37_mkM _ _ _ (⟨(⟨#[49, 48, 52]⟩ : ByteArray), (⟨#[68, 69, 67, 76]⟩ : ByteArray), (⟨#[82, 69, 83, 84]⟩ : ByteArray)⟩ : S37) )) (Reps.c3 (show Kd.M k37 _ _ _ (⟨(⟨#[49, 48, 57]⟩ : ByteArray), (⟨#[68, 69, 67, 76]⟩ : ByteArray), (⟨#[77, 82, 67, 72]⟩ : ByteArray)⟩ : S37) [.string (⟨#[49, 48, 57]⟩ : ByteArray), .string (⟨#[68, 69, 67, 76]⟩ : ByteArray), .string (⟨#[77, 82, 67, 72]⟩ : ByteArray)] from (k37_mkM _ _ _ (⟨(⟨#[49, 48, 57]⟩ : ByteArray), (⟨#[68, 69, 67, 76]⟩ : ByteArray), (⟨#[77, 82, 67, 72]⟩ : ByteArray)⟩ : S37) )) (Reps.c3 (show Kd.M k37 _ _ _ (⟨(⟨#[49, 49, 48]⟩ : ByteArray), (⟨#[68, 69, 67, 76]⟩ : ByteArray), (⟨#[65, 77, 78, 84]⟩ : ByteArray)⟩ : S37) [.string (⟨#[49, 49, 48]⟩ : ByteArray), .string (⟨#[68, 69, 67, 76]⟩ : ByteArray), .string (⟨#[65, 77, 78, 84]⟩ : ByteArray)] from (k37_mkM _ _ _ (⟨(⟨#[49, 49, 48]⟩ : ByteArray), (⟨#[68, 69, 67, 76]⟩ : ByteArray), (⟨#[65, 77, 78, 84]⟩ : ByteArray)⟩ : S37) )) (Reps.c3 (show Kd.M k37 _ _ _ (⟨(⟨#[49, 49, 54]⟩ : ByteArray), (⟨#[68, 69, 67, 76]⟩ : ByteArray), (⟨#[73, 78, 83, 70]⟩ : ByteArray)⟩ : S37) [.string (⟨#[49, 49, 54]⟩ : ByteArray), .string (⟨#[68, 69, 67, 76]⟩ : ByteArray), .string (⟨#[73, 78, 83, 70]⟩ : ByteArray)] from (k37_mkM _ _ _ (⟨(⟨#[49, 49, 54]⟩ : ByteArray), (⟨#[68, 69, 67, 76]⟩ : ByteArray), (⟨#[73, 78, 83, 70]⟩ : ByteArray)⟩ : S37) )) (Reps.c3 (show Kd.M k37 _ _ _ (⟨(⟨#[49, 49, 55]⟩ : ByteArray), (⟨#[68, 69, 67, 76]⟩ : ByteArray), (⟨#[80, 73, 78, 86]⟩ : ByteArray)⟩ : S37) [.string (⟨#[49, 49, 55]⟩ : ByteArray), .string (⟨#[68, 69, 67, 76]⟩ : ByteArray), .string (⟨#[80, 73, 78, 86]⟩ : ByteArray)] from (k37_mkM _ _ _ (⟨(⟨#[49, 49, 55]⟩ : ByteArray), (⟨#[68, 69, 67, 76]⟩ : ByteArray), (⟨#[80, 73, 78, 86]⟩ : ByteArray)⟩ : S37) )) (Reps.c3 (show Kd.M k37 _ _ _ (⟨(⟨#[49, 49, 56]⟩ : ByteArray), (⟨#[68, 69, 67, 76]⟩ : ByteArray), (⟨#[78, 79, 67, 68]⟩ : ByteArray)⟩ : S37) [.string (⟨#[49, 49, 56]⟩ : ByteArray), .string (⟨#[68, 69, 67, 76]⟩ : ByteArray), .string (⟨#[78, 79, 67, 68]⟩ : ByteArray)] from (k37_mkM _ _ _ (⟨(⟨#[49, 49, 56]⟩ : ByteArray), (⟨#[68, 69, 67, 76]⟩ : ByteArray), (⟨#[78, 79, 67, 68]⟩ : ByteArray)⟩ : S37) )) (Reps.c3 (show Kd.M k37 _ _ _ (⟨(⟨#[49, 50, 49]⟩ : ByteArray), (⟨#[68, 69, 67, 76]⟩ : ByteArray), (⟨#[76, 73, 77, 84]⟩ : ByteArray)⟩ : S37) [.string (⟨#[49, 50, 49]⟩ : ByteArray), .string (⟨#[68, 69, 67, 76]⟩ : ByteArray), .string (⟨#[76, 73, 77, 84]⟩ : ByteArray)] from (k37_mkM _ _ _ (⟨(⟨#[49, 50, 49]⟩ : ByteArray), (⟨#[68, 69, 67, 76]⟩ : ByteArray), (⟨#[76, 73, 77, 84]⟩ : ByteArray)⟩ : S37) )) (Reps.c3 (show Kd.M k37 _ _ _ (⟨(⟨#[50, 48, 48]⟩ : ByteArray), (⟨#[80, 73, 67, 75]⟩ : ByteArray), (⟨#[78, 79, 82, 77]⟩ : ByteArray)⟩ : S37) [.string (⟨#[50, 48, 48]⟩ : ByteArray), .string (⟨#[80, 73, 67, 75]⟩ : ByteArray), .string (⟨#[78, 79, 82, 77]⟩ : ByteArray)] from (k37_mkM _ _ _ (⟨(⟨#[50, 48, 48]⟩ : ByteArray), (⟨#[80, 73, 67, 75]⟩ : ByteArray), (⟨#[78, 79, 82, 77]⟩ : ByteArray)⟩ : S37) )) (Reps.c3 (show Kd.M k37 _ _ _ (⟨(⟨#[52, 48, 48]⟩ : ByteArray), (⟨#[82, 86, 83, 76]⟩ : ByteArray), (⟨#[78, 79, 82, 77]⟩ : ByteArray)⟩ : S37) [.string (⟨#[52, 48, 48]⟩ : ByteArray), .string (⟨#[82, 86, 83, 76]⟩ : ByteArray), .string (⟨#[78, 79, 82, 77]⟩ : ByteArray)] from (k37_mkM _ _ _ (⟨(⟨#[52, 48, 48]⟩ : ByteArray), (⟨#[82, 86, 83, 76]⟩ : ByteArray), (⟨#[78, 79, 82, 77]⟩ : ByteArray)⟩ : S37) )) (Reps.c3 (show Kd.M k37 _ _ _ (⟨(⟨#[53, 48, 48]⟩ : ByteArray), (⟨#[82, 69, 67, 78]⟩ : ByteArray), (⟨#[78, 79, 82, 77]⟩ : ByteArray)⟩ : S37) [.string (⟨#[53, 48, 48]⟩ : ByteArray), .string (⟨#[82, 69, 67, 78]⟩ : ByteArray), .string (⟨#[78, 79, 82, 77]⟩ : ByteArray)] from (k37_mkM _ _ _ (⟨(⟨#[53, 48, 48]⟩ : ByteArray), (⟨#[82, 69, 67, 78]⟩ : ByteArray), (⟨#[78, 79, 82, 77]⟩ : ByteArray)⟩ : S37) )) (Reps.c3 (show Kd.M k37 _ _ _ (⟨(⟨#[56, 48, 48]⟩ : ByteArray), (⟨#[78, 69, 84, 87]⟩ : ByteArray), (⟨#[78, 79, 82, 77]⟩ : ByteArray)⟩ : S37) [.string (⟨#[56, 48, 48]⟩ : ByteArray), .string (⟨#[78, 69, 84, 87]⟩ : ByteArray), .string (⟨#[78, 79, 82, 77]⟩ : ByteArray)] from (k37_mkM _ _ _ (⟨(⟨#[56, 48, 48]⟩ : ByteArray), (⟨#[78, 69, 84, 87]⟩ : ByteArray), (⟨#[78, 79, 82, 77]⟩ : ByteArray)⟩ : S37) )) (Reps.c3 (show Kd.M k37 _ _ _ (⟨(⟨#[57, 48, 52]⟩ : ByteArray), (⟨#[84, 69, 67, 72]⟩ : ByteArray), (⟨#[70, 79, 82, 77]⟩ : ByteArray)⟩ : S37) [.string (⟨#[57, 48, 52]⟩ : ByteArray), .string (⟨#[84, 69, 67, 72]⟩ : ByteArray), .string (⟨#[70, 79, 82, 77]⟩ : ByteArray)] from (k37_mkM _ _ _ (⟨(⟨#[57, 48, 52]⟩ : ByteArray), (⟨#[84, 69, 67, 72]⟩ : ByteArray), (⟨#[70, 79, 82, 77]⟩ : ByteArray)⟩ : S37) )) (Reps.c3 (show Kd.M k37 _ _ _ (⟨(⟨#[57, 48, 55]⟩ : ByteArray), (⟨#[84, 69, 67, 72]⟩ : ByteArray), (⟨#[73, 83, 83, 82]⟩ : ByteArray)⟩ : S37) [.string (⟨#[57, 48, 55]⟩ : ByteArray), .string (⟨#[84, 69, 67, 72]⟩ : ByteArray), .string (⟨#[73, 83, 83, 82]⟩ : ByteArray)] from (k37_mkM _ _ _ (⟨(⟨#[57, 48, 55]⟩ : ByteArray), (⟨#[84, 69, 67, 72]⟩ : ByteArray), (⟨#[73, 83, 83, 82]⟩ : ByteArray)⟩ : S37) )) (Reps.c3 (show Kd.M k37 _ _ _ (⟨(⟨#[57, 48, 57]⟩ : ByteArray), (⟨#[84, 69, 67, 72]⟩ : ByteArray), (⟨#[66, 85, 83, 89]⟩ : ByteArray)⟩ : S37) [.string (⟨#[57, 48, 57]⟩ : ByteArray), .string (⟨#[84, 69, 67, 72]⟩ : ByteArray), .string (⟨#[66, 85, 83, 89]⟩ : ByteArray)] from (k37_mkM _ _ _ (⟨(⟨#[57, 48, 57]⟩ : ByteArray), (⟨#[84, 69, 67, 72]⟩ : ByteArray), (⟨#[66, 85, 83, 89]⟩ : ByteArray)⟩ : S37) )) (Reps.c3 (show Kd.M k37 _ _ _ (⟨(⟨#[57, 49, 49]⟩ : ByteArray), (⟨#[84, 69, 67, 72]⟩ : ByteArray), (⟨#[84, 73, 77, 79]⟩ : ByteArray)⟩ : S37) [.string (⟨#[57, 49, 49]⟩ : ByteArray), .string (⟨#[84, 69, 67, 72]⟩ : ByteArray), .string (⟨#[84, 73, 77, 79]⟩ : ByteArray)] from (k37_mkM _ _ _ (⟨(⟨#[57, 49, 49]⟩ : ByteArray), (⟨#[84, 69, 67, 72]⟩ : ByteArray), (⟨#[84, 73, 77, 79]⟩ : ByteArray)⟩ : S37) )) (Reps.c3 (show Kd.M k37 _ _ _ (⟨(⟨#[57, 49, 50]⟩ : ByteArray), (⟨#[84, 69, 67, 72]⟩ : ByteArray), (⟨#[68, 79, 87, 78]⟩ : ByteArray)⟩ : S37) [.string (⟨#[57, 49, 50]⟩ : ByteArray), .string (⟨#[84, 69, 67, 72]⟩ : ByteArray), .string (⟨#[68, 79, 87, 78]⟩ : ByteArray)] from (k37_mkM _ _ _ (⟨(⟨#[57, 49, 50]⟩ : ByteArray), (⟨#[84, 69, 67, 72]⟩ : ByteArray), (⟨#[68, 79, 87, 78]⟩ : ByteArray)⟩ : S37) )) (Reps.none _ _)))))))))))))))))))))))); intro v102 w1 ho2 hb hg_ hnew_; clear hg_ hnew_; (first | rw [← Ny101.out] at ho2 | (simp only [Int.reduceToNat] at ho2; rw [← Ny101.out] at ho2)); have n0_ := Aside0.mk (Kd.R_lower ho2 (below_size (by repeat (first | (with_reducible first | exact HB.out | apply below_alloc | apply pw_below_drewN | apply below_drew1) | exact HB.out)))); have n1_ := Aside0.mk (below_step (by repeat (first | (with_reducible first | exact HB.out | apply below_alloc | apply pw_below_drewN | apply below_drew1) | exact HB.out)) hb); clear HB; have HO103 := n0_; have HB := n1_; clear n0_ n1_; clear hb ho2))
  go_ret
  exact ⟨_, by first | rfl | (simp [errW_none, errW_some] <;> rfl) | (simp [*, errW_none, errW_some] <;> rfl), by (with_reducible repeat (first | apply Kd.R_alloc | apply Kd.R_drewN | apply Kd.R_drew)); exact HO103.out, by repeat (first | (with_reducible first | exact HB.out | apply below_alloc | apply pw_below_drewN | apply below_drew1) | exact HB.out)⟩

-- NOT PRINTED: function 25 (codes_row)

-- NOT PRINTED: function 18 (codes_find)

/-! ### comptoirref07_table: function 20 -/
def comptoirref07_table.f  : Option (List ByteArray) := some (([(⟨#[48, 48, 48, 65, 80, 80, 82, 78, 79, 82, 77]⟩ : ByteArray), (⟨#[48, 48, 49, 65, 80, 80, 82, 73, 68, 69, 78]⟩ : ByteArray), (⟨#[48, 48, 50, 80, 65, 82, 84, 78, 79, 82, 77]⟩ : ByteArray), (⟨#[49, 48, 48, 68, 69, 67, 76, 78, 79, 82, 77]⟩ : ByteArray), (⟨#[49, 48, 49, 68, 69, 67, 76, 69, 88, 80, 68]⟩ : ByteArray), (⟨#[49, 48, 50, 68, 69, 67, 76, 70, 82, 65, 85]⟩ : ByteArray), (⟨#[49, 48, 52, 68, 69, 67, 76, 82, 69, 83, 84]⟩ : ByteArray), (⟨#[49, 48, 57, 68, 69, 67, 76, 77, 82, 67, 72]⟩ : ByteArray), (⟨#[49, 49, 48, 68, 69, 67, 76, 65, 77, 78, 84]⟩ : ByteArray), (⟨#[49, 49, 54, 68, 69, 67, 76, 73, 78, 83, 70]⟩ : ByteArray), (⟨#[49, 49, 55, 68, 69, 67, 76, 80, 73, 78, 86]⟩ : ByteArray), (⟨#[49, 49, 56, 68, 69, 67, 76, 78, 79, 67, 68]⟩ : ByteArray), (⟨#[49, 50, 49, 68, 69, 67, 76, 76, 73, 77, 84]⟩ : ByteArray), (⟨#[50, 48, 48, 80, 73, 67, 75, 78, 79, 82, 77]⟩ : ByteArray), (⟨#[52, 48, 48, 82, 86, 83, 76, 78, 79, 82, 77]⟩ : ByteArray), (⟨#[53, 48, 48, 82, 69, 67, 78, 78, 79, 82, 77]⟩ : ByteArray), (⟨#[56, 48, 48, 78, 69, 84, 87, 78, 79, 82, 77]⟩ : ByteArray), (⟨#[57, 48, 52, 84, 69, 67, 72, 70, 79, 82, 77]⟩ : ByteArray), (⟨#[57, 48, 55, 84, 69, 67, 72, 73, 83, 83, 82]⟩ : ByteArray), (⟨#[57, 48, 57, 84, 69, 67, 72, 66, 85, 83, 89]⟩ : ByteArray), (⟨#[57, 49, 49, 84, 69, 67, 72, 84, 73, 77, 79]⟩ : ByteArray), (⟨#[57, 49, 50, 84, 69, 67, 72, 68, 79, 87, 78]⟩ : ByteArray)] : List ByteArray))
set_option maxHeartbeats 8000000 in
set_option maxRecDepth 100000 in
theorem comptoirref07_table.calls  (r : List ByteArray) (w : World) (h : comptoirref07_table.f  = some r) :
    Calls Try.prog 20 #[] w fun e w' => ∃ v0_ : Value, e = .returned (v0_) ∧ Kd.R Kd.string 9 w' w.heap.size (fun _ => True) v0_ r ∧ Below w.heap.size w w' := by
  have HB := Aside0.mk (Below.refl w.heap.size w)
  have H : (some (([(⟨#[48, 48, 48, 65, 80, 80, 82, 78, 79, 82, 77]⟩ : ByteArray), (⟨#[48, 48, 49, 65, 80, 80, 82, 73, 68, 69, 78]⟩ : ByteArray), (⟨#[48, 48, 50, 80, 65, 82, 84, 78, 79, 82, 77]⟩ : ByteArray), (⟨#[49, 48, 48, 68, 69, 67, 76, 78, 79, 82, 77]⟩ : ByteArray), (⟨#[49, 48, 49, 68, 69, 67, 76, 69, 88, 80, 68]⟩ : ByteArray), (⟨#[49, 48, 50, 68, 69, 67, 76, 70, 82, 65, 85]⟩ : ByteArray), (⟨#[49, 48, 52, 68, 69, 67, 76, 82, 69, 83, 84]⟩ : ByteArray), (⟨#[49, 48, 57, 68, 69, 67, 76, 77, 82, 67, 72]⟩ : ByteArray), (⟨#[49, 49, 48, 68, 69, 67, 76, 65, 77, 78, 84]⟩ : ByteArray), (⟨#[49, 49, 54, 68, 69, 67, 76, 73, 78, 83, 70]⟩ : ByteArray), (⟨#[49, 49, 55, 68, 69, 67, 76, 80, 73, 78, 86]⟩ : ByteArray), (⟨#[49, 49, 56, 68, 69, 67, 76, 78, 79, 67, 68]⟩ : ByteArray), (⟨#[49, 50, 49, 68, 69, 67, 76, 76, 73, 77, 84]⟩ : ByteArray), (⟨#[50, 48, 48, 80, 73, 67, 75, 78, 79, 82, 77]⟩ : ByteArray), (⟨#[52, 48, 48, 82, 86, 83, 76, 78, 79, 82, 77]⟩ : ByteArray), (⟨#[53, 48, 48, 82, 69, 67, 78, 78, 79, 82, 77]⟩ : ByteArray), (⟨#[56, 48, 48, 78, 69, 84, 87, 78, 79, 82, 77]⟩ : ByteArray), (⟨#[57, 48, 52, 84, 69, 67, 72, 70, 79, 82, 77]⟩ : ByteArray), (⟨#[57, 48, 55, 84, 69, 67, 72, 73, 83, 83, 82]⟩ : ByteArray), (⟨#[57, 48, 57, 84, 69, 67, 72, 66, 85, 83, 89]⟩ : ByteArray), (⟨#[57, 49, 49, 84, 69, 67, 72, 84, 73, 77, 79]⟩ : ByteArray), (⟨#[57, 49, 50, 84, 69, 67, 72, 68, 79, 87, 78]⟩ : ByteArray)] : List ByteArray))) = some r := h
  clear h
  obtain ⟨y104, hy104⟩ : ∃ y_ : List ByteArray, y_ = (([(⟨#[48, 48, 48, 65, 80, 80, 82, 78, 79, 82, 77]⟩ : ByteArray), (⟨#[48, 48, 49, 65, 80, 80, 82, 73, 68, 69, 78]⟩ : ByteArray), (⟨#[48, 48, 50, 80, 65, 82, 84, 78, 79, 82, 77]⟩ : ByteArray), (⟨#[49, 48, 48, 68, 69, 67, 76, 78, 79, 82, 77]⟩ : ByteArray), (⟨#[49, 48, 49, 68, 69, 67, 76, 69, 88, 80, 68]⟩ : ByteArray), (⟨#[49, 48, 50, 68, 69, 67, 76, 70, 82, 65, 85]⟩ : ByteArray), (⟨#[49, 48, 52, 68, 69, 67, 76, 82, 69, 83, 84]⟩ : ByteArray), (⟨#[49, 48, 57, 68, 69, 67, 76, 77, 82, 67, 72]⟩ : ByteArray), (⟨#[49, 49, 48, 68, 69, 67, 76, 65, 77, 78, 84]⟩ : ByteArray), (⟨#[49, 49, 54, 68, 69, 67, 76, 73, 78, 83, 70]⟩ : ByteArray), (⟨#[49, 49, 55, 68, 69, 67, 76, 80, 73, 78, 86]⟩ : ByteArray), (⟨#[49, 49, 56, 68, 69, 67, 76, 78, 79, 67, 68]⟩ : ByteArray), (⟨#[49, 50, 49, 68, 69, 67, 76, 76, 73, 77, 84]⟩ : ByteArray), (⟨#[50, 48, 48, 80, 73, 67, 75, 78, 79, 82, 77]⟩ : ByteArray), (⟨#[52, 48, 48, 82, 86, 83, 76, 78, 79, 82, 77]⟩ : ByteArray), (⟨#[53, 48, 48, 82, 69, 67, 78, 78, 79, 82, 77]⟩ : ByteArray), (⟨#[56, 48, 48, 78, 69, 84, 87, 78, 79, 82, 77]⟩ : ByteArray), (⟨#[57, 48, 52, 84, 69, 67, 72, 70, 79, 82, 77]⟩ : ByteArray), (⟨#[57, 48, 55, 84, 69, 67, 72, 73, 83, 83, 82]⟩ : ByteArray), (⟨#[57, 48, 57, 84, 69, 67, 72, 66, 85, 83, 89]⟩ : ByteArray), (⟨#[57, 49, 49, 84, 69, 67, 72, 84, 73, 77, 79]⟩ : ByteArray), (⟨#[57, 49, 50, 84, 69, 67, 72, 68, 79, 87, 78]⟩ : ByteArray)] : List ByteArray)) := ⟨_, rfl⟩
  replace H : (some y104) = some r := by first | (rw [hy104]; with_reducible exact H) | (have H2_ := (Option.bind_some _ _).symm.trans H; rw [hy104]; with_reducible exact H2_) | (have H2_ := (Option.bind_some _ _).symm.trans H; with_reducible exact H2_) | with_reducible exact H | (rw [hy104]; exact H) | exact H
  have Ny104 := Aside0.mk hy104
  clear hy104
  obtain rfl := Option.some.inj H
  go_enter Try.func20, Try.ntmps20
  go_wp2_with (first | ((with_reducible refine gate_dst (N := 1) rfl ?_); refine Kd.R_lit Kd.string _ 9 ?hg (N := 1) ?hd (xs := ([(⟨#[48, 48, 48, 65, 80, 80, 82, 78, 79, 82, 77]⟩ : ByteArray), (⟨#[48, 48, 49, 65, 80, 80, 82, 73, 68, 69, 78]⟩ : ByteArray), (⟨#[48, 48, 50, 80, 65, 82, 84, 78, 79, 82, 77]⟩ : ByteArray), (⟨#[49, 48, 48, 68, 69, 67, 76, 78, 79, 82, 77]⟩ : ByteArray), (⟨#[49, 48, 49, 68, 69, 67, 76, 69, 88, 80, 68]⟩ : ByteArray), (⟨#[49, 48, 50, 68, 69, 67, 76, 70, 82, 65, 85]⟩ : ByteArray), (⟨#[49, 48, 52, 68, 69, 67, 76, 82, 69, 83, 84]⟩ : ByteArray), (⟨#[49, 48, 57, 68, 69, 67, 76, 77, 82, 67, 72]⟩ : ByteArray), (⟨#[49, 49, 48, 68, 69, 67, 76, 65, 77, 78, 84]⟩ : ByteArray), (⟨#[49, 49, 54, 68, 69, 67, 76, 73, 78, 83, 70]⟩ : ByteArray), (⟨#[49, 49, 55, 68, 69, 67, 76, 80, 73, 78, 86]⟩ : ByteArray), (⟨#[49, 49, 56, 68, 69, 67, 76, 78, 79, 67, 68]⟩ : ByteArray), (⟨#[49, 50, 49, 68, 69, 67, 76, 76, 73, 77, 84]⟩ : ByteArray), (⟨#[50, 48, 48, 80, 73, 67, 75, 78, 79, 82, 77]⟩ : ByteArray), (⟨#[52, 48, 48, 82, 86, 83, 76, 78, 79, 82, 77]⟩ : ByteArray), (⟨#[53, 48, 48, 82, 69, 67, 78, 78, 79, 82, 77]⟩ : ByteArray), (⟨#[56, 48, 48, 78, 69, 84, 87, 78, 79, 82, 77]⟩ : ByteArray), (⟨#[57, 48, 52, 84, 69, 67, 72, 70, 79, 82, 77]⟩ : ByteArray), (⟨#[57, 48, 55, 84, 69, 67, 72, 73, 83, 83, 82]⟩ : ByteArray), (⟨#[57, 48, 57, 84, 69, 67, 72, 66, 85, 83, 89]⟩ : ByteArray), (⟨#[57, 49, 49, 84, 69, 67, 72, 84, 73, 77, 79]⟩ : ByteArray), (⟨#[57, 49, 50, 84, 69, 67, 72, 68, 79, 87, 78]⟩ : ByteArray)] : List ByteArray)) (inner := [.string (⟨#[48, 48, 48, 65, 80, 80, 82, 78, 79, 82, 77]⟩ : ByteArray), .string (⟨#[48, 48, 49, 65, 80, 80, 82, 73, 68, 69, 78]⟩ : ByteArray), .string (⟨#[48, 48, 50, 80, 65, 82, 84, 78, 79, 82, 77]⟩ : ByteArray), .string (⟨#[49, 48, 48, 68, 69, 67, 76, 78, 79, 82, 77]⟩ : ByteArray), .string (⟨#[49, 48, 49, 68, 69, 67, 76, 69, 88, 80, 68]⟩ : ByteArray), .string (⟨#[49, 48, 50, 68, 69, 67, 76, 70, 82, 65, 85]⟩ : ByteArray), .string (⟨#[49, 48, 52, 68, 69, 67, 76, 82, 69, 83, 84]⟩ : ByteArray), .string (⟨#[49, 48, 57, 68, 69, 67, 76, 77, 82, 67, 72]⟩ : ByteArray), .string (⟨#[49, 49, 48, 68, 69, 67, 76, 65, 77, 78, 84]⟩ : ByteArray), .string (⟨#[49, 49, 54, 68, 69, 67, 76, 73, 78, 83, 70]⟩ : ByteArray), .string (⟨#[49, 49, 55, 68, 69, 67, 76, 80, 73, 78, 86]⟩ : ByteArray), .string (⟨#[49, 49, 56, 68, 69, 67, 76, 78, 79, 67, 68]⟩ : ByteArray), .string (⟨#[49, 50, 49, 68, 69, 67, 76, 76, 73, 77, 84]⟩ : ByteArray), .string (⟨#[50, 48, 48, 80, 73, 67, 75, 78, 79, 82, 77]⟩ : ByteArray), .string (⟨#[52, 48, 48, 82, 86, 83, 76, 78, 79, 82, 77]⟩ : ByteArray), .string (⟨#[53, 48, 48, 82, 69, 67, 78, 78, 79, 82, 77]⟩ : ByteArray), .string (⟨#[56, 48, 48, 78, 69, 84, 87, 78, 79, 82, 77]⟩ : ByteArray), .string (⟨#[57, 48, 52, 84, 69, 67, 72, 70, 79, 82, 77]⟩ : ByteArray), .string (⟨#[57, 48, 55, 84, 69, 67, 72, 73, 83, 83, 82]⟩ : ByteArray), .string (⟨#[57, 48, 57, 84, 69, 67, 72, 66, 85, 83, 89]⟩ : ByteArray), .string (⟨#[57, 49, 49, 84, 69, 67, 72, 84, 73, 77, 79]⟩ : ByteArray), .string (⟨#[57, 49, 50, 84, 69, 67, 72, 68, 79, 87, 78]⟩ : ByteArray)]) (ok := fun _ => True) (okp := fun _ => True) ?hr ?hp (fun _ hk => hk) trivial (Below.refl _ _) (Nat.le_refl _) (by simp) ?_; (case hd => rfl); (case hg => rfl); (case hr => first | (go_simp; done) | (go_simp; rfl)); (case hp => exact (Reps.one (show Kd.M Kd.string _ _ _ (⟨#[48, 48, 48, 65, 80, 80, 82, 78, 79, 82, 77]⟩ : ByteArray) [.string (⟨#[48, 48, 48, 65, 80, 80, 82, 78, 79, 82, 77]⟩ : ByteArray)] from rfl) (Reps.one (show Kd.M Kd.string _ _ _ (⟨#[48, 48, 49, 65, 80, 80, 82, 73, 68, 69, 78]⟩ : ByteArray) [.string (⟨#[48, 48, 49, 65, 80, 80, 82, 73, 68, 69, 78]⟩ : ByteArray)] from rfl) (Reps.one (show Kd.M Kd.string _ _ _ (⟨#[48, 48, 50, 80, 65, 82, 84, 78, 79, 82, 77]⟩ : ByteArray) [.string (⟨#[48, 48, 50, 80, 65, 82, 84, 78, 79, 82, 77]⟩ : ByteArray)] from rfl) (Reps.one (show Kd.M Kd.string _ _ _ (⟨#[49, 48, 48, 68, 69, 67, 76, 78, 79, 82, 77]⟩ : ByteArray) [.string (⟨#[49, 48, 48, 68, 69, 67, 76, 78, 79, 82, 77]⟩ : ByteArray)] from rfl) (Reps.one (show Kd.M Kd.string _ _ _ (⟨#[49, 48, 49, 68, 69, 67, 76, 69, 88, 80, 68]⟩ : ByteArray) [.string (⟨#[49, 48, 49, 68, 69, 67, 76, 69, 88, 80, 68]⟩ : ByteArray)] from rfl) (Reps.one (show Kd.M Kd.string _ _ _ (⟨#[49, 48, 50, 68, 69, 67, 76, 70, 82, 65, 85]⟩ : ByteArray) [.string (⟨#[49, 48, 50, 68, 69, 67, 76, 70, 82, 65, 85]⟩ : ByteArray)] from rfl) (Reps.one (show Kd.M Kd.string _ _ _ (⟨#[49, 48, 52, 68, 69, 67, 76, 82, 69, 83, 84]⟩ : ByteArray) [.string (⟨#[49, 48, 52, 68, 69, 67, 76, 82, 69, 83, 84]⟩ : ByteArray)] from rfl) (Reps.one (show Kd.M Kd.string _ _ _ (⟨#[49, 48, 57, 68, 69, 67, 76, 77, 82, 67, 72]⟩ : ByteArray) [.string (⟨#[49, 48, 57, 68, 69, 67, 76, 77, 82, 67, 72]⟩ : ByteArray)] from rfl) (Reps.one (show Kd.M Kd.string _ _ _ (⟨#[49, 49, 48, 68, 69, 67, 76, 65, 77, 78, 84]⟩ : ByteArray) [.string (⟨#[49, 49, 48, 68, 69, 67, 76, 65, 77, 78, 84]⟩ : ByteArray)] from rfl) (Reps.one (show Kd.M Kd.string _ _ _ (⟨#[49, 49, 54, 68, 69, 67, 76, 73, 78, 83, 70]⟩ : ByteArray) [.string (⟨#[49, 49, 54, 68, 69, 67, 76, 73, 78, 83, 70]⟩ : ByteArray)] from rfl) (Reps.one (show Kd.M Kd.string _ _ _ (⟨#[49, 49, 55, 68, 69, 67, 76, 80, 73, 78, 86]⟩ : ByteArray) [.string (⟨#[49, 49, 55, 68, 69, 67, 76, 80, 73, 78, 86]⟩ : ByteArray)] from rfl) (Reps.one (show Kd.M Kd.string _ _ _ (⟨#[49, 49, 56, 68, 69, 67, 76, 78, 79, 67, 68]⟩ : ByteArray) [.string (⟨#[49, 49, 56, 68, 69, 67, 76, 78, 79, 67, 68]⟩ : ByteArray)] from rfl) (Reps.one (show Kd.M Kd.string _ _ _ (⟨#[49, 50, 49, 68, 69, 67, 76, 76, 73, 77, 84]⟩ : ByteArray) [.string (⟨#[49, 50, 49, 68, 69, 67, 76, 76, 73, 77, 84]⟩ : ByteArray)] from rfl) (Reps.one (show Kd.M Kd.string _ _ _ (⟨#[50, 48, 48, 80, 73, 67, 75, 78, 79, 82, 77]⟩ : ByteArray) [.string (⟨#[50, 48, 48, 80, 73, 67, 75, 78, 79, 82, 77]⟩ : ByteArray)] from rfl) (Reps.one (show Kd.M Kd.string _ _ _ (⟨#[52, 48, 48, 82, 86, 83, 76, 78, 79, 82, 77]⟩ : ByteArray) [.string (⟨#[52, 48, 48, 82, 86, 83, 76, 78, 79, 82, 77]⟩ : ByteArray)] from rfl) (Reps.one (show Kd.M Kd.string _ _ _ (⟨#[53, 48, 48, 82, 69, 67, 78, 78, 79, 82, 77]⟩ : ByteArray) [.string (⟨#[53, 48, 48, 82, 69, 67, 78, 78, 79, 82, 77]⟩ : ByteArray)] from rfl) (Reps.one (show Kd.M Kd.string _ _ _ (⟨#[56, 48, 48, 78, 69, 84, 87, 78, 79, 82, 77]⟩ : ByteArray) [.string (⟨#[56, 48, 48, 78, 69, 84, 87, 78, 79, 82, 77]⟩ : ByteArray)] from rfl) (Reps.one (show Kd.M Kd.string _ _ _ (⟨#[57, 48, 52, 84, 69, 67, 72, 70, 79, 82, 77]⟩ : ByteArray) [.string (⟨#[57, 48, 52, 84, 69, 67, 72, 70, 79, 82, 77]⟩ : ByteArray)] from rfl) (Reps.one (show Kd.M Kd.string _ _ _ (⟨#[57, 48, 55, 84, 69, 67, 72, 73, 83, 83, 82]⟩ : ByteArray) [.string (⟨#[57, 48, 55, 84, 69, 67, 72, 73, 83, 83, 82]⟩ : ByteArray)] from rfl) (Reps.one (show Kd.M Kd.string _ _ _ (⟨#[57, 48, 57, 84, 69, 67, 72, 66, 85, 83, 89]⟩ : ByteArray) [.string (⟨#[57, 48, 57, 84, 69, 67, 72, 66, 85, 83, 89]⟩ : ByteArray)] from rfl) (Reps.one (show Kd.M Kd.string _ _ _ (⟨#[57, 49, 49, 84, 69, 67, 72, 84, 73, 77, 79]⟩ : ByteArray) [.string (⟨#[57, 49, 49, 84, 69, 67, 72, 84, 73, 77, 79]⟩ : ByteArray)] from rfl) (Reps.one (show Kd.M Kd.string _ _ _ (⟨#[57, 49, 50, 84, 69, 67, 72, 68, 79, 87, 78]⟩ : ByteArray) [.string (⟨#[57, 49, 50, 84, 69, 67, 72, 68, 79, 87, 78]⟩ : ByteArray)] from rfl) (Reps.none _ _)))))))))))))))))))))))); intro v105 w1 ho2 hb hg_ hnew_; clear hg_ hnew_; (first | rw [← Ny104.out] at ho2 | (simp only [Int.reduceToNat] at ho2; rw [← Ny104.out] at ho2)); have n0_ := Aside0.mk (Kd.R_lower ho2 (below_size (by repeat (first | (with_reducible first | exact HB.out | apply below_alloc | apply pw_below_drewN | apply below_drew1) | exact HB.out)))); have n1_ := Aside0.mk (below_step (by repeat (first | (with_reducible first | exact HB.out | apply below_alloc | apply pw_below_drewN | apply below_drew1) | exact HB.out)) hb); clear HB; have HO106 := n0_; have HB := n1_; clear n0_ n1_; clear hb ho2))
  go_ret
  exact ⟨_, by first | rfl | (simp [errW_none, errW_some] <;> rfl) | (simp [*, errW_none, errW_some] <;> rfl), by (with_reducible repeat (first | apply Kd.R_alloc | apply Kd.R_drewN | apply Kd.R_drew)); exact HO106.out, by repeat (first | (with_reducible first | exact HB.out | apply below_alloc | apply pw_below_drewN | apply below_drew1) | exact HB.out)⟩

/-! ### comptoirref07_Words: function 7 -/
def comptoirref07_Words.l0 : Nat → ByteArray → List ByteArray → Int → Option (ByteArray × ByteArray × Bool)
  | 0, _, _, _ => none
  | k + 1, x0, x5, x6 => if x6 < (x5.length : Int) then (if 0 ≤ x6 then (if 0 ≤ 3 then (if 3 ≤ ((rdOf ByteArray.empty x5 x6).size : Int) then (if ((rdOf ByteArray.empty x5 x6).extract 0 3).toList = x0.toList then (if 3 ≤ 7 then (if 7 ≤ ((rdOf ByteArray.empty x5 x6).size : Int) then (some ((rdOf ByteArray.empty x5 x6).extract 3 7, (rdOf ByteArray.empty x5 x6).extract 7 (rdOf ByteArray.empty x5 x6).size, true)) else (none)) else (none)) else (comptoirref07_Words.l0 k x0 x5 (wrap64 (x6 + 1)))) else (none)) else (none)) else (none)) else (some ((⟨#[]⟩ : ByteArray), (⟨#[]⟩ : ByteArray), false))
def comptoirref07_Words.f (k : Nat) (a0 : ByteArray) : Option (ByteArray × ByteArray × Bool) := (comptoirref07_table.f).bind fun t107 => (comptoirref07_Words.l0 k a0 t107 0)
theorem comptoirref07_Words.mono_l : ∀ k, (∀ y0 y1 y2, LeO (comptoirref07_Words.l0 k y0 y1 y2) (comptoirref07_Words.l0 (k + 1) y0 y1 y2))
  | 0 => fun _ _ _ r h => by simp [comptoirref07_Words.l0] at h
  | k + 1 => by
    have ih0 := comptoirref07_Words.mono_l k
    · intro y0 y1 y2
      unfold comptoirref07_Words.l0
      repeat' first
      | (with_reducible exact ih0 _ _ _)
      | (with_reducible exact LeO.refl _)
      | (with_reducible exact LeO.none _)
      | (with_reducible refine LeO.ite ?_ ?_)
      | (with_reducible refine LeO.bind ?_ (fun _ => ?_))
      | exact ih0 _ _ _
      | exact LeO.none _
      | refine LeO.ite ?_ ?_
      | refine LeO.bind ?_ (fun _ => ?_)
theorem comptoirref07_Words.mono : ∀ a0 k, LeO (comptoirref07_Words.f k a0) (comptoirref07_Words.f (k + 1) a0) := by
  intro a0 k
  have ih0 := comptoirref07_Words.mono_l k
  unfold comptoirref07_Words.f
  repeat' first
      | (with_reducible exact ih0 _ _ _)
      | (with_reducible exact LeO.refl _)
      | (with_reducible exact LeO.none _)
      | (with_reducible refine LeO.ite ?_ ?_)
      | (with_reducible refine LeO.bind ?_ (fun _ => ?_))
      | exact ih0 _ _ _
      | exact LeO.none _
      | refine LeO.ite ?_ ?_
      | refine LeO.bind ?_ (fun _ => ?_)
set_option maxHeartbeats 8000000 in
set_option maxRecDepth 100000 in
theorem comptoirref07_Words.calls (k : Nat) (a0 : ByteArray) (r1 : ByteArray) (r2 : ByteArray) (r3 : Bool) (w : World) (h : comptoirref07_Words.f k a0 = some (r1, r2, r3)) :
    Calls Try.prog 7 #[.string a0] w fun e w' => e = .returned (.tuple #[.string r1, .string r2, .bool r3]) ∧ Below w.heap.size w w' := by
  have HB := Aside0.mk (Below.refl w.heap.size w)
  have H : ((comptoirref07_table.f).bind fun t107 => (comptoirref07_Words.l0 k a0 t107 0)) = some (r1, r2, r3) := h
  clear h
  replace H := Option.bind_eq_some_iff.mp H
  obtain ⟨t107, A20, H⟩ := H
  replace H : (comptoirref07_Words.l0 k a0 t107 0) = some (r1, r2, r3) := H
  have A2 := Aside0.mk A20
  clear A20
  have H' := Aside0.mk H
  clear H
  go_enter Try.func7, Try.ntmps7
  go_wp2_with (first | (go_at_call 20; (with_reducible refine (comptoirref07_table.calls  t107 _ A2.out).mono ?_); rintro e w3 ⟨v108, rfl, ho0, hb⟩; have n0_ := Aside0.mk (Kd.R_lower ho0 (below_size (by repeat (first | (with_reducible first | exact HB.out | apply below_alloc | apply pw_below_drewN | apply below_drew1) | exact HB.out)))); have n1_ := Aside0.mk (below_step (by repeat (first | (with_reducible first | exact HB.out | apply below_alloc | apply pw_below_drewN | apply below_drew1) | exact HB.out)) hb); clear HB; have HO109 := n0_; have HB := n1_; clear n0_ n1_; (try clear hb); (try clear hb2); (try clear hk); (try clear hi); (try clear ho0)))
  repeat (go_quiet (first | (go_at_call 20; (with_reducible refine (comptoirref07_table.calls  t107 _ A2.out).mono ?_); rintro e w3 ⟨v108, rfl, ho0, hb⟩; have n0_ := Aside0.mk (Kd.R_lower ho0 (below_size (by repeat (first | (with_reducible first | exact HB.out | apply below_alloc | apply pw_below_drewN | apply below_drew1) | exact HB.out)))); have n1_ := Aside0.mk (below_step (by repeat (first | (with_reducible first | exact HB.out | apply below_alloc | apply pw_below_drewN | apply below_drew1) | exact HB.out)) hb); clear HB; have HO109 := n0_; have HB := n1_; clear n0_ n1_; (try clear hb); (try clear hb2); (try clear hk); (try clear hi); (try clear ho0))); try go_wp2_with (first | (go_at_call 20; (with_reducible refine (comptoirref07_table.calls  t107 _ A2.out).mono ?_); rintro e w3 ⟨v108, rfl, ho0, hb⟩; have n0_ := Aside0.mk (Kd.R_lower ho0 (below_size (by repeat (first | (with_reducible first | exact HB.out | apply below_alloc | apply pw_below_drewN | apply below_drew1) | exact HB.out)))); have n1_ := Aside0.mk (below_step (by repeat (first | (with_reducible first | exact HB.out | apply below_alloc | apply pw_below_drewN | apply below_drew1) | exact HB.out)) hb); clear HB; have HO109 := n0_; have HB := n1_; clear n0_ n1_; (try clear hb); (try clear hb2); (try clear hk); (try clear hi); (try clear ho0))))
  go_loopg [6] k (fun kq v6 w' => ∃ (x6_1 : Int), v6 = .int .i64 x6_1 ∧ Aside0 (comptoirref07_Words.l0 kq a0 t107 x6_1 = some (r1, r2, r3)) ∧ Aside0 (kq ≤ k) ∧ Aside0 (Kd.R Kd.string 9 w' w.heap.size (fun _ => True) v108 t107) ∧ Aside0 (Below w.heap.size w w'))
  case atStart => exact ⟨(0), (by first | rfl | (simp; done) | (simp [*]; done)), H', ⟨Nat.le_refl _⟩, ⟨by (with_reducible repeat (first | apply Kd.R_alloc | apply Kd.R_drewN | apply Kd.R_drew)); exact HO109.out⟩, ⟨by repeat (first | (with_reducible first | exact HB.out | apply below_alloc | apply pw_below_drewN | apply below_drew1) | exact HB.out)⟩⟩
  case round =>
    clear H'
    try clear p2
    obtain ⟨x6_1, rfl, HA, HK1, HO_5, HB⟩ := hrel
    cases gk with
    | zero => exact absurd HA.out (by simp [comptoirref07_Words.l0])
    | succ k1 =>
      have H := HA.out
      clear HA
      simp only [comptoirref07_Words.l0] at H
      by_cases c4 : x6_1 < (t107.length : Int)
      · rw [if_pos c4] at H
        have c4b0 : decide (x6_1 < (t107.length : Int)) = true := decide_eq_true c4
        clear c4
        by_cases c5 : 0 ≤ x6_1
        · rw [if_pos c5] at H
          have c5b0 : decide (0 ≤ x6_1) = true := decide_eq_true c5
          clear c5
          by_cases c6 : 0 ≤ 3
          · rw [if_pos c6] at H
            have c6b0 := eq_true c6
            have c6b1 : decide (0 ≤ 3) = true := decide_eq_true c6
            clear c6
            by_cases c7 : 3 ≤ ((rdOf ByteArray.empty t107 x6_1).size : Int)
            · rw [if_pos c7] at H
              have c7b0 := eq_true c7
              have c7b1 : decide (3 ≤ ((rdOf ByteArray.empty t107 x6_1).size : Int)) = true := decide_eq_true c7
              clear c7
              by_cases c8 : ((rdOf ByteArray.empty t107 x6_1).extract 0 3).toList = a0.toList
              · rw [if_pos c8] at H
                have c8b0 : (((rdOf ByteArray.empty t107 x6_1).extract 0 3).toList == a0.toList) = true := beq_iff_eq.mpr c8
                have c8b1 : (((rdOf ByteArray.empty t107 x6_1).extract 0 3).toList != a0.toList) = false := bne_eq_false_iff_eq.mpr c8
                clear c8
                by_cases c9 : 3 ≤ 7
                · rw [if_pos c9] at H
                  have c9b0 := eq_true c9
                  have c9b1 : decide (3 ≤ 7) = true := decide_eq_true c9
                  clear c9
                  by_cases c10 : 7 ≤ ((rdOf ByteArray.empty t107 x6_1).size : Int)
                  · rw [if_pos c10] at H
                    have c10b0 := eq_true c10
                    have c10b1 : decide (7 ≤ ((rdOf ByteArray.empty t107 x6_1).size : Int)) = true := decide_eq_true c10
                    clear c10
                    have c11b0 := eq_true (of_decide_eq_true (by first | (with_reducible assumption) | assumption) : 7 ≤ ((rdOf ByteArray.empty t107 x6_1).size : Int))
                    simp only [Option.some.injEq, Prod.mk.injEq] at H
                    obtain ⟨rfl, rfl, rfl⟩ := H
                    obtain ⟨Ao12, co12, eo12⟩ := Kd.R_slice HO_5.out
                    subst eo12
                    have p110 : 0 ≤ (x6_1 : Int) := of_decide_eq_true (by first | (with_reducible assumption) | assumption)
                    have q110 : x6_1 < (t107.length : Int) := of_decide_eq_true (by first | (with_reducible assumption) | assumption)
                    obtain ⟨ad110, e110, hx110_0⟩ := Kd.at_string (Kd.R_reads' HO_5.out).2.2 x6_1 p110 q110
                    cases e110
                    replace p110 := eq_true p110
                    replace q110 := eq_true q110
                    have p111 : 0 ≤ (x6_1 : Int) := of_decide_eq_true (by first | (with_reducible assumption) | assumption)
                    have q111 : x6_1 < (t107.length : Int) := of_decide_eq_true (by first | (with_reducible assumption) | assumption)
                    obtain ⟨ad111, e111, hx111_0⟩ := Kd.at_string (Kd.R_reads' HO_5.out).2.2 x6_1 p111 q111
                    obtain rfl : ad110 = ad111 := (by injection e111)
                    replace p111 := eq_true p111
                    replace q111 := eq_true q111
                    have p112 : 0 ≤ (x6_1 : Int) := of_decide_eq_true (by first | (with_reducible assumption) | assumption)
                    have q112 : x6_1 < (t107.length : Int) := of_decide_eq_true (by first | (with_reducible assumption) | assumption)
                    obtain ⟨ad112, e112, hx112_0⟩ := Kd.at_string (Kd.R_reads' HO_5.out).2.2 x6_1 p112 q112
                    obtain rfl : ad110 = ad112 := (by injection e112)
                    replace p112 := eq_true p112
                    replace q112 := eq_true q112
                    go_wp2
                    repeat (go_quiet (fail); try go_wp2)
                    go_ret3
                    exact ⟨by first | rfl | (simp [errW_none, errW_some] <;> rfl) | (simp [*, errW_none, errW_some] <;> rfl), by repeat (first | (with_reducible first | exact HB.out | apply below_alloc | apply pw_below_drewN | apply below_drew1) | exact HB.out)⟩
                  · rw [if_neg c10] at H
                    exact absurd H (by simp)
                · rw [if_neg c9] at H
                  exact absurd H (by simp)
              · rw [if_neg c8] at H
                have c8b0 : (((rdOf ByteArray.empty t107 x6_1).extract 0 3).toList == a0.toList) = false := beq_eq_false_iff_ne.mpr c8
                have c8b1 : (((rdOf ByteArray.empty t107 x6_1).extract 0 3).toList != a0.toList) = true := bne_iff_ne.mpr c8
                have H' := Aside0.mk H
                clear H
                obtain ⟨Ao13, co13, eo13⟩ := Kd.R_slice HO_5.out
                subst eo13
                have p110 : 0 ≤ (x6_1 : Int) := of_decide_eq_true (by first | (with_reducible assumption) | assumption)
                have q110 : x6_1 < (t107.length : Int) := of_decide_eq_true (by first | (with_reducible assumption) | assumption)
                obtain ⟨ad110, e110, hx110_0⟩ := Kd.at_string (Kd.R_reads' HO_5.out).2.2 x6_1 p110 q110
                cases e110
                replace p110 := eq_true p110
                replace q110 := eq_true q110
                go_wp2
                repeat (go_quiet (fail); try go_wp2)
                go_roundg k1
                case measure => have := HK1.out; omega
                case rel => exact ⟨(wrap64 (x6_1 + 1)), (by first | rfl | (simp; done) | (simp [*]; done)), H', ⟨by have := HK1.out; omega⟩, ⟨by (with_reducible repeat (first | apply Kd.R_alloc | apply Kd.R_drewN | apply Kd.R_drew)); exact HO_5.out⟩, ⟨by repeat (first | (with_reducible first | exact HB.out | apply below_alloc | apply pw_below_drewN | apply below_drew1) | exact HB.out)⟩⟩
            · rw [if_neg c7] at H
              exact absurd H (by simp)
          · rw [if_neg c6] at H
            exact absurd H (by simp)
        · rw [if_neg c5] at H
          exact absurd H (by simp)
      · rw [if_neg c4] at H
        have c4b0 : decide (x6_1 < (t107.length : Int)) = false := decide_eq_false c4
        clear c4
        simp only [Option.some.injEq, Prod.mk.injEq] at H
        obtain ⟨rfl, rfl, rfl⟩ := H
        obtain ⟨Ao14, co14, eo14⟩ := Kd.R_slice HO_5.out
        subst eo14
        go_wp2
        repeat (go_quiet (fail); try go_wp2)
        go_ret3
        exact ⟨by first | rfl | (simp [errW_none, errW_some] <;> rfl) | (simp [*, errW_none, errW_some] <;> rfl), by repeat (first | (with_reducible first | exact HB.out | apply below_alloc | apply pw_below_drewN | apply below_drew1) | exact HB.out)⟩

/-! ### comptoirref07_Action: function 9 -/
def comptoirref07_Action.l0 : Nat → ByteArray → ByteArray → List ByteArray → Int → Option (ByteArray × Bool)
  | 0, _, _, _, _ => none
  | k + 1, x0, x1, x6, x7 => if x7 < (x6.length : Int) then (if 0 ≤ x7 then (if 3 ≤ 7 then (if 7 ≤ ((rdOf ByteArray.empty x6 x7).size : Int) then (if ((rdOf ByteArray.empty x6 x7).extract 3 7).toList = x0.toList then (if ((rdOf ByteArray.empty x6 x7).extract 7 (rdOf ByteArray.empty x6 x7).size).toList = x1.toList then (if 0 ≤ 3 then (if 3 ≤ ((rdOf ByteArray.empty x6 x7).size : Int) then (some ((rdOf ByteArray.empty x6 x7).extract 0 3, true)) else (none)) else (none)) else (comptoirref07_Action.l0 k x0 x1 x6 (wrap64 (x7 + 1)))) else (comptoirref07_Action.l0 k x0 x1 x6 (wrap64 (x7 + 1)))) else (none)) else (none)) else (none)) else (some ((⟨#[]⟩ : ByteArray), false))
def comptoirref07_Action.f (k : Nat) (a0 : ByteArray) (a1 : ByteArray) : Option (ByteArray × Bool) := (comptoirref07_table.f).bind fun t113 => (comptoirref07_Action.l0 k a0 a1 t113 0)
theorem comptoirref07_Action.mono_l : ∀ k, (∀ y0 y1 y2 y3, LeO (comptoirref07_Action.l0 k y0 y1 y2 y3) (comptoirref07_Action.l0 (k + 1) y0 y1 y2 y3))
  | 0 => fun _ _ _ _ r h => by simp [comptoirref07_Action.l0] at h
  | k + 1 => by
    have ih0 := comptoirref07_Action.mono_l k
    · intro y0 y1 y2 y3
      unfold comptoirref07_Action.l0
      repeat' first
      | (with_reducible exact ih0 _ _ _ _)
      | (with_reducible exact LeO.refl _)
      | (with_reducible exact LeO.none _)
      | (with_reducible refine LeO.ite ?_ ?_)
      | (with_reducible refine LeO.bind ?_ (fun _ => ?_))
      | exact ih0 _ _ _ _
      | exact LeO.none _
      | refine LeO.ite ?_ ?_
      | refine LeO.bind ?_ (fun _ => ?_)
theorem comptoirref07_Action.mono : ∀ a0 a1 k, LeO (comptoirref07_Action.f k a0 a1) (comptoirref07_Action.f (k + 1) a0 a1) := by
  intro a0 a1 k
  have ih0 := comptoirref07_Action.mono_l k
  unfold comptoirref07_Action.f
  repeat' first
      | (with_reducible exact ih0 _ _ _ _)
      | (with_reducible exact LeO.refl _)
      | (with_reducible exact LeO.none _)
      | (with_reducible refine LeO.ite ?_ ?_)
      | (with_reducible refine LeO.bind ?_ (fun _ => ?_))
      | exact ih0 _ _ _ _
      | exact LeO.none _
      | refine LeO.ite ?_ ?_
      | refine LeO.bind ?_ (fun _ => ?_)
set_option maxHeartbeats 8000000 in
set_option maxRecDepth 100000 in
theorem comptoirref07_Action.calls (k : Nat) (a0 : ByteArray) (a1 : ByteArray) (r1 : ByteArray) (r2 : Bool) (w : World) (h : comptoirref07_Action.f k a0 a1 = some (r1, r2)) :
    Calls Try.prog 9 #[.string a0, .string a1] w fun e w' => e = .returned (.tuple #[.string r1, .bool r2]) ∧ Below w.heap.size w w' := by
  have HB := Aside0.mk (Below.refl w.heap.size w)
  have H : ((comptoirref07_table.f).bind fun t113 => (comptoirref07_Action.l0 k a0 a1 t113 0)) = some (r1, r2) := h
  clear h
  replace H := Option.bind_eq_some_iff.mp H
  obtain ⟨t113, A30, H⟩ := H
  replace H : (comptoirref07_Action.l0 k a0 a1 t113 0) = some (r1, r2) := H
  have A3 := Aside0.mk A30
  clear A30
  have H' := Aside0.mk H
  clear H
  go_enter Try.func9, Try.ntmps9
  go_wp2_with (first | ((with_reducible refine gate_callee (f := 20) rfl ?_); refine goesL_ (some 8) rfl rfl Try.func20 (by kernel_rfl) rfl #[] rfl (by (try simp only [List.map_toArray, List.map_cons, List.map_nil]); first | done | rfl | (simp only [List.length_drop, List.length_take]; rfl)) ?_; (with_reducible refine (comptoirref07_table.calls  t113 _ A3.out).mono ?_); rintro e w4 ⟨v114, rfl, ho0, hb⟩; refine ⟨_, rfl, ?_⟩; have n0_ := Aside0.mk (Kd.R_lower ho0 (below_size (by repeat (first | (with_reducible first | exact HB.out | apply below_alloc | apply pw_below_drewN | apply below_drew1) | exact HB.out)))); have n1_ := Aside0.mk (below_step (by repeat (first | (with_reducible first | exact HB.out | apply below_alloc | apply pw_below_drewN | apply below_drew1) | exact HB.out)) hb); clear HB; have HO115 := n0_; have HB := n1_; clear n0_ n1_; (try clear hb); (try clear hb2); (try clear hk); (try clear hi); (try clear ho0)))
  go_loopg [7] k (fun kq v7 w' => ∃ (x7_1 : Int), v7 = .int .i64 x7_1 ∧ Aside0 (comptoirref07_Action.l0 kq a0 a1 t113 x7_1 = some (r1, r2)) ∧ Aside0 (kq ≤ k) ∧ Aside0 (Kd.R Kd.string 9 w' w.heap.size (fun _ => True) v114 t113) ∧ Aside0 (Below w.heap.size w w'))
  case atStart => exact ⟨(0), (by first | rfl | (simp; done) | (simp [*]; done)), H', ⟨Nat.le_refl _⟩, ⟨by (with_reducible repeat (first | apply Kd.R_alloc | apply Kd.R_drewN | apply Kd.R_drew)); exact HO115.out⟩, ⟨by repeat (first | (with_reducible first | exact HB.out | apply below_alloc | apply pw_below_drewN | apply below_drew1) | exact HB.out)⟩⟩
  case round =>
    clear H'
    try clear c2
    try clear p2
    obtain ⟨x7_1, rfl, HA, HK1, HO_6, HB⟩ := hrel
    cases gk with
    | zero => exact absurd HA.out (by simp [comptoirref07_Action.l0])
    | succ k1 =>
      have H := HA.out
      clear HA
      simp only [comptoirref07_Action.l0] at H
      by_cases c5 : x7_1 < (t113.length : Int)
      · rw [if_pos c5] at H
        have c5b0 : decide (x7_1 < (t113.length : Int)) = true := decide_eq_true c5
        clear c5
        by_cases c6 : 0 ≤ x7_1
        · rw [if_pos c6] at H
          have c6b0 : decide (0 ≤ x7_1) = true := decide_eq_true c6
          clear c6
          by_cases c7 : 3 ≤ 7
          · rw [if_pos c7] at H
            have c7b0 := eq_true c7
            have c7b1 : decide (3 ≤ 7) = true := decide_eq_true c7
            clear c7
            by_cases c8 : 7 ≤ ((rdOf ByteArray.empty t113 x7_1).size : Int)
            · rw [if_pos c8] at H
              have c8b0 := eq_true c8
              have c8b1 : decide (7 ≤ ((rdOf ByteArray.empty t113 x7_1).size : Int)) = true := decide_eq_true c8
              clear c8
              by_cases c9 : ((rdOf ByteArray.empty t113 x7_1).extract 3 7).toList = a0.toList
              · rw [if_pos c9] at H
                have c9b0 : (((rdOf ByteArray.empty t113 x7_1).extract 3 7).toList == a0.toList) = true := beq_iff_eq.mpr c9
                have c9b1 : (((rdOf ByteArray.empty t113 x7_1).extract 3 7).toList != a0.toList) = false := bne_eq_false_iff_eq.mpr c9
                clear c9
                have c10b0 := eq_true (of_decide_eq_true (by first | (with_reducible assumption) | assumption) : 7 ≤ ((rdOf ByteArray.empty t113 x7_1).size : Int))
                by_cases c11 : ((rdOf ByteArray.empty t113 x7_1).extract 7 (rdOf ByteArray.empty t113 x7_1).size).toList = a1.toList
                · rw [if_pos c11] at H
                  have c11b0 : (((rdOf ByteArray.empty t113 x7_1).extract 7 (rdOf ByteArray.empty t113 x7_1).size).toList == a1.toList) = true := beq_iff_eq.mpr c11
                  have c11b1 : (((rdOf ByteArray.empty t113 x7_1).extract 7 (rdOf ByteArray.empty t113 x7_1).size).toList != a1.toList) = false := bne_eq_false_iff_eq.mpr c11
                  clear c11
                  by_cases c12 : 0 ≤ 3
                  · rw [if_pos c12] at H
                    have c12b0 := eq_true c12
                    have c12b1 : decide (0 ≤ 3) = true := decide_eq_true c12
                    clear c12
                    by_cases c13 : 3 ≤ ((rdOf ByteArray.empty t113 x7_1).size : Int)
                    · rw [if_pos c13] at H
                      have c13b0 := eq_true c13
                      have c13b1 : decide (3 ≤ ((rdOf ByteArray.empty t113 x7_1).size : Int)) = true := decide_eq_true c13
                      clear c13
                      simp only [Option.some.injEq, Prod.mk.injEq] at H
                      obtain ⟨rfl, rfl⟩ := H
                      obtain ⟨Ao14, co14, eo14⟩ := Kd.R_slice HO_6.out
                      subst eo14
                      have p116 : 0 ≤ (x7_1 : Int) := of_decide_eq_true (by first | (with_reducible assumption) | assumption)
                      have q116 : x7_1 < (t113.length : Int) := of_decide_eq_true (by first | (with_reducible assumption) | assumption)
                      obtain ⟨ad116, e116, hx116_0⟩ := Kd.at_string (Kd.R_reads' HO_6.out).2.2 x7_1 p116 q116
                      cases e116
                      replace p116 := eq_true p116
                      replace q116 := eq_true q116
                      have p117 : 0 ≤ (x7_1 : Int) := of_decide_eq_true (by first | (with_reducible assumption) | assumption)
                      have q117 : x7_1 < (t113.length : Int) := of_decide_eq_true (by first | (with_reducible assumption) | assumption)
                      obtain ⟨ad117, e117, hx117_0⟩ := Kd.at_string (Kd.R_reads' HO_6.out).2.2 x7_1 p117 q117
                      obtain rfl : ad116 = ad117 := (by injection e117)
                      replace p117 := eq_true p117
                      replace q117 := eq_true q117
                      have p118 : 0 ≤ (x7_1 : Int) := of_decide_eq_true (by first | (with_reducible assumption) | assumption)
                      have q118 : x7_1 < (t113.length : Int) := of_decide_eq_true (by first | (with_reducible assumption) | assumption)
                      obtain ⟨ad118, e118, hx118_0⟩ := Kd.at_string (Kd.R_reads' HO_6.out).2.2 x7_1 p118 q118
                      obtain rfl : ad116 = ad118 := (by injection e118)
                      replace p118 := eq_true p118
                      replace q118 := eq_true q118
                      go_wp2
                      go_ret2
                      exact ⟨by first | rfl | (simp [errW_none, errW_some] <;> rfl) | (simp [*, errW_none, errW_some] <;> rfl), by repeat (first | (with_reducible first | exact HB.out | apply below_alloc | apply pw_below_drewN | apply below_drew1) | exact HB.out)⟩
                    · rw [if_neg c13] at H
                      exact absurd H (by simp)
                  · rw [if_neg c12] at H
                    exact absurd H (by simp)
                · rw [if_neg c11] at H
                  have c11b0 : (((rdOf ByteArray.empty t113 x7_1).extract 7 (rdOf ByteArray.empty t113 x7_1).size).toList == a1.toList) = false := beq_eq_false_iff_ne.mpr c11
                  have c11b1 : (((rdOf ByteArray.empty t113 x7_1).extract 7 (rdOf ByteArray.empty t113 x7_1).size).toList != a1.toList) = true := bne_iff_ne.mpr c11
                  have H' := Aside0.mk H
                  clear H
                  obtain ⟨Ao15, co15, eo15⟩ := Kd.R_slice HO_6.out
                  subst eo15
                  have p116 : 0 ≤ (x7_1 : Int) := of_decide_eq_true (by first | (with_reducible assumption) | assumption)
                  have q116 : x7_1 < (t113.length : Int) := of_decide_eq_true (by first | (with_reducible assumption) | assumption)
                  obtain ⟨ad116, e116, hx116_0⟩ := Kd.at_string (Kd.R_reads' HO_6.out).2.2 x7_1 p116 q116
                  cases e116
                  replace p116 := eq_true p116
                  replace q116 := eq_true q116
                  have p117 : 0 ≤ (x7_1 : Int) := of_decide_eq_true (by first | (with_reducible assumption) | assumption)
                  have q117 : x7_1 < (t113.length : Int) := of_decide_eq_true (by first | (with_reducible assumption) | assumption)
                  obtain ⟨ad117, e117, hx117_0⟩ := Kd.at_string (Kd.R_reads' HO_6.out).2.2 x7_1 p117 q117
                  obtain rfl : ad116 = ad117 := (by injection e117)
                  replace p117 := eq_true p117
                  replace q117 := eq_true q117
                  go_wp2
                  go_roundg k1
                  case measure => have := HK1.out; omega
                  case rel => exact ⟨(wrap64 (x7_1 + 1)), (by first | rfl | (simp; done) | (simp [*]; done)), H', ⟨by have := HK1.out; omega⟩, ⟨by (with_reducible repeat (first | apply Kd.R_alloc | apply Kd.R_drewN | apply Kd.R_drew)); exact HO_6.out⟩, ⟨by repeat (first | (with_reducible first | exact HB.out | apply below_alloc | apply pw_below_drewN | apply below_drew1) | exact HB.out)⟩⟩
              · rw [if_neg c9] at H
                have c9b0 : (((rdOf ByteArray.empty t113 x7_1).extract 3 7).toList == a0.toList) = false := beq_eq_false_iff_ne.mpr c9
                have c9b1 : (((rdOf ByteArray.empty t113 x7_1).extract 3 7).toList != a0.toList) = true := bne_iff_ne.mpr c9
                have H' := Aside0.mk H
                clear H
                obtain ⟨Ao16, co16, eo16⟩ := Kd.R_slice HO_6.out
                subst eo16
                have p116 : 0 ≤ (x7_1 : Int) := of_decide_eq_true (by first | (with_reducible assumption) | assumption)
                have q116 : x7_1 < (t113.length : Int) := of_decide_eq_true (by first | (with_reducible assumption) | assumption)
                obtain ⟨ad116, e116, hx116_0⟩ := Kd.at_string (Kd.R_reads' HO_6.out).2.2 x7_1 p116 q116
                cases e116
                replace p116 := eq_true p116
                replace q116 := eq_true q116
                go_wp2
                go_roundg k1
                case measure => have := HK1.out; omega
                case rel => exact ⟨(wrap64 (x7_1 + 1)), (by first | rfl | (simp; done) | (simp [*]; done)), H', ⟨by have := HK1.out; omega⟩, ⟨by (with_reducible repeat (first | apply Kd.R_alloc | apply Kd.R_drewN | apply Kd.R_drew)); exact HO_6.out⟩, ⟨by repeat (first | (with_reducible first | exact HB.out | apply below_alloc | apply pw_below_drewN | apply below_drew1) | exact HB.out)⟩⟩
            · rw [if_neg c8] at H
              exact absurd H (by simp)
          · rw [if_neg c7] at H
            exact absurd H (by simp)
        · rw [if_neg c6] at H
          exact absurd H (by simp)
      · rw [if_neg c5] at H
        have c5b0 : decide (x7_1 < (t113.length : Int)) = false := decide_eq_false c5
        clear c5
        simp only [Option.some.injEq, Prod.mk.injEq] at H
        obtain ⟨rfl, rfl⟩ := H
        obtain ⟨Ao17, co17, eo17⟩ := Kd.R_slice HO_6.out
        subst eo17
        go_wp2
        go_ret2
        exact ⟨by first | rfl | (simp [errW_none, errW_some] <;> rfl) | (simp [*, errW_none, errW_some] <;> rfl), by repeat (first | (with_reducible first | exact HB.out | apply below_alloc | apply pw_below_drewN | apply below_drew1) | exact HB.out)⟩

/-! ### comptoirref07_Known: function 12 -/
def comptoirref07_Known.f (k : Nat) (a0 : ByteArray) : Option (Bool) := (comptoirref07_Words.f k a0).bind fun bt132 => (some bt132.2.2)
theorem comptoirref07_Known.mono : ∀ a0 k, LeO (comptoirref07_Known.f k a0) (comptoirref07_Known.f (k + 1) a0) := by
  intro a0 k
  unfold comptoirref07_Known.f
  repeat' first
      | (with_reducible exact comptoirref07_Words.mono _ _)
      | (with_reducible exact LeO.refl _)
      | (with_reducible exact LeO.none _)
      | (with_reducible refine LeO.ite ?_ ?_)
      | (with_reducible refine LeO.bind ?_ (fun _ => ?_))
      | exact comptoirref07_Words.mono _ _
      | exact LeO.none _
      | refine LeO.ite ?_ ?_
      | refine LeO.bind ?_ (fun _ => ?_)
set_option maxHeartbeats 8000000 in
set_option maxRecDepth 100000 in
theorem comptoirref07_Known.calls (k : Nat) (a0 : ByteArray) (r : Bool) (w : World) (h : comptoirref07_Known.f k a0 = some r) :
    Calls Try.prog 12 #[.string a0] w fun e w' => e = .returned (.bool r) ∧ Below w.heap.size w w' := by
  have HB := Aside0.mk (Below.refl w.heap.size w)
  have H : ((comptoirref07_Words.f k a0).bind fun bt132 => (some bt132.2.2)) = some r := h
  clear h
  replace H := Option.bind_eq_some_iff.mp H
  obtain ⟨⟨t132, t133, t134⟩, A20, H⟩ := H
  replace H : (some t134) = some r := H
  have A2 := Aside0.mk A20
  clear A20
  obtain rfl := Option.some.inj H
  go_enter Try.func12, Try.ntmps12
  go_wp2_with (first | ((with_reducible refine gate_callee (f := 7) rfl ?_); refine goesL_ (some 8) rfl rfl Try.func7 (by kernel_rfl) rfl #[.string a0] rfl (by (try simp only [List.map_toArray, List.map_cons, List.map_nil]); first | done | rfl | (simp only [List.length_drop, List.length_take]; rfl)) ?_; (with_reducible refine (comptoirref07_Words.calls k a0 t132 t133 t134 _ A2.out).mono ?_); rintro e w3 ⟨rfl, hb⟩; refine ⟨_, rfl, ?_⟩; have n0_ := Aside0.mk (below_step (by repeat (first | (with_reducible first | exact HB.out | apply below_alloc | apply pw_below_drewN | apply below_drew1) | exact HB.out)) hb); clear HB; have HB := n0_; clear n0_; (try clear hb); (try clear hb2); (try clear hk); (try clear hi)))
  go_ret
  exact ⟨by first | rfl | (simp [errW_none, errW_some] <;> rfl) | (simp [*, errW_none, errW_some] <;> rfl), by repeat (first | (with_reducible first | exact HB.out | apply below_alloc | apply pw_below_drewN | apply below_drew1) | exact HB.out)⟩

/-! ### comptoirref07_Yes: function 14 -/
def comptoirref07_Yes.f (k : Nat) (a0 : ByteArray) : Option (Bool) := (comptoirref07_Words.f k a0).bind fun bt135 => (if bt135.1.toList = ([65, 80, 80, 82] : List UInt8) then (some true) else (some (bt135.1.toList == ([80, 65, 82, 84] : List UInt8))))
theorem comptoirref07_Yes.mono : ∀ a0 k, LeO (comptoirref07_Yes.f k a0) (comptoirref07_Yes.f (k + 1) a0) := by
  intro a0 k
  unfold comptoirref07_Yes.f
  repeat' first
      | (with_reducible exact comptoirref07_Words.mono _ _)
      | (with_reducible exact LeO.refl _)
      | (with_reducible exact LeO.none _)
      | (with_reducible refine LeO.ite ?_ ?_)
      | (with_reducible refine LeO.bind ?_ (fun _ => ?_))
      | exact comptoirref07_Words.mono _ _
      | exact LeO.none _
      | refine LeO.ite ?_ ?_
      | refine LeO.bind ?_ (fun _ => ?_)
set_option maxHeartbeats 8000000 in
set_option maxRecDepth 100000 in
theorem comptoirref07_Yes.calls (k : Nat) (a0 : ByteArray) (r : Bool) (w : World) (h : comptoirref07_Yes.f k a0 = some r) :
    Calls Try.prog 14 #[.string a0] w fun e w' => e = .returned (.bool r) ∧ Below w.heap.size w w' := by
  have HB := Aside0.mk (Below.refl w.heap.size w)
  have H : ((comptoirref07_Words.f k a0).bind fun bt135 => (if bt135.1.toList = ([65, 80, 80, 82] : List UInt8) then (some true) else (some (bt135.1.toList == ([80, 65, 82, 84] : List UInt8))))) = some r := h
  clear h
  replace H := Option.bind_eq_some_iff.mp H
  obtain ⟨⟨t135, t136, t137⟩, A20, H⟩ := H
  replace H : (if t135.toList = ([65, 80, 80, 82] : List UInt8) then (some true) else (some (t135.toList == ([80, 65, 82, 84] : List UInt8)))) = some r := H
  have A2 := Aside0.mk A20
  clear A20
  by_cases c3 : t135.toList = ([65, 80, 80, 82] : List UInt8)
  · rw [if_pos c3] at H
    have c3b0 : (t135.toList == ([65, 80, 80, 82] : List UInt8)) = true := beq_iff_eq.mpr c3
    have c3b1 : (t135.toList != ([65, 80, 80, 82] : List UInt8)) = false := bne_eq_false_iff_eq.mpr c3
    clear c3
    obtain rfl := Option.some.inj H
    go_enter Try.func14, Try.ntmps14
    go_wp2_with (first | ((with_reducible refine gate_callee (f := 7) rfl ?_); refine goesL_ (some 8) rfl rfl Try.func7 (by kernel_rfl) rfl #[.string a0] rfl (by (try simp only [List.map_toArray, List.map_cons, List.map_nil]); first | done | rfl | (simp only [List.length_drop, List.length_take]; rfl)) ?_; (with_reducible refine (comptoirref07_Words.calls k a0 t135 t136 t137 _ A2.out).mono ?_); rintro e w4 ⟨rfl, hb⟩; refine ⟨_, rfl, ?_⟩; have n0_ := Aside0.mk (below_step (by repeat (first | (with_reducible first | exact HB.out | apply below_alloc | apply pw_below_drewN | apply below_drew1) | exact HB.out)) hb); clear HB; have HB := n0_; clear n0_; (try clear hb); (try clear hb2); (try clear hk); (try clear hi)))
    go_ret
    exact ⟨by first | rfl | (simp [errW_none, errW_some] <;> rfl) | (simp [*, errW_none, errW_some] <;> rfl), by repeat (first | (with_reducible first | exact HB.out | apply below_alloc | apply pw_below_drewN | apply below_drew1) | exact HB.out)⟩
  · rw [if_neg c3] at H
    have c3b0 : (t135.toList == ([65, 80, 80, 82] : List UInt8)) = false := beq_eq_false_iff_ne.mpr c3
    have c3b1 : (t135.toList != ([65, 80, 80, 82] : List UInt8)) = true := bne_iff_ne.mpr c3
    obtain rfl := Option.some.inj H
    go_enter Try.func14, Try.ntmps14
    go_wp2_with (first | ((with_reducible refine gate_callee (f := 7) rfl ?_); refine goesL_ (some 8) rfl rfl Try.func7 (by kernel_rfl) rfl #[.string a0] rfl (by (try simp only [List.map_toArray, List.map_cons, List.map_nil]); first | done | rfl | (simp only [List.length_drop, List.length_take]; rfl)) ?_; (with_reducible refine (comptoirref07_Words.calls k a0 t135 t136 t137 _ A2.out).mono ?_); rintro e w5 ⟨rfl, hb⟩; refine ⟨_, rfl, ?_⟩; have n0_ := Aside0.mk (below_step (by repeat (first | (with_reducible first | exact HB.out | apply below_alloc | apply pw_below_drewN | apply below_drew1) | exact HB.out)) hb); clear HB; have HB := n0_; clear n0_; (try clear hb); (try clear hb2); (try clear hk); (try clear hi)))
    go_ret
    exact ⟨by first | rfl | (simp [errW_none, errW_some] <;> rfl) | (simp [*, errW_none, errW_some] <;> rfl), by repeat (first | (with_reducible first | exact HB.out | apply below_alloc | apply pw_below_drewN | apply below_drew1) | exact HB.out)⟩

-- NOT PRINTED: function 22 (comptoirhelp_Same_string)

/-! ### codes_All: function 16 -/
def codes_All.l0 : Nat → List ByteArray → List (S37) → Int → Int → Option (List ByteArray)
  | 0, _, _, _, _ => none
  | k + 1, x1, x4, x5, x6 => if x6 < x5 then (if 0 ≤ x6 then (if x6 < (x4.length : Int) then (if x1.length < 8796093022208 then (codes_All.l0 k (x1 ++ [(rd_T37 x4 x6).f0]) x4 x5 (wrap64 (x6 + 1))) else (none)) else (none)) else (none)) else (some x1)
def codes_All.f (k : Nat)  : Option (List ByteArray) := (codes_table.f).bind fun t138 => (codes_All.l0 k ([] : List ByteArray) t138 (t138.length : Int) 0)
theorem codes_All.mono_l : ∀ k, (∀ y0 y1 y2 y3, LeO (codes_All.l0 k y0 y1 y2 y3) (codes_All.l0 (k + 1) y0 y1 y2 y3))
  | 0 => fun _ _ _ _ r h => by simp [codes_All.l0] at h
  | k + 1 => by
    have ih0 := codes_All.mono_l k
    · intro y0 y1 y2 y3
      unfold codes_All.l0
      repeat' first
      | (with_reducible exact ih0 _ _ _ _)
      | (with_reducible exact LeO.refl _)
      | (with_reducible exact LeO.none _)
      | (with_reducible refine LeO.ite ?_ ?_)
      | (with_reducible refine LeO.bind ?_ (fun _ => ?_))
      | exact ih0 _ _ _ _
      | exact LeO.none _
      | refine LeO.ite ?_ ?_
      | refine LeO.bind ?_ (fun _ => ?_)
theorem codes_All.mono : ∀ k, LeO (codes_All.f k ) (codes_All.f (k + 1) ) := by
  intro  k
  have ih0 := codes_All.mono_l k
  unfold codes_All.f
  repeat' first
      | (with_reducible exact ih0 _ _ _ _)
      | (with_reducible exact LeO.refl _)
      | (with_reducible exact LeO.none _)
      | (with_reducible refine LeO.ite ?_ ?_)
      | (with_reducible refine LeO.bind ?_ (fun _ => ?_))
      | exact ih0 _ _ _ _
      | exact LeO.none _
      | refine LeO.ite ?_ ?_
      | refine LeO.bind ?_ (fun _ => ?_)
set_option maxHeartbeats 8000000 in
set_option maxRecDepth 100000 in
theorem codes_All.calls (k : Nat)  (r : List ByteArray) (w : World) (h : codes_All.f k  = some r) :
    Calls Try.prog 16 #[] w fun e w' => ∃ v0_ : Value, e = .returned (v0_) ∧ Kd.R Kd.string 9 w' w.heap.size (fun _ => True) v0_ r ∧ Below w.heap.size w w' := by
  have hu37 := Try.underlying37
  have HB := Aside0.mk (Below.refl w.heap.size w)
  have H : ((codes_table.f).bind fun t138 => (codes_All.l0 k ([] : List ByteArray) t138 (t138.length : Int) 0)) = some r := h
  clear h
  replace H := Option.bind_eq_some_iff.mp H
  obtain ⟨t138, A10, H⟩ := H
  replace H : (codes_All.l0 k ([] : List ByteArray) t138 (t138.length : Int) 0) = some r := H
  have A1 := Aside0.mk A10
  clear A10
  have H' := Aside0.mk H
  clear H
  go_enter Try.func16, Try.ntmps16
  go_wp2_with (first | ((with_reducible refine gate_callee (f := 24) rfl ?_); refine goesL_ (some 4) rfl rfl Try.func24 (by kernel_rfl) rfl #[] rfl (by (try simp only [List.map_toArray, List.map_cons, List.map_nil]); first | done | rfl | (simp only [List.length_drop, List.length_take]; rfl)) ?_; (with_reducible refine (codes_table.calls  t138 _ A1.out).mono ?_); rintro e w2 ⟨v139, rfl, ho0, hb⟩; refine ⟨_, rfl, ?_⟩; have n0_ := Aside0.mk (Kd.R_lower ho0 (below_size (by repeat (first | (with_reducible first | exact HB.out | apply below_alloc | apply pw_below_drewN | apply below_drew1) | exact HB.out)))); have n1_ := Aside0.mk (below_step (by repeat (first | (with_reducible first | exact HB.out | apply below_alloc | apply pw_below_drewN | apply below_drew1) | exact HB.out)) hb); clear HB; have HO140 := n0_; have HB := n1_; clear n0_ n1_; (try clear hb); (try clear hb2); (try clear hk); (try clear hi); (try clear ho0); obtain ⟨Ao3, co3, eo3⟩ := Kd.R_slice HO140.out; subst eo3))
  go_loopg [1, 6] k (fun kq v1 v6 w' => ∃ (x1_1 : List ByteArray) (x6_1 : Int), v6 = .int .i64 x6_1 ∧ Aside0 (codes_All.l0 kq x1_1 t138 (t138.length : Int) x6_1 = some r) ∧ Aside0 (kq ≤ k) ∧ Aside0 (Kd.R Kd.string 9 w' w.heap.size (fun _ => True) v1 x1_1) ∧ Aside0 (Kd.R k37 37 w' w.heap.size (fun _ => True) (.slice Ao3 t138.length co3) t138) ∧ Aside0 (Below w.heap.size w w'))
  case atStart => exact ⟨(([] : List ByteArray)), (0), (by first | rfl | (simp; done) | (simp [*]; done)), H', ⟨Nat.le_refl _⟩, ⟨by first | exact Kd.R_nil _ _ _ _ _ | exact Kd.N_nil _ _ _ _ _ | exact Kd.V_nil _ _ _ _ _ | exact Kd.Q_nil _ _ _ _ _ | exact Kd.S_nil _ _ _ _ _⟩, ⟨by (with_reducible repeat (first | apply Kd.R_alloc | apply Kd.R_drewN | apply Kd.R_drew)); exact HO140.out⟩, ⟨by repeat (first | (with_reducible first | exact HB.out | apply below_alloc | apply pw_below_drewN | apply below_drew1) | exact HB.out)⟩⟩
  case round =>
    clear H'
    try clear c1
    try clear c2
    try clear p2
    obtain ⟨x1_1, x6_1, rfl, HA, HK1, HO_1, HO_4, HB⟩ := hrel
    cases gk with
    | zero => exact absurd HA.out (by simp [codes_All.l0])
    | succ k1 =>
      have H := HA.out
      clear HA
      simp only [codes_All.l0] at H
      by_cases c4 : x6_1 < (t138.length : Int)
      · rw [if_pos c4] at H
        have c4b0 : decide (x6_1 < (t138.length : Int)) = true := decide_eq_true c4
        clear c4
        by_cases c5 : 0 ≤ x6_1
        · rw [if_pos c5] at H
          have c5b0 : decide (0 ≤ x6_1) = true := decide_eq_true c5
          clear c5
          by_cases c6 : x6_1 < (t138.length : Int)
          · rw [if_pos c6] at H
            have c6b0 : decide (x6_1 < (t138.length : Int)) = true := decide_eq_true c6
            clear c6
            by_cases c7 : x1_1.length < 8796093022208
            · rw [if_pos c7] at H
              have LMc7 := Aside0.mk c7
              clear c7
              obtain ⟨y143, hy143⟩ : ∃ y_ : List ByteArray, y_ = (x1_1 ++ [(rd_T37 t138 x6_1).f0]) := ⟨_, rfl⟩
              replace H : (codes_All.l0 k1 y143 t138 (t138.length : Int) (wrap64 (x6_1 + 1))) = some r := by first | (rw [hy143]; with_reducible exact H) | (have H2_ := (Option.bind_some _ _).symm.trans H; rw [hy143]; with_reducible exact H2_) | (have H2_ := (Option.bind_some _ _).symm.trans H; with_reducible exact H2_) | with_reducible exact H | (rw [hy143]; exact H) | exact H
              have Ny143 := Aside0.mk hy143
              clear hy143
              have H' := Aside0.mk H
              clear H
              have p141 : 0 ≤ (x6_1 : Int) := of_decide_eq_true (by first | (with_reducible assumption) | assumption)
              have q141 : x6_1 < (t138.length : Int) := of_decide_eq_true (by first | (with_reducible assumption) | assumption)
              obtain ⟨ad141, e141, hx141_0, hx141_1, hx141_2⟩ := at_T37 (Kd.R_reads' HO_4.out).2.2 x6_1 p141 q141
              cases e141
              replace p141 := eq_true p141
              replace q141 := eq_true q141
              go_wp2_with (first | ((with_reducible refine gate_dst (N := 3) rfl ?_); refine box_event ?hg (N := 3) ?hd (cs := #[.string (⟨#[]⟩ : ByteArray), .string (⟨#[]⟩ : ByteArray), .string (⟨#[]⟩ : ByteArray)]) (t := 37) ?hr ?_; (case hd => rfl); (case hg => rfl); (case hr => first | (go_simp; done) | (go_simp; rfl)); intro gb142 hg w8 hbox hb; have n0_ := Aside0.mk (Kd.R_below (by (with_reducible repeat (first | apply Kd.R_alloc | apply Kd.R_drewN | apply Kd.R_drew)); exact HO_1.out) hb); have n1_ := Aside0.mk (Kd.R_below (Kd.R_elderB (by (with_reducible repeat (first | apply Kd.R_alloc | apply Kd.R_drewN | apply Kd.R_drew)); exact HO_4.out) gb142 (Nat.le_of_eq hg.symm)) hb); have n2_ := Aside0.mk (below_step (by repeat (first | (with_reducible first | exact HB.out | apply below_alloc | apply pw_below_drewN | apply below_drew1) | exact HB.out)) hb); have n3_ := Aside0.mk (hbox); have n4_ := Aside0.mk ((by rw [hg]; exact (below_size (by repeat (first | (with_reducible first | exact HB.out | apply below_alloc | apply pw_below_drewN | apply below_drew1) | exact HB.out))) : w.heap.size ≤ gb142)); have n5_ := Aside0.mk ((by rw [hg]; exact (below_size (by repeat (first | (with_reducible first | exact HB.out | apply below_alloc | apply pw_below_drewN | apply below_drew1) | exact HB.out))) : w.heap.size ≤ gb142)); clear HO_1; clear HO_4; clear HB; have HO_1 := n0_; have HO_4 := n1_; have HB := n2_; have BK142 := n3_; have GW142 := n4_; have GE142 := n5_; clear n0_ n1_ n2_ n3_ n4_ n5_; clear hb hbox hg; have hcz9_0 : w8.cell? ⟨gb142, 0, none⟩ = some (.string (⟨#[]⟩ : ByteArray)) := (blk_cell BK142.out 0).trans rfl; have hcz9_1 : w8.cell? ⟨gb142, 1, none⟩ = some (.string (⟨#[]⟩ : ByteArray)) := (blk_cell BK142.out 1).trans rfl; have hcz9_2 : w8.cell? ⟨gb142, 2, none⟩ = some (.string (⟨#[]⟩ : ByteArray)) := (blk_cell BK142.out 2).trans rfl; have hfz9_0 := blk_frozen BK142.out 0; have hfz9_1 := blk_frozen BK142.out 1; have hfz9_2 := blk_frozen BK142.out 2) | ((with_reducible refine gate_builtin (b := .append) (xs := #[.tmp 10, .tmp 13]) rfl ?_); at_builtin; refine Kd.R_append Kd.string (w0 := w) w.heap.size rfl (.tmp 10) (.tmp 13) 29 9 (.string ⟨#[]⟩) 16 rfl Try.underlying29 info9 rfl (by decide) (by omega) u1 x1_1 ((rd_T37 t138 x6_1).f0) [.string ((rd_T37 t138 x6_1).f0)] (fun _ => True) (fun _ => False) rfl (by first | (go_simp; done) | (go_simp; rfl)) ?aP (fun _ hk => hk.elim) ?aF ?aO ?aB ?aS ?aL ?_; (case aP => exact rfl); (case aB => exact (by repeat (first | (with_reducible first | exact HB.out | apply below_alloc | apply pw_below_drewN | apply below_drew1 | refine below_set ?_ GE142.out) | exact HB.out))); (case aF => exact (fun _ _ => trivial)); (case aO => exact (by (with_reducible repeat (first | apply Kd.R_alloc | apply Kd.R_drewN | apply Kd.R_drew)); exact Kd.R_mono (Kd.R_far (p := ⟨gb142, 2, none⟩) (Kd.R_far (p := ⟨gb142, 1, none⟩) (Kd.R_far (p := ⟨gb142, 0, none⟩) (Kd.R_types HO_1.out BK142.out (by decide)) (fun _ hk => hk.2) (.string ((rd_T37 t138 x6_1).f0))) (fun _ hk => hk.2) (.string ((rd_T37 t138 x6_1).f1))) (fun _ hk => hk.2) (.string ((rd_T37 t138 x6_1).f2))) (fun _ hk => trivial))); (case aS => exact (below_size (by repeat (first | (with_reducible first | exact HB.out | apply below_alloc | apply pw_below_drewN | apply below_drew1 | refine below_set ?_ GE142.out) | exact HB.out)))); (case aL => have := LMc7.out; omega); intro v144 w10 ho hb hg hat; rw [← Ny143.out] at ho; have n0_ := Aside0.mk (Kd.R_over' (by (with_reducible repeat (first | apply Kd.R_alloc | apply Kd.R_drewN | apply Kd.R_drew)); exact (Kd.R_mono (Kd.R_far (p := ⟨gb142, 2, none⟩) (Kd.R_far (p := ⟨gb142, 1, none⟩) (Kd.R_far (p := ⟨gb142, 0, none⟩) (Kd.R_mono HO_4.out (fun k_ hk => (⟨hk, hk.2⟩ : _ ∧ k_ ≠ gb142))) (fun _ hk => hk.2) (.string ((rd_T37 t138 x6_1).f0))) (fun _ hk => hk.2) (.string ((rd_T37 t138 x6_1).f1))) (fun _ hk => hk.2) (.string ((rd_T37 t138 x6_1).f2))) (fun _ h_ => h_.1))) (Kd.R_typed (by (with_reducible repeat (first | apply Kd.R_alloc | apply Kd.R_drewN | apply Kd.R_drew)); exact (Kd.R_mono (Kd.R_far (p := ⟨gb142, 2, none⟩) (Kd.R_far (p := ⟨gb142, 1, none⟩) (Kd.R_far (p := ⟨gb142, 0, none⟩) (Kd.R_types HO_1.out BK142.out (by decide)) (fun _ hk => hk.2) (.string ((rd_T37 t138 x6_1).f0))) (fun _ hk => hk.2) (.string ((rd_T37 t138 x6_1).f1))) (fun _ hk => hk.2) (.string ((rd_T37 t138 x6_1).f2))) (fun _ h_ => h_.1)))) (by decide) hg); have n1_ := Aside0.mk (blk_grown (g := gb142) (o := .cells #[.string ((rd_T37 t138 x6_1).f0), .string ((rd_T37 t138 x6_1).f1), .string ((rd_T37 t138 x6_1).f2)] 37 (0, 0)) (by (with_reducible repeat (first | refine blk_drewN ?_ _ | refine blk_drew ?_ | refine blk_alloc ?_ _)); refine blk_put (cs := #[.string ((rd_T37 t138 x6_1).f0), .string ((rd_T37 t138 x6_1).f1), .string (⟨#[]⟩ : ByteArray)]) ?_ 2 _ rfl; (with_reducible repeat (first | refine blk_drewN ?_ _ | refine blk_drew ?_ | refine blk_alloc ?_ _)); refine blk_put (cs := #[.string ((rd_T37 t138 x6_1).f0), .string (⟨#[]⟩ : ByteArray), .string (⟨#[]⟩ : ByteArray)]) ?_ 1 _ rfl; (with_reducible repeat (first | refine blk_drewN ?_ _ | refine blk_drew ?_ | refine blk_alloc ?_ _)); refine blk_put (cs := #[.string (⟨#[]⟩ : ByteArray), .string (⟨#[]⟩ : ByteArray), .string (⟨#[]⟩ : ByteArray)]) ?_ 0 _ rfl; (with_reducible repeat (first | refine blk_drewN ?_ _ | refine blk_drew ?_ | refine blk_alloc ?_ _)); exact BK142.out) hg (Kd.R_ne HO_1.out BK142.out (by decide))); have n2_ := Aside0.mk (hb); have n3_ := Aside0.mk (ho); clear HO_4; clear BK142; clear HB; clear HO_1; have HO_4 := n0_; have BK142 := n1_; have HB := n2_; have HO145 := n3_; clear n0_ n1_ n2_ n3_; clear ho hb hg hat))
              go_roundg k1
              case measure => have := HK1.out; omega
              case rel => exact ⟨(y143), (wrap64 (x6_1 + 1)), (by first | rfl | (simp; done) | (simp [*]; done)), H', ⟨by have := HK1.out; omega⟩, ⟨by (with_reducible repeat (first | apply Kd.R_alloc | apply Kd.R_drewN | apply Kd.R_drew)); exact HO145.out⟩, ⟨by (with_reducible repeat (first | apply Kd.R_alloc | apply Kd.R_drewN | apply Kd.R_drew)); exact Kd.R_mono HO_4.out (fun _ hk => trivial)⟩, ⟨by repeat (first | (with_reducible first | exact HB.out | apply below_alloc | apply pw_below_drewN | apply below_drew1 | refine below_set ?_ GE142.out) | exact HB.out)⟩⟩
            · rw [if_neg c7] at H
              exact absurd H (by simp)
          · rw [if_neg c6] at H
            exact absurd H (by simp)
        · rw [if_neg c5] at H
          exact absurd H (by simp)
      · rw [if_neg c4] at H
        have c4b0 : decide (x6_1 < (t138.length : Int)) = false := decide_eq_false c4
        clear c4
        obtain rfl := Option.some.inj H
        go_wp2
        go_ret
        exact ⟨_, by first | rfl | (simp [errW_none, errW_some] <;> rfl) | (simp [*, errW_none, errW_some] <;> rfl), by (with_reducible repeat (first | apply Kd.R_alloc | apply Kd.R_drewN | apply Kd.R_drew)); exact HO_1.out, by repeat (first | (with_reducible first | exact HB.out | apply below_alloc | apply pw_below_drewN | apply below_drew1) | exact HB.out)⟩

/-! ### comptoirref07_Actions: function 17 -/
def comptoirref07_Actions.l0 : Nat → List ByteArray → List ByteArray → Int → Option (List ByteArray)
  | 0, _, _, _ => none
  | k + 1, x1, x2, x3 => if x3 < (x2.length : Int) then (if 0 ≤ x3 then (if 0 ≤ 3 then (if 3 ≤ ((rdOf ByteArray.empty x2 x3).size : Int) then (if x1.length < 8796093022208 then (comptoirref07_Actions.l0 k (x1 ++ [(rdOf ByteArray.empty x2 x3).extract 0 3]) x2 (wrap64 (x3 + 1))) else (none)) else (none)) else (none)) else (none)) else (some x1)
def comptoirref07_Actions.f (k : Nat)  : Option (List ByteArray) := (comptoirref07_table.f).bind fun t146 => (comptoirref07_Actions.l0 k ([] : List ByteArray) t146 0)
theorem comptoirref07_Actions.mono_l : ∀ k, (∀ y0 y1 y2, LeO (comptoirref07_Actions.l0 k y0 y1 y2) (comptoirref07_Actions.l0 (k + 1) y0 y1 y2))
  | 0 => fun _ _ _ r h => by simp [comptoirref07_Actions.l0] at h
  | k + 1 => by
    have ih0 := comptoirref07_Actions.mono_l k
    · intro y0 y1 y2
      unfold comptoirref07_Actions.l0
      repeat' first
      | (with_reducible exact ih0 _ _ _)
      | (with_reducible exact LeO.refl _)
      | (with_reducible exact LeO.none _)
      | (with_reducible refine LeO.ite ?_ ?_)
      | (with_reducible refine LeO.bind ?_ (fun _ => ?_))
      | exact ih0 _ _ _
      | exact LeO.none _
      | refine LeO.ite ?_ ?_
      | refine LeO.bind ?_ (fun _ => ?_)
theorem comptoirref07_Actions.mono : ∀ k, LeO (comptoirref07_Actions.f k ) (comptoirref07_Actions.f (k + 1) ) := by
  intro  k
  have ih0 := comptoirref07_Actions.mono_l k
  unfold comptoirref07_Actions.f
  repeat' first
      | (with_reducible exact ih0 _ _ _)
      | (with_reducible exact LeO.refl _)
      | (with_reducible exact LeO.none _)
      | (with_reducible refine LeO.ite ?_ ?_)
      | (with_reducible refine LeO.bind ?_ (fun _ => ?_))
      | exact ih0 _ _ _
      | exact LeO.none _
      | refine LeO.ite ?_ ?_
      | refine LeO.bind ?_ (fun _ => ?_)
set_option maxHeartbeats 8000000 in
set_option maxRecDepth 100000 in
theorem comptoirref07_Actions.calls (k : Nat)  (r : List ByteArray) (w : World) (h : comptoirref07_Actions.f k  = some r) :
    Calls Try.prog 17 #[] w fun e w' => ∃ v0_ : Value, e = .returned (v0_) ∧ Kd.R Kd.string 9 w' w.heap.size (fun _ => True) v0_ r ∧ Below w.heap.size w w' := by
  have HB := Aside0.mk (Below.refl w.heap.size w)
  have H : ((comptoirref07_table.f).bind fun t146 => (comptoirref07_Actions.l0 k ([] : List ByteArray) t146 0)) = some r := h
  clear h
  replace H := Option.bind_eq_some_iff.mp H
  obtain ⟨t146, A10, H⟩ := H
  replace H : (comptoirref07_Actions.l0 k ([] : List ByteArray) t146 0) = some r := H
  have A1 := Aside0.mk A10
  clear A10
  have H' := Aside0.mk H
  clear H
  go_enter Try.func17, Try.ntmps17
  go_wp2_with (first | ((with_reducible refine gate_callee (f := 20) rfl ?_); refine goesL_ (some 4) rfl rfl Try.func20 (by kernel_rfl) rfl #[] rfl (by (try simp only [List.map_toArray, List.map_cons, List.map_nil]); first | done | rfl | (simp only [List.length_drop, List.length_take]; rfl)) ?_; (with_reducible refine (comptoirref07_table.calls  t146 _ A1.out).mono ?_); rintro e w2 ⟨v147, rfl, ho0, hb⟩; refine ⟨_, rfl, ?_⟩; have n0_ := Aside0.mk (Kd.R_lower ho0 (below_size (by repeat (first | (with_reducible first | exact HB.out | apply below_alloc | apply pw_below_drewN | apply below_drew1) | exact HB.out)))); have n1_ := Aside0.mk (below_step (by repeat (first | (with_reducible first | exact HB.out | apply below_alloc | apply pw_below_drewN | apply below_drew1) | exact HB.out)) hb); clear HB; have HO148 := n0_; have HB := n1_; clear n0_ n1_; (try clear hb); (try clear hb2); (try clear hk); (try clear hi); (try clear ho0)))
  go_loopg [1, 3] k (fun kq v1 v3 w' => ∃ (x1_1 : List ByteArray) (x3_1 : Int), v3 = .int .i64 x3_1 ∧ Aside0 (comptoirref07_Actions.l0 kq x1_1 t146 x3_1 = some r) ∧ Aside0 (kq ≤ k) ∧ Aside0 (Kd.R Kd.string 9 w' w.heap.size (fun k_ => some k_ ≠ (v147 : Value).ownBlock) v1 x1_1) ∧ Aside0 (Kd.R Kd.string 9 w' w.heap.size (fun k_ => some k_ ≠ (v1 : Value).ownBlock) v147 t146) ∧ Aside0 (Below w.heap.size w w'))
  case atStart => exact ⟨(([] : List ByteArray)), (0), (by first | rfl | (simp; done) | (simp [*]; done)), H', ⟨Nat.le_refl _⟩, ⟨by first | exact Kd.R_nil _ _ _ _ _ | exact Kd.N_nil _ _ _ _ _ | exact Kd.V_nil _ _ _ _ _ | exact Kd.Q_nil _ _ _ _ _ | exact Kd.S_nil _ _ _ _ _⟩, ⟨by (with_reducible repeat (first | apply Kd.R_alloc | apply Kd.R_drewN | apply Kd.R_drew)); exact Kd.R_mono HO148.out (fun _ hk => (by simp [Value.ownBlock]))⟩, ⟨by repeat (first | (with_reducible first | exact HB.out | apply below_alloc | apply pw_below_drewN | apply below_drew1) | exact HB.out)⟩⟩
  case round =>
    clear H'
    try clear c1
    try clear c2
    try clear p2
    obtain ⟨x1_1, x3_1, rfl, HA, HK1, HO_1, HO_2, HB⟩ := hrel
    cases gk with
    | zero => exact absurd HA.out (by simp [comptoirref07_Actions.l0])
    | succ k1 =>
      have H := HA.out
      clear HA
      simp only [comptoirref07_Actions.l0] at H
      by_cases c3 : x3_1 < (t146.length : Int)
      · rw [if_pos c3] at H
        have c3b0 : decide (x3_1 < (t146.length : Int)) = true := decide_eq_true c3
        clear c3
        by_cases c4 : 0 ≤ x3_1
        · rw [if_pos c4] at H
          have c4b0 : decide (0 ≤ x3_1) = true := decide_eq_true c4
          clear c4
          by_cases c5 : 0 ≤ 3
          · rw [if_pos c5] at H
            have c5b0 := eq_true c5
            have c5b1 : decide (0 ≤ 3) = true := decide_eq_true c5
            clear c5
            by_cases c6 : 3 ≤ ((rdOf ByteArray.empty t146 x3_1).size : Int)
            · rw [if_pos c6] at H
              have c6b0 := eq_true c6
              have c6b1 : decide (3 ≤ ((rdOf ByteArray.empty t146 x3_1).size : Int)) = true := decide_eq_true c6
              clear c6
              by_cases c7 : x1_1.length < 8796093022208
              · rw [if_pos c7] at H
                have LMc7 := Aside0.mk c7
                clear c7
                obtain ⟨y150, hy150⟩ : ∃ y_ : List ByteArray, y_ = (x1_1 ++ [(rdOf ByteArray.empty t146 x3_1).extract 0 3]) := ⟨_, rfl⟩
                replace H : (comptoirref07_Actions.l0 k1 y150 t146 (wrap64 (x3_1 + 1))) = some r := by first | (rw [hy150]; with_reducible exact H) | (have H2_ := (Option.bind_some _ _).symm.trans H; rw [hy150]; with_reducible exact H2_) | (have H2_ := (Option.bind_some _ _).symm.trans H; with_reducible exact H2_) | with_reducible exact H | (rw [hy150]; exact H) | exact H
                have Ny150 := Aside0.mk hy150
                clear hy150
                have H' := Aside0.mk H
                clear H
                obtain ⟨Ao8, co8, eo8⟩ := Kd.R_slice HO_2.out
                subst eo8
                have p149 : 0 ≤ (x3_1 : Int) := of_decide_eq_true (by first | (with_reducible assumption) | assumption)
                have q149 : x3_1 < (t146.length : Int) := of_decide_eq_true (by first | (with_reducible assumption) | assumption)
                obtain ⟨ad149, e149, hx149_0⟩ := Kd.at_string (Kd.R_reads' HO_2.out).2.2 x3_1 p149 q149
                cases e149
                replace p149 := eq_true p149
                replace q149 := eq_true q149
                go_wp2_with (first | ((with_reducible refine gate_builtin (b := .append) (xs := #[.tmp 11, .tmp 17]) rfl ?_); at_builtin; refine Kd.R_append Kd.string (w0 := w) w.heap.size rfl (.tmp 11) (.tmp 17) 29 9 (.string ⟨#[]⟩) 16 rfl Try.underlying29 info9 rfl (by decide) (by omega) u1 x1_1 ((rdOf ByteArray.empty t146 x3_1).extract 0 3) [.string ((rdOf ByteArray.empty t146 x3_1).extract 0 3)] (fun k_ => some k_ ≠ (.slice (some ad149) t146.length co8 : Value).ownBlock) (fun _ => False) rfl rfl ?aP (fun _ hk => hk.elim) ?aF ?aO ?aB ?aS ?aL ?_; (case aP => exact rfl); (case aB => exact (by repeat (first | (with_reducible first | exact HB.out | apply below_alloc | apply pw_below_drewN | apply below_drew1) | exact HB.out))); (case aF => exact (fun k_ hk => Kd.fresh' (Kd.R_lt (by (with_reducible repeat (first | apply Kd.R_alloc | apply Kd.R_drewN | apply Kd.R_drew)); exact HO_2.out)) k_ hk)); (case aO => exact (by (with_reducible repeat (first | apply Kd.R_alloc | apply Kd.R_drewN | apply Kd.R_drew)); exact HO_1.out)); (case aS => exact (below_size (by repeat (first | (with_reducible first | exact HB.out | apply below_alloc | apply pw_below_drewN | apply below_drew1) | exact HB.out)))); (case aL => have := LMc7.out; omega); intro v151 w9 ho hb hg hat; rw [← Ny150.out] at ho; have n0_ := Aside0.mk (Kd.R_after (ok := (fun _ => True)) (by (with_reducible repeat (first | apply Kd.R_alloc | apply Kd.R_drewN | apply Kd.R_drew)); exact Kd.R_mono HO_2.out (fun _ hk => ⟨trivial, hk⟩)) hg hat); have n1_ := Aside0.mk (hb); have n2_ := Aside0.mk (ho); clear HO_2; clear HB; clear HO_1; have HO_2 := n0_; have HB := n1_; have HO152 := n2_; clear n0_ n1_ n2_; clear ho hb hg hat))
                go_roundg k1
                case measure => have := HK1.out; omega
                case rel => exact ⟨(y150), (wrap64 (x3_1 + 1)), (by first | rfl | (simp; done) | (simp [*]; done)), H', ⟨by have := HK1.out; omega⟩, ⟨by (with_reducible repeat (first | apply Kd.R_alloc | apply Kd.R_drewN | apply Kd.R_drew)); exact HO152.out⟩, ⟨by (with_reducible repeat (first | apply Kd.R_alloc | apply Kd.R_drewN | apply Kd.R_drew)); exact Kd.R_mono HO_2.out (fun _ hk => hk.2)⟩, ⟨by repeat (first | (with_reducible first | exact HB.out | apply below_alloc | apply pw_below_drewN | apply below_drew1) | exact HB.out)⟩⟩
              · rw [if_neg c7] at H
                exact absurd H (by simp)
            · rw [if_neg c6] at H
              exact absurd H (by simp)
          · rw [if_neg c5] at H
            exact absurd H (by simp)
        · rw [if_neg c4] at H
          exact absurd H (by simp)
      · rw [if_neg c3] at H
        have c3b0 : decide (x3_1 < (t146.length : Int)) = false := decide_eq_false c3
        clear c3
        obtain rfl := Option.some.inj H
        obtain ⟨Ao10, co10, eo10⟩ := Kd.R_slice HO_2.out
        subst eo10
        go_wp2
        go_ret
        exact ⟨_, by first | rfl | (simp [errW_none, errW_some] <;> rfl) | (simp [*, errW_none, errW_some] <;> rfl), by (with_reducible repeat (first | apply Kd.R_alloc | apply Kd.R_drewN | apply Kd.R_drew)); exact Kd.R_mono HO_1.out (fun _ hk => trivial), by repeat (first | (with_reducible first | exact HB.out | apply below_alloc | apply pw_below_drewN | apply below_drew1) | exact HB.out)⟩

end Go.Proofs.Ytahakmhfdogdcaa.MC
