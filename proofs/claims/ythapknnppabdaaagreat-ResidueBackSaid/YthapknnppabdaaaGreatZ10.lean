/- ResidueBack: part 10 of its proof. -/
import Derived.Test.YthapknnppabdaaaGreatZ02
namespace Go.Proofs.YthapknnppabdaaaGreat.MQ
open Go.RowKit Go.Proofs.YthapknnppabdaaaGreatW.PrintWords Go.Proofs.YthapknnppabdaaaGreatW.PrintLast Go.Proofs.YthapknnppabdaaaGreatW.PrintMore
attribute [local go_sem] max2_int min2_int max_two min_two max_three min_three max_four min_four   -- for this text's walks alone
set_option linter.unusedVariables false
set_option linter.unusedSimpArgs false

def comptoirref07_Rows.f  : Option ((List (S56))) := some (([(⟨(⟨#[]⟩ : ByteArray), (⟨#[]⟩ : ByteArray), (⟨#[]⟩ : ByteArray), (⟨#[]⟩ : ByteArray)⟩ : S56), (⟨(⟨#[65, 85, 84, 81]⟩ : ByteArray), (⟨#[50, 49, 48, 48]⟩ : ByteArray), (⟨#[80, 67, 84, 77]⟩ : ByteArray), (⟨#[82, 69, 71]⟩ : ByteArray)⟩ : S56), (⟨(⟨#[65, 85, 84, 80]⟩ : ByteArray), (⟨#[50, 49, 49, 48]⟩ : ByteArray), (⟨#[68]⟩ : ByteArray), (⟨#[80, 67, 82, 65, 71]⟩ : ByteArray)⟩ : S56), (⟨(⟨#[67, 77, 80, 86]⟩ : ByteArray), (⟨#[50, 50, 50, 48]⟩ : ByteArray), (⟨#[80, 67, 84, 77]⟩ : ByteArray), (⟨#[82, 69, 65, 79, 68]⟩ : ByteArray)⟩ : S56), (⟨(⟨#[67, 77, 80, 75]⟩ : ByteArray), (⟨#[50, 50, 51, 48]⟩ : ByteArray), (⟨#[68]⟩ : ByteArray), (⟨#[82]⟩ : ByteArray)⟩ : S56), (⟨(⟨#[82, 86, 82, 65]⟩ : ByteArray), (⟨#[50, 52, 50, 48]⟩ : ByteArray), (⟨#[80, 67, 79, 78]⟩ : ByteArray), (⟨#[82, 84, 77]⟩ : ByteArray)⟩ : S56), (⟨(⟨#[82, 86, 82, 82]⟩ : ByteArray), (⟨#[50, 52, 51, 48]⟩ : ByteArray), (⟨#[68]⟩ : ByteArray), (⟨#[82]⟩ : ByteArray)⟩ : S56), (⟨(⟨#[82, 67, 76, 81]⟩ : ByteArray), (⟨#[50, 53, 50, 48]⟩ : ByteArray), (⟨#[67]⟩ : ByteArray), (⟨#[]⟩ : ByteArray)⟩ : S56), (⟨(⟨#[82, 67, 76, 80]⟩ : ByteArray), (⟨#[50, 53, 51, 48]⟩ : ByteArray), (⟨#[68]⟩ : ByteArray), (⟨#[67]⟩ : ByteArray)⟩ : S56), (⟨(⟨#[68, 71, 78, 81]⟩ : ByteArray), (⟨#[50, 56, 48, 48]⟩ : ByteArray), (⟨#[]⟩ : ByteArray), (⟨#[]⟩ : ByteArray)⟩ : S56), (⟨(⟨#[68, 71, 78, 80]⟩ : ByteArray), (⟨#[50, 56, 49, 48]⟩ : ByteArray), (⟨#[68]⟩ : ByteArray), (⟨#[]⟩ : ByteArray)⟩ : S56), (⟨(⟨#[82, 74, 67, 84]⟩ : ByteArray), (⟨#[50, 54, 52, 52]⟩ : ByteArray), (⟨#[78]⟩ : ByteArray), (⟨#[]⟩ : ByteArray)⟩ : S56)] : List (S56)))
set_option maxHeartbeats 8000000 in
set_option maxRecDepth 100000 in
theorem comptoirref07_Rows.calls  (r : List (S56)) (w : World) (h : comptoirref07_Rows.f  = some r) :
    Calls Tryz.prog 16 #[] w fun e w' => ∃ v0_ : Value, e = .returned (v0_) ∧ Kd.R k56 56 w' w.heap.size (fun _ => True) v0_ r ∧ Below w.heap.size w w' := by
  have hu56 := Tryz.underlying56
  have HB := Aside0.mk (Below.refl w.heap.size w)
  have H : (some (([(⟨(⟨#[]⟩ : ByteArray), (⟨#[]⟩ : ByteArray), (⟨#[]⟩ : ByteArray), (⟨#[]⟩ : ByteArray)⟩ : S56), (⟨(⟨#[65, 85, 84, 81]⟩ : ByteArray), (⟨#[50, 49, 48, 48]⟩ : ByteArray), (⟨#[80, 67, 84, 77]⟩ : ByteArray), (⟨#[82, 69, 71]⟩ : ByteArray)⟩ : S56), (⟨(⟨#[65, 85, 84, 80]⟩ : ByteArray), (⟨#[50, 49, 49, 48]⟩ : ByteArray), (⟨#[68]⟩ : ByteArray), (⟨#[80, 67, 82, 65, 71]⟩ : ByteArray)⟩ : S56), (⟨(⟨#[67, 77, 80, 86]⟩ : ByteArray), (⟨#[50, 50, 50, 48]⟩ : ByteArray), (⟨#[80, 67, 84, 77]⟩ : ByteArray), (⟨#[82, 69, 65, 79, 68]⟩ : ByteArray)⟩ : S56), (⟨(⟨#[67, 77, 80, 75]⟩ : ByteArray), (⟨#[50, 50, 51, 48]⟩ : ByteArray), (⟨#[68]⟩ : ByteArray), (⟨#[82]⟩ : ByteArray)⟩ : S56), (⟨(⟨#[82, 86, 82, 65]⟩ : ByteArray), (⟨#[50, 52, 50, 48]⟩ : ByteArray), (⟨#[80, 67, 79, 78]⟩ : ByteArray), (⟨#[82, 84, 77]⟩ : ByteArray)⟩ : S56), (⟨(⟨#[82, 86, 82, 82]⟩ : ByteArray), (⟨#[50, 52, 51, 48]⟩ : ByteArray), (⟨#[68]⟩ : ByteArray), (⟨#[82]⟩ : ByteArray)⟩ : S56), (⟨(⟨#[82, 67, 76, 81]⟩ : ByteArray), (⟨#[50, 53, 50, 48]⟩ : ByteArray), (⟨#[67]⟩ : ByteArray), (⟨#[]⟩ : ByteArray)⟩ : S56), (⟨(⟨#[82, 67, 76, 80]⟩ : ByteArray), (⟨#[50, 53, 51, 48]⟩ : ByteArray), (⟨#[68]⟩ : ByteArray), (⟨#[67]⟩ : ByteArray)⟩ : S56), (⟨(⟨#[68, 71, 78, 81]⟩ : ByteArray), (⟨#[50, 56, 48, 48]⟩ : ByteArray), (⟨#[]⟩ : ByteArray), (⟨#[]⟩ : ByteArray)⟩ : S56), (⟨(⟨#[68, 71, 78, 80]⟩ : ByteArray), (⟨#[50, 56, 49, 48]⟩ : ByteArray), (⟨#[68]⟩ : ByteArray), (⟨#[]⟩ : ByteArray)⟩ : S56), (⟨(⟨#[82, 74, 67, 84]⟩ : ByteArray), (⟨#[50, 54, 52, 52]⟩ : ByteArray), (⟨#[78]⟩ : ByteArray), (⟨#[]⟩ : ByteArray)⟩ : S56)] : List (S56)))) = some r := h
  clear h
  obtain ⟨y292, hy292⟩ : ∃ y_ : List (S56), y_ = (([(⟨(⟨#[]⟩ : ByteArray), (⟨#[]⟩ : ByteArray), (⟨#[]⟩ : ByteArray), (⟨#[]⟩ : ByteArray)⟩ : S56), (⟨(⟨#[65, 85, 84, 81]⟩ : ByteArray), (⟨#[50, 49, 48, 48]⟩ : ByteArray), (⟨#[80, 67, 84, 77]⟩ : ByteArray), (⟨#[82, 69, 71]⟩ : ByteArray)⟩ : S56), (⟨(⟨#[65, 85, 84, 80]⟩ : ByteArray), (⟨#[50, 49, 49, 48]⟩ : ByteArray), (⟨#[68]⟩ : ByteArray), (⟨#[80, 67, 82, 65, 71]⟩ : ByteArray)⟩ : S56), (⟨(⟨#[67, 77, 80, 86]⟩ : ByteArray), (⟨#[50, 50, 50, 48]⟩ : ByteArray), (⟨#[80, 67, 84, 77]⟩ : ByteArray), (⟨#[82, 69, 65, 79, 68]⟩ : ByteArray)⟩ : S56), (⟨(⟨#[67, 77, 80, 75]⟩ : ByteArray), (⟨#[50, 50, 51, 48]⟩ : ByteArray), (⟨#[68]⟩ : ByteArray), (⟨#[82]⟩ : ByteArray)⟩ : S56), (⟨(⟨#[82, 86, 82, 65]⟩ : ByteArray), (⟨#[50, 52, 50, 48]⟩ : ByteArray), (⟨#[80, 67, 79, 78]⟩ : ByteArray), (⟨#[82, 84, 77]⟩ : ByteArray)⟩ : S56), (⟨(⟨#[82, 86, 82, 82]⟩ : ByteArray), (⟨#[50, 52, 51, 48]⟩ : ByteArray), (⟨#[68]⟩ : ByteArray), (⟨#[82]⟩ : ByteArray)⟩ : S56), (⟨(⟨#[82, 67, 76, 81]⟩ : ByteArray), (⟨#[50, 53, 50, 48]⟩ : ByteArray), (⟨#[67]⟩ : ByteArray), (⟨#[]⟩ : ByteArray)⟩ : S56), (⟨(⟨#[82, 67, 76, 80]⟩ : ByteArray), (⟨#[50, 53, 51, 48]⟩ : ByteArray), (⟨#[68]⟩ : ByteArray), (⟨#[67]⟩ : ByteArray)⟩ : S56), (⟨(⟨#[68, 71, 78, 81]⟩ : ByteArray), (⟨#[50, 56, 48, 48]⟩ : ByteArray), (⟨#[]⟩ : ByteArray), (⟨#[]⟩ : ByteArray)⟩ : S56), (⟨(⟨#[68, 71, 78, 80]⟩ : ByteArray), (⟨#[50, 56, 49, 48]⟩ : ByteArray), (⟨#[68]⟩ : ByteArray), (⟨#[]⟩ : ByteArray)⟩ : S56), (⟨(⟨#[82, 74, 67, 84]⟩ : ByteArray), (⟨#[50, 54, 52, 52]⟩ : ByteArray), (⟨#[78]⟩ : ByteArray), (⟨#[]⟩ : ByteArray)⟩ : S56)] : List (S56))) := ⟨_, rfl⟩
  replace H : (some y292) = some r := by first | (rw [hy292]; with_reducible exact H) | (have H2_ := (Option.bind_some _ _).symm.trans H; rw [hy292]; with_reducible exact H2_) | (have H2_ := (Option.bind_some _ _).symm.trans H; with_reducible exact H2_) | with_reducible exact H | (rw [hy292]; exact H) | exact H
  have Ny292 := Aside0.mk hy292
  clear hy292
  obtain rfl := Option.some.inj H
  simp only [Option.some.injEq, Prod.mk.injEq] at H
  obtain ⟨rfl⟩ := H
  go_enter Tryz.func16, Tryz.ntmps16
  go_wp2_with (first | ((with_reducible refine gate_dst (N := 13) rfl ?_); refine Kd.R_lit k56 _ 56 ?hg (N := 13) ?hd (xs := ([(⟨(⟨#[]⟩ : ByteArray), (⟨#[]⟩ : ByteArray), (⟨#[]⟩ : ByteArray), (⟨#[]⟩ : ByteArray)⟩ : S56), (⟨(⟨#[65, 85, 84, 81]⟩ : ByteArray), (⟨#[50, 49, 48, 48]⟩ : ByteArray), (⟨#[80, 67, 84, 77]⟩ : ByteArray), (⟨#[82, 69, 71]⟩ : ByteArray)⟩ : S56), (⟨(⟨#[65, 85, 84, 80]⟩ : ByteArray), (⟨#[50, 49, 49, 48]⟩ : ByteArray), (⟨#[68]⟩ : ByteArray), (⟨#[80, 67, 82, 65, 71]⟩ : ByteArray)⟩ : S56), (⟨(⟨#[67, 77, 80, 86]⟩ : ByteArray), (⟨#[50, 50, 50, 48]⟩ : ByteArray), (⟨#[80, 67, 84, 77]⟩ : ByteArray), (⟨#[82, 69, 65, 79, 68]⟩ : ByteArray)⟩ : S56), (⟨(⟨#[67, 77, 80, 75]⟩ : ByteArray), (⟨#[50, 50, 51, 48]⟩ : ByteArray), (⟨#[68]⟩ : ByteArray), (⟨#[82]⟩ : ByteArray)⟩ : S56), (⟨(⟨#[82, 86, 82, 65]⟩ : ByteArray), (⟨#[50, 52, 50, 48]⟩ : ByteArray), (⟨#[80, 67, 79, 78]⟩ : ByteArray), (⟨#[82, 84, 77]⟩ : ByteArray)⟩ : S56), (⟨(⟨#[82, 86, 82, 82]⟩ : ByteArray), (⟨#[50, 52, 51, 48]⟩ : ByteArray), (⟨#[68]⟩ : ByteArray), (⟨#[82]⟩ : ByteArray)⟩ : S56), (⟨(⟨#[82, 67, 76, 81]⟩ : ByteArray), (⟨#[50, 53, 50, 48]⟩ : ByteArray), (⟨#[67]⟩ : ByteArray), (⟨#[]⟩ : ByteArray)⟩ : S56), (⟨(⟨#[82, 67, 76, 80]⟩ : ByteArray), (⟨#[50, 53, 51, 48]⟩ : ByteArray), (⟨#[68]⟩ : ByteArray), (⟨#[67]⟩ : ByteArray)⟩ : S56), (⟨(⟨#[68, 71, 78, 81]⟩ : ByteArray), (⟨#[50, 56, 48, 48]⟩ : ByteArray), (⟨#[]⟩ : ByteArray), (⟨#[]⟩ : ByteArray)⟩ : S56), (⟨(⟨#[68, 71, 78, 80]⟩ : ByteArray), (⟨#[50, 56, 49, 48]⟩ : ByteArray), (⟨#[68]⟩ : ByteArray), (⟨#[]⟩ : ByteArray)⟩ : S56), (⟨(⟨#[82, 74, 67, 84]⟩ : ByteArray), (⟨#[50, 54, 52, 52]⟩ : ByteArray), (⟨#[78]⟩ : ByteArray), (⟨#[]⟩ : ByteArray)⟩ : S56)] : List (S56))) (inner := [.string (⟨#[]⟩ : ByteArray), .string (⟨#[]⟩ : ByteArray), .string (⟨#[]⟩ : ByteArray), .string (⟨#[]⟩ : ByteArray), .string (⟨#[65, 85, 84, 81]⟩ : ByteArray), .string (⟨#[50, 49, 48, 48]⟩ : ByteArray), .string (⟨#[80, 67, 84, 77]⟩ : ByteArray), .string (⟨#[82, 69, 71]⟩ : ByteArray), .string (⟨#[65, 85, 84, 80]⟩ : ByteArray), .string (⟨#[50, 49, 49, 48]⟩ : ByteArray), .string (⟨#[68]⟩ : ByteArray), .string (⟨#[80, 67, 82, 65, 71]⟩ : ByteArray), .string (⟨#[67, 77, 80, 86]⟩ : ByteArray), .string (⟨#[50, 50, 50, 48]⟩ : ByteArray), .string (⟨#[80, 67, 84, 77]⟩ : ByteArray), .string (⟨#[82, 69, 65, 79, 68]⟩ : ByteArray), .string (⟨#[67, 77, 80, 75]⟩ : ByteArray), .string (⟨#[50, 50, 51, 48]⟩ : ByteArray), .string (⟨#[68]⟩ : ByteArray), .string (⟨#[82]⟩ : ByteArray), .string (⟨#[82, 86, 82, 65]⟩ : ByteArray), .string (⟨#[50, 52, 50, 48]⟩ : ByteArray), .string (⟨#[80, 67, 79, 78]⟩ : ByteArray), .string (⟨#[82, 84, 77]⟩ : ByteArray), .string (⟨#[82, 86, 82, 82]⟩ : ByteArray), .string (⟨#[50, 52, 51, 48]⟩ : ByteArray), .string (⟨#[68]⟩ : ByteArray), .string (⟨#[82]⟩ : ByteArray), .string (⟨#[82, 67, 76, 81]⟩ : ByteArray), .string (⟨#[50, 53, 50, 48]⟩ : ByteArray), .string (⟨#[67]⟩ : ByteArray), .string (⟨#[]⟩ : ByteArray), .string (⟨#[82, 67, 76, 80]⟩ : ByteArray), .string (⟨#[50, 53, 51, 48]⟩ : ByteArray), .string (⟨#[68]⟩ : ByteArray), .string (⟨#[67]⟩ : ByteArray), .string (⟨#[68, 71, 78, 81]⟩ : ByteArray), .string (⟨#[50, 56, 48, 48]⟩ : ByteArray), .string (⟨#[]⟩ : ByteArray), .string (⟨#[]⟩ : ByteArray), .string (⟨#[68, 71, 78, 80]⟩ : ByteArray), .string (⟨#[50, 56, 49, 48]⟩ : ByteArray), .string (⟨#[68]⟩ : ByteArray), .string (⟨#[]⟩ : ByteArray), .string (⟨#[82, 74, 67, 84]⟩ : ByteArray), .string (⟨#[50, 54, 52, 52]⟩ : ByteArray), .string (⟨#[78]⟩ : ByteArray), .string (⟨#[]⟩ : ByteArray)]) (ok := fun _ => True) (okp := fun _ => True) ?hr ?hp (fun _ hk => hk) trivial (Below.refl _ _) (Nat.le_refl _) (by simp) ?_; (case hd => rfl); (case hg => rfl); (case hr => first | (go_simp; done) | (go_simp; rfl) | (go_simp; simp only [show ∀ l_ : List UInt8, (l_ != []) = !l_.isEmpty from fun l_ => by cases l_ <;> rfl]; done)); (case hp => exact (Reps.c4 (show Kd.M k56 _ _ _ (⟨(⟨#[]⟩ : ByteArray), (⟨#[]⟩ : ByteArray), (⟨#[]⟩ : ByteArray), (⟨#[]⟩ : ByteArray)⟩ : S56) [.string (⟨#[]⟩ : ByteArray), .string (⟨#[]⟩ : ByteArray), .string (⟨#[]⟩ : ByteArray), .string (⟨#[]⟩ : ByteArray)] from (k56_mkM _ _ _ (⟨(⟨#[]⟩ : ByteArray), (⟨#[]⟩ : ByteArray), (⟨#[]⟩ : ByteArray), (⟨#[]⟩ : ByteArray)⟩ : S56) )) (Reps.c4 (show Kd.M k56 _ _ _ (⟨(⟨#[65, 85, 84, 81]⟩ : ByteArray), (⟨#[50, 49, 48, 48]⟩ : ByteArray), (⟨#[80, 67, 84, 77]⟩ : ByteArray), (⟨#[82, 69, 71]⟩ : ByteArray)⟩ : S56) [.string (⟨#[65, 85, 84, 81]⟩ : ByteArray), .string (⟨#[50, 49, 48, 48]⟩ : ByteArray), .string (⟨#[80, 67, 84, 77]⟩ : ByteArray), .string (⟨#[82, 69, 71]⟩ : ByteArray)] from (k56_mkM _ _ _ (⟨(⟨#[65, 85, 84, 81]⟩ : ByteArray), (⟨#[50, 49, 48, 48]⟩ : ByteArray), (⟨#[80, 67, 84, 77]⟩ : ByteArray), (⟨#[82, 69, 71]⟩ : ByteArray)⟩ : S56) )) (Reps.c4 (show Kd.M k56 _ _ _ (⟨(⟨#[65, 85, 84, 80]⟩ : ByteArray), (⟨#[50, 49, 49, 48]⟩ : ByteArray), (⟨#[68]⟩ : ByteArray), (⟨#[80, 67, 82, 65, 71]⟩ : ByteArray)⟩ : S56) [.string (⟨#[65, 85, 84, 80]⟩ : ByteArray), .string (⟨#[50, 49, 49, 48]⟩ : ByteArray), .string (⟨#[68]⟩ : ByteArray), .string (⟨#[80, 67, 82, 65, 71]⟩ : ByteArray)] from (k56_mkM _ _ _ (⟨(⟨#[65, 85, 84, 80]⟩ : ByteArray), (⟨#[50, 49, 49, 48]⟩ : ByteArray), (⟨#[68]⟩ : ByteArray), (⟨#[80, 67, 82, 65, 71]⟩ : ByteArray)⟩ : S56) )) (Reps.c4 (show Kd.M k56 _ _ _ (⟨(⟨#[67, 77, 80, 86]⟩ : ByteArray), (⟨#[50, 50, 50, 48]⟩ : ByteArray), (⟨#[80, 67, 84, 77]⟩ : ByteArray), (⟨#[82, 69, 65, 79, 68]⟩ : ByteArray)⟩ : S56) [.string (⟨#[67, 77, 80, 86]⟩ : ByteArray), .string (⟨#[50, 50, 50, 48]⟩ : ByteArray), .string (⟨#[80, 67, 84, 77]⟩ : ByteArray), .string (⟨#[82, 69, 65, 79, 68]⟩ : ByteArray)] from (k56_mkM _ _ _ (⟨(⟨#[67, 77, 80, 86]⟩ : ByteArray), (⟨#[50, 50, 50, 48]⟩ : ByteArray), (⟨#[80, 67, 84, 77]⟩ : ByteArray), (⟨#[82, 69, 65, 79, 68]⟩ : ByteArray)⟩ : S56) )) (Reps.c4 (show Kd.M k56 _ _ _ (⟨(⟨#[67, 77, 80, 75]⟩ : ByteArray), (⟨#[50, 50, 51, 48]⟩ : ByteArray), (⟨#[68]⟩ : ByteArray), (⟨#[82]⟩ : ByteArray)⟩ : S56) [.string (⟨#[67, 77, 80, 75]⟩ : ByteArray), .string (⟨#[50, 50, 51, 48]⟩ : ByteArray), .string (⟨#[68]⟩ : ByteArray), .string (⟨#[82]⟩ : ByteArray)] from (k56_mkM _ _ _ (⟨(⟨#[67, 77, 80, 75]⟩ : ByteArray), (⟨#[50, 50, 51, 48]⟩ : ByteArray), (⟨#[68]⟩ : ByteArray), (⟨#[82]⟩ : ByteArray)⟩ : S56) )) (Reps.c4 (show Kd.M k56 _ _ _ (⟨(⟨#[82, 86, 82, 65]⟩ : ByteArray), (⟨#[50, 52, 50, 48]⟩ : ByteArray), (⟨#[80, 67, 79, 78]⟩ : ByteArray), (⟨#[82, 84, 77]⟩ : ByteArray)⟩ : S56) [.string (⟨#[82, 86, 82, 65]⟩ : ByteArray), .string (⟨#[50, 52, 50, 48]⟩ : ByteArray), .string (⟨#[80, 67, 79, 78]⟩ : ByteArray), .string (⟨#[82, 84, 77]⟩ : ByteArray)] from (k56_mkM _ _ _ (⟨(⟨#[82, 86, 82, 65]⟩ : ByteArray), (⟨#[50, 52, 50, 48]⟩ : ByteArray), (⟨#[80, 67, 79, 78]⟩ : ByteArray), (⟨#[82, 84, 77]⟩ : ByteArray)⟩ : S56) )) (Reps.c4 (show Kd.M k56 _ _ _ (⟨(⟨#[82, 86, 82, 82]⟩ : ByteArray), (⟨#[50, 52, 51, 48]⟩ : ByteArray), (⟨#[68]⟩ : ByteArray), (⟨#[82]⟩ : ByteArray)⟩ : S56) [.string (⟨#[82, 86, 82, 82]⟩ : ByteArray), .string (⟨#[50, 52, 51, 48]⟩ : ByteArray), .string (⟨#[68]⟩ : ByteArray), .string (⟨#[82]⟩ : ByteArray)] from (k56_mkM _ _ _ (⟨(⟨#[82, 86, 82, 82]⟩ : ByteArray), (⟨#[50, 52, 51, 48]⟩ : ByteArray), (⟨#[68]⟩ : ByteArray), (⟨#[82]⟩ : ByteArray)⟩ : S56) )) (Reps.c4 (show Kd.M k56 _ _ _ (⟨(⟨#[82, 67, 76, 81]⟩ : ByteArray), (⟨#[50, 53, 50, 48]⟩ : ByteArray), (⟨#[67]⟩ : ByteArray), (⟨#[]⟩ : ByteArray)⟩ : S56) [.string (⟨#[82, 67, 76, 81]⟩ : ByteArray), .string (⟨#[50, 53, 50, 48]⟩ : ByteArray), .string (⟨#[67]⟩ : ByteArray), .string (⟨#[]⟩ : ByteArray)] from (k56_mkM _ _ _ (⟨(⟨#[82, 67, 76, 81]⟩ : ByteArray), (⟨#[50, 53, 50, 48]⟩ : ByteArray), (⟨#[67]⟩ : ByteArray), (⟨#[]⟩ : ByteArray)⟩ : S56) )) (Reps.c4 (show Kd.M k56 _ _ _ (⟨(⟨#[82, 67, 76, 80]⟩ : ByteArray), (⟨#[50, 53, 51, 48]⟩ : ByteArray), (⟨#[68]⟩ : ByteArray), (⟨#[67]⟩ : ByteArray)⟩ : S56) [.string (⟨#[82, 67, 76, 80]⟩ : ByteArray), .string (⟨#[50, 53, 51, 48]⟩ : ByteArray), .string (⟨#[68]⟩ : ByteArray), .string (⟨#[67]⟩ : ByteArray)] from (k56_mkM _ _ _ (⟨(⟨#[82, 67, 76, 80]⟩ : ByteArray), (⟨#[50, 53, 51, 48]⟩ : ByteArray), (⟨#[68]⟩ : ByteArray), (⟨#[67]⟩ : ByteArray)⟩ : S56) )) (Reps.c4 (show Kd.M k56 _ _ _ (⟨(⟨#[68, 71, 78, 81]⟩ : ByteArray), (⟨#[50, 56, 48, 48]⟩ : ByteArray), (⟨#[]⟩ : ByteArray), (⟨#[]⟩ : ByteArray)⟩ : S56) [.string (⟨#[68, 71, 78, 81]⟩ : ByteArray), .string (⟨#[50, 56, 48, 48]⟩ : ByteArray), .string (⟨#[]⟩ : ByteArray), .string (⟨#[]⟩ : ByteArray)] from (k56_mkM _ _ _ (⟨(⟨#[68, 71, 78, 81]⟩ : ByteArray), (⟨#[50, 56, 48, 48]⟩ : ByteArray), (⟨#[]⟩ : ByteArray), (⟨#[]⟩ : ByteArray)⟩ : S56) )) (Reps.c4 (show Kd.M k56 _ _ _ (⟨(⟨#[68, 71, 78, 80]⟩ : ByteArray), (⟨#[50, 56, 49, 48]⟩ : ByteArray), (⟨#[68]⟩ : ByteArray), (⟨#[]⟩ : ByteArray)⟩ : S56) [.string (⟨#[68, 71, 78, 80]⟩ : ByteArray), .string (⟨#[50, 56, 49, 48]⟩ : ByteArray), .string (⟨#[68]⟩ : ByteArray), .string (⟨#[]⟩ : ByteArray)] from (k56_mkM _ _ _ (⟨(⟨#[68, 71, 78, 80]⟩ : ByteArray), (⟨#[50, 56, 49, 48]⟩ : ByteArray), (⟨#[68]⟩ : ByteArray), (⟨#[]⟩ : ByteArray)⟩ : S56) )) (Reps.c4 (show Kd.M k56 _ _ _ (⟨(⟨#[82, 74, 67, 84]⟩ : ByteArray), (⟨#[50, 54, 52, 52]⟩ : ByteArray), (⟨#[78]⟩ : ByteArray), (⟨#[]⟩ : ByteArray)⟩ : S56) [.string (⟨#[82, 74, 67, 84]⟩ : ByteArray), .string (⟨#[50, 54, 52, 52]⟩ : ByteArray), .string (⟨#[78]⟩ : ByteArray), .string (⟨#[]⟩ : ByteArray)] from (k56_mkM _ _ _ (⟨(⟨#[82, 74, 67, 84]⟩ : ByteArray), (⟨#[50, 54, 52, 52]⟩ : ByteArray), (⟨#[78]⟩ : ByteArray), (⟨#[]⟩ : ByteArray)⟩ : S56) )) (Reps.none _ _)))))))))))))); intro v293 w1 ho2 hb hg_ hnew_; clear hg_ hnew_; (first | rw [← Ny292.out] at ho2 | (simp only [Int.reduceToNat] at ho2; rw [← Ny292.out] at ho2)); have n0_ := Aside0.mk (Kd.R_lower ho2 (below_size (by repeat (first | (with_reducible first | exact HB.out | apply below_alloc | apply pw_below_drewN | apply below_drew1) | exact HB.out)))); have n1_ := Aside0.mk (below_step (by repeat (first | (with_reducible first | exact HB.out | apply below_alloc | apply pw_below_drewN | apply below_drew1) | exact HB.out)) hb); clear HB; have HO294 := n0_; have HB := n1_; clear n0_ n1_; clear hb ho2))
  go_ret
  exact ⟨_, by first | rfl | (simp [errW_none, errW_some] <;> rfl) | (simp [*, errW_none, errW_some] <;> rfl), by (with_reducible repeat (first | apply Kd.R_alloc | apply Kd.R_drewN | apply Kd.R_drew)); exact HO294.out, by repeat (first | (with_reducible first | exact HB.out | apply below_alloc | apply pw_below_drewN | apply below_drew1) | exact HB.out)⟩

def comptoirref07_table.f  : Option (List ByteArray) := some (([(⟨#[48, 48, 48, 65, 80, 80, 82, 78, 79, 82, 77]⟩ : ByteArray), (⟨#[48, 48, 49, 65, 80, 80, 82, 73, 68, 69, 78]⟩ : ByteArray), (⟨#[48, 48, 50, 80, 65, 82, 84, 78, 79, 82, 77]⟩ : ByteArray), (⟨#[49, 48, 48, 68, 69, 67, 76, 78, 79, 82, 77]⟩ : ByteArray), (⟨#[49, 48, 49, 68, 69, 67, 76, 69, 88, 80, 68]⟩ : ByteArray), (⟨#[49, 48, 50, 68, 69, 67, 76, 70, 82, 65, 85]⟩ : ByteArray), (⟨#[49, 48, 52, 68, 69, 67, 76, 82, 69, 83, 84]⟩ : ByteArray), (⟨#[49, 48, 57, 68, 69, 67, 76, 77, 82, 67, 72]⟩ : ByteArray), (⟨#[49, 49, 48, 68, 69, 67, 76, 65, 77, 78, 84]⟩ : ByteArray), (⟨#[49, 49, 54, 68, 69, 67, 76, 73, 78, 83, 70]⟩ : ByteArray), (⟨#[49, 49, 55, 68, 69, 67, 76, 80, 73, 78, 86]⟩ : ByteArray), (⟨#[49, 49, 56, 68, 69, 67, 76, 78, 79, 67, 68]⟩ : ByteArray), (⟨#[49, 50, 49, 68, 69, 67, 76, 76, 73, 77, 84]⟩ : ByteArray), (⟨#[50, 48, 48, 80, 73, 67, 75, 78, 79, 82, 77]⟩ : ByteArray), (⟨#[52, 48, 48, 82, 86, 83, 76, 78, 79, 82, 77]⟩ : ByteArray), (⟨#[53, 48, 48, 82, 69, 67, 78, 78, 79, 82, 77]⟩ : ByteArray), (⟨#[56, 48, 48, 78, 69, 84, 87, 78, 79, 82, 77]⟩ : ByteArray), (⟨#[57, 48, 52, 84, 69, 67, 72, 70, 79, 82, 77]⟩ : ByteArray), (⟨#[57, 48, 55, 84, 69, 67, 72, 73, 83, 83, 82]⟩ : ByteArray), (⟨#[57, 48, 57, 84, 69, 67, 72, 66, 85, 83, 89]⟩ : ByteArray), (⟨#[57, 49, 49, 84, 69, 67, 72, 84, 73, 77, 79]⟩ : ByteArray), (⟨#[57, 49, 50, 84, 69, 67, 72, 68, 79, 87, 78]⟩ : ByteArray)] : List ByteArray))
set_option maxHeartbeats 8000000 in
set_option maxRecDepth 100000 in
theorem comptoirref07_table.calls  (r : List ByteArray) (w : World) (h : comptoirref07_table.f  = some r) :
    Calls Tryz.prog 44 #[] w fun e w' => ∃ v0_ : Value, e = .returned (v0_) ∧ Kd.R Kd.string 9 w' w.heap.size (fun _ => True) v0_ r ∧ Below w.heap.size w w' := by
  have HB := Aside0.mk (Below.refl w.heap.size w)
  have H : (some (([(⟨#[48, 48, 48, 65, 80, 80, 82, 78, 79, 82, 77]⟩ : ByteArray), (⟨#[48, 48, 49, 65, 80, 80, 82, 73, 68, 69, 78]⟩ : ByteArray), (⟨#[48, 48, 50, 80, 65, 82, 84, 78, 79, 82, 77]⟩ : ByteArray), (⟨#[49, 48, 48, 68, 69, 67, 76, 78, 79, 82, 77]⟩ : ByteArray), (⟨#[49, 48, 49, 68, 69, 67, 76, 69, 88, 80, 68]⟩ : ByteArray), (⟨#[49, 48, 50, 68, 69, 67, 76, 70, 82, 65, 85]⟩ : ByteArray), (⟨#[49, 48, 52, 68, 69, 67, 76, 82, 69, 83, 84]⟩ : ByteArray), (⟨#[49, 48, 57, 68, 69, 67, 76, 77, 82, 67, 72]⟩ : ByteArray), (⟨#[49, 49, 48, 68, 69, 67, 76, 65, 77, 78, 84]⟩ : ByteArray), (⟨#[49, 49, 54, 68, 69, 67, 76, 73, 78, 83, 70]⟩ : ByteArray), (⟨#[49, 49, 55, 68, 69, 67, 76, 80, 73, 78, 86]⟩ : ByteArray), (⟨#[49, 49, 56, 68, 69, 67, 76, 78, 79, 67, 68]⟩ : ByteArray), (⟨#[49, 50, 49, 68, 69, 67, 76, 76, 73, 77, 84]⟩ : ByteArray), (⟨#[50, 48, 48, 80, 73, 67, 75, 78, 79, 82, 77]⟩ : ByteArray), (⟨#[52, 48, 48, 82, 86, 83, 76, 78, 79, 82, 77]⟩ : ByteArray), (⟨#[53, 48, 48, 82, 69, 67, 78, 78, 79, 82, 77]⟩ : ByteArray), (⟨#[56, 48, 48, 78, 69, 84, 87, 78, 79, 82, 77]⟩ : ByteArray), (⟨#[57, 48, 52, 84, 69, 67, 72, 70, 79, 82, 77]⟩ : ByteArray), (⟨#[57, 48, 55, 84, 69, 67, 72, 73, 83, 83, 82]⟩ : ByteArray), (⟨#[57, 48, 57, 84, 69, 67, 72, 66, 85, 83, 89]⟩ : ByteArray), (⟨#[57, 49, 49, 84, 69, 67, 72, 84, 73, 77, 79]⟩ : ByteArray), (⟨#[57, 49, 50, 84, 69, 67, 72, 68, 79, 87, 78]⟩ : ByteArray)] : List ByteArray))) = some r := h
  clear h
  obtain ⟨y301, hy301⟩ : ∃ y_ : List ByteArray, y_ = (([(⟨#[48, 48, 48, 65, 80, 80, 82, 78, 79, 82, 77]⟩ : ByteArray), (⟨#[48, 48, 49, 65, 80, 80, 82, 73, 68, 69, 78]⟩ : ByteArray), (⟨#[48, 48, 50, 80, 65, 82, 84, 78, 79, 82, 77]⟩ : ByteArray), (⟨#[49, 48, 48, 68, 69, 67, 76, 78, 79, 82, 77]⟩ : ByteArray), (⟨#[49, 48, 49, 68, 69, 67, 76, 69, 88, 80, 68]⟩ : ByteArray), (⟨#[49, 48, 50, 68, 69, 67, 76, 70, 82, 65, 85]⟩ : ByteArray), (⟨#[49, 48, 52, 68, 69, 67, 76, 82, 69, 83, 84]⟩ : ByteArray), (⟨#[49, 48, 57, 68, 69, 67, 76, 77, 82, 67, 72]⟩ : ByteArray), (⟨#[49, 49, 48, 68, 69, 67, 76, 65, 77, 78, 84]⟩ : ByteArray), (⟨#[49, 49, 54, 68, 69, 67, 76, 73, 78, 83, 70]⟩ : ByteArray), (⟨#[49, 49, 55, 68, 69, 67, 76, 80, 73, 78, 86]⟩ : ByteArray), (⟨#[49, 49, 56, 68, 69, 67, 76, 78, 79, 67, 68]⟩ : ByteArray), (⟨#[49, 50, 49, 68, 69, 67, 76, 76, 73, 77, 84]⟩ : ByteArray), (⟨#[50, 48, 48, 80, 73, 67, 75, 78, 79, 82, 77]⟩ : ByteArray), (⟨#[52, 48, 48, 82, 86, 83, 76, 78, 79, 82, 77]⟩ : ByteArray), (⟨#[53, 48, 48, 82, 69, 67, 78, 78, 79, 82, 77]⟩ : ByteArray), (⟨#[56, 48, 48, 78, 69, 84, 87, 78, 79, 82, 77]⟩ : ByteArray), (⟨#[57, 48, 52, 84, 69, 67, 72, 70, 79, 82, 77]⟩ : ByteArray), (⟨#[57, 48, 55, 84, 69, 67, 72, 73, 83, 83, 82]⟩ : ByteArray), (⟨#[57, 48, 57, 84, 69, 67, 72, 66, 85, 83, 89]⟩ : ByteArray), (⟨#[57, 49, 49, 84, 69, 67, 72, 84, 73, 77, 79]⟩ : ByteArray), (⟨#[57, 49, 50, 84, 69, 67, 72, 68, 79, 87, 78]⟩ : ByteArray)] : List ByteArray)) := ⟨_, rfl⟩
  replace H : (some y301) = some r := by first | (rw [hy301]; with_reducible exact H) | (have H2_ := (Option.bind_some _ _).symm.trans H; rw [hy301]; with_reducible exact H2_) | (have H2_ := (Option.bind_some _ _).symm.trans H; with_reducible exact H2_) | with_reducible exact H | (rw [hy301]; exact H) | exact H
  have Ny301 := Aside0.mk hy301
  clear hy301
  obtain rfl := Option.some.inj H
  simp only [Option.some.injEq, Prod.mk.injEq] at H
  obtain ⟨rfl⟩ := H
  go_enter Tryz.func44, Tryz.ntmps44
  go_wp2_with (first | ((with_reducible refine gate_dst (N := 1) rfl ?_); refine Kd.R_lit Kd.string _ 9 ?hg (N := 1) ?hd (xs := ([(⟨#[48, 48, 48, 65, 80, 80, 82, 78, 79, 82, 77]⟩ : ByteArray), (⟨#[48, 48, 49, 65, 80, 80, 82, 73, 68, 69, 78]⟩ : ByteArray), (⟨#[48, 48, 50, 80, 65, 82, 84, 78, 79, 82, 77]⟩ : ByteArray), (⟨#[49, 48, 48, 68, 69, 67, 76, 78, 79, 82, 77]⟩ : ByteArray), (⟨#[49, 48, 49, 68, 69, 67, 76, 69, 88, 80, 68]⟩ : ByteArray), (⟨#[49, 48, 50, 68, 69, 67, 76, 70, 82, 65, 85]⟩ : ByteArray), (⟨#[49, 48, 52, 68, 69, 67, 76, 82, 69, 83, 84]⟩ : ByteArray), (⟨#[49, 48, 57, 68, 69, 67, 76, 77, 82, 67, 72]⟩ : ByteArray), (⟨#[49, 49, 48, 68, 69, 67, 76, 65, 77, 78, 84]⟩ : ByteArray), (⟨#[49, 49, 54, 68, 69, 67, 76, 73, 78, 83, 70]⟩ : ByteArray), (⟨#[49, 49, 55, 68, 69, 67, 76, 80, 73, 78, 86]⟩ : ByteArray), (⟨#[49, 49, 56, 68, 69, 67, 76, 78, 79, 67, 68]⟩ : ByteArray), (⟨#[49, 50, 49, 68, 69, 67, 76, 76, 73, 77, 84]⟩ : ByteArray), (⟨#[50, 48, 48, 80, 73, 67, 75, 78, 79, 82, 77]⟩ : ByteArray), (⟨#[52, 48, 48, 82, 86, 83, 76, 78, 79, 82, 77]⟩ : ByteArray), (⟨#[53, 48, 48, 82, 69, 67, 78, 78, 79, 82, 77]⟩ : ByteArray), (⟨#[56, 48, 48, 78, 69, 84, 87, 78, 79, 82, 77]⟩ : ByteArray), (⟨#[57, 48, 52, 84, 69, 67, 72, 70, 79, 82, 77]⟩ : ByteArray), (⟨#[57, 48, 55, 84, 69, 67, 72, 73, 83, 83, 82]⟩ : ByteArray), (⟨#[57, 48, 57, 84, 69, 67, 72, 66, 85, 83, 89]⟩ : ByteArray), (⟨#[57, 49, 49, 84, 69, 67, 72, 84, 73, 77, 79]⟩ : ByteArray), (⟨#[57, 49, 50, 84, 69, 67, 72, 68, 79, 87, 78]⟩ : ByteArray)] : List ByteArray)) (inner := [.string (⟨#[48, 48, 48, 65, 80, 80, 82, 78, 79, 82, 77]⟩ : ByteArray), .string (⟨#[48, 48, 49, 65, 80, 80, 82, 73, 68, 69, 78]⟩ : ByteArray), .string (⟨#[48, 48, 50, 80, 65, 82, 84, 78, 79, 82, 77]⟩ : ByteArray), .string (⟨#[49, 48, 48, 68, 69, 67, 76, 78, 79, 82, 77]⟩ : ByteArray), .string (⟨#[49, 48, 49, 68, 69, 67, 76, 69, 88, 80, 68]⟩ : ByteArray), .string (⟨#[49, 48, 50, 68, 69, 67, 76, 70, 82, 65, 85]⟩ : ByteArray), .string (⟨#[49, 48, 52, 68, 69, 67, 76, 82, 69, 83, 84]⟩ : ByteArray), .string (⟨#[49, 48, 57, 68, 69, 67, 76, 77, 82, 67, 72]⟩ : ByteArray), .string (⟨#[49, 49, 48, 68, 69, 67, 76, 65, 77, 78, 84]⟩ : ByteArray), .string (⟨#[49, 49, 54, 68, 69, 67, 76, 73, 78, 83, 70]⟩ : ByteArray), .string (⟨#[49, 49, 55, 68, 69, 67, 76, 80, 73, 78, 86]⟩ : ByteArray), .string (⟨#[49, 49, 56, 68, 69, 67, 76, 78, 79, 67, 68]⟩ : ByteArray), .string (⟨#[49, 50, 49, 68, 69, 67, 76, 76, 73, 77, 84]⟩ : ByteArray), .string (⟨#[50, 48, 48, 80, 73, 67, 75, 78, 79, 82, 77]⟩ : ByteArray), .string (⟨#[52, 48, 48, 82, 86, 83, 76, 78, 79, 82, 77]⟩ : ByteArray), .string (⟨#[53, 48, 48, 82, 69, 67, 78, 78, 79, 82, 77]⟩ : ByteArray), .string (⟨#[56, 48, 48, 78, 69, 84, 87, 78, 79, 82, 77]⟩ : ByteArray), .string (⟨#[57, 48, 52, 84, 69, 67, 72, 70, 79, 82, 77]⟩ : ByteArray), .string (⟨#[57, 48, 55, 84, 69, 67, 72, 73, 83, 83, 82]⟩ : ByteArray), .string (⟨#[57, 48, 57, 84, 69, 67, 72, 66, 85, 83, 89]⟩ : ByteArray), .string (⟨#[57, 49, 49, 84, 69, 67, 72, 84, 73, 77, 79]⟩ : ByteArray), .string (⟨#[57, 49, 50, 84, 69, 67, 72, 68, 79, 87, 78]⟩ : ByteArray)]) (ok := fun _ => True) (okp := fun _ => True) ?hr ?hp (fun _ hk => hk) trivial (Below.refl _ _) (Nat.le_refl _) (by simp) ?_; (case hd => rfl); (case hg => rfl); (case hr => first | (go_simp; done) | (go_simp; rfl) | (go_simp; simp only [show ∀ l_ : List UInt8, (l_ != []) = !l_.isEmpty from fun l_ => by cases l_ <;> rfl]; done)); (case hp => exact (Reps.one (show Kd.M Kd.string _ _ _ (⟨#[48, 48, 48, 65, 80, 80, 82, 78, 79, 82, 77]⟩ : ByteArray) [.string (⟨#[48, 48, 48, 65, 80, 80, 82, 78, 79, 82, 77]⟩ : ByteArray)] from rfl) (Reps.one (show Kd.M Kd.string _ _ _ (⟨#[48, 48, 49, 65, 80, 80, 82, 73, 68, 69, 78]⟩ : ByteArray) [.string (⟨#[48, 48, 49, 65, 80, 80, 82, 73, 68, 69, 78]⟩ : ByteArray)] from rfl) (Reps.one (show Kd.M Kd.string _ _ _ (⟨#[48, 48, 50, 80, 65, 82, 84, 78, 79, 82, 77]⟩ : ByteArray) [.string (⟨#[48, 48, 50, 80, 65, 82, 84, 78, 79, 82, 77]⟩ : ByteArray)] from rfl) (Reps.one (show Kd.M Kd.string _ _ _ (⟨#[49, 48, 48, 68, 69, 67, 76, 78, 79, 82, 77]⟩ : ByteArray) [.string (⟨#[49, 48, 48, 68, 69, 67, 76, 78, 79, 82, 77]⟩ : ByteArray)] from rfl) (Reps.one (show Kd.M Kd.string _ _ _ (⟨#[49, 48, 49, 68, 69, 67, 76, 69, 88, 80, 68]⟩ : ByteArray) [.string (⟨#[49, 48, 49, 68, 69, 67, 76, 69, 88, 80, 68]⟩ : ByteArray)] from rfl) (Reps.one (show Kd.M Kd.string _ _ _ (⟨#[49, 48, 50, 68, 69, 67, 76, 70, 82, 65, 85]⟩ : ByteArray) [.string (⟨#[49, 48, 50, 68, 69, 67, 76, 70, 82, 65, 85]⟩ : ByteArray)] from rfl) (Reps.one (show Kd.M Kd.string _ _ _ (⟨#[49, 48, 52, 68, 69, 67, 76, 82, 69, 83, 84]⟩ : ByteArray) [.string (⟨#[49, 48, 52, 68, 69, 67, 76, 82, 69, 83, 84]⟩ : ByteArray)] from rfl) (Reps.one (show Kd.M Kd.string _ _ _ (⟨#[49, 48, 57, 68, 69, 67, 76, 77, 82, 67, 72]⟩ : ByteArray) [.string (⟨#[49, 48, 57, 68, 69, 67, 76, 77, 82, 67, 72]⟩ : ByteArray)] from rfl) (Reps.one (show Kd.M Kd.string _ _ _ (⟨#[49, 49, 48, 68, 69, 67, 76, 65, 77, 78, 84]⟩ : ByteArray) [.string (⟨#[49, 49, 48, 68, 69, 67, 76, 65, 77, 78, 84]⟩ : ByteArray)] from rfl) (Reps.one (show Kd.M Kd.string _ _ _ (⟨#[49, 49, 54, 68, 69, 67, 76, 73, 78, 83, 70]⟩ : ByteArray) [.string (⟨#[49, 49, 54, 68, 69, 67, 76, 73, 78, 83, 70]⟩ : ByteArray)] from rfl) (Reps.one (show Kd.M Kd.string _ _ _ (⟨#[49, 49, 55, 68, 69, 67, 76, 80, 73, 78, 86]⟩ : ByteArray) [.string (⟨#[49, 49, 55, 68, 69, 67, 76, 80, 73, 78, 86]⟩ : ByteArray)] from rfl) (Reps.one (show Kd.M Kd.string _ _ _ (⟨#[49, 49, 56, 68, 69, 67, 76, 78, 79, 67, 68]⟩ : ByteArray) [.string (⟨#[49, 49, 56, 68, 69, 67, 76, 78, 79, 67, 68]⟩ : ByteArray)] from rfl) (Reps.one (show Kd.M Kd.string _ _ _ (⟨#[49, 50, 49, 68, 69, 67, 76, 76, 73, 77, 84]⟩ : ByteArray) [.string (⟨#[49, 50, 49, 68, 69, 67, 76, 76, 73, 77, 84]⟩ : ByteArray)] from rfl) (Reps.one (show Kd.M Kd.string _ _ _ (⟨#[50, 48, 48, 80, 73, 67, 75, 78, 79, 82, 77]⟩ : ByteArray) [.string (⟨#[50, 48, 48, 80, 73, 67, 75, 78, 79, 82, 77]⟩ : ByteArray)] from rfl) (Reps.one (show Kd.M Kd.string _ _ _ (⟨#[52, 48, 48, 82, 86, 83, 76, 78, 79, 82, 77]⟩ : ByteArray) [.string (⟨#[52, 48, 48, 82, 86, 83, 76, 78, 79, 82, 77]⟩ : ByteArray)] from rfl) (Reps.one (show Kd.M Kd.string _ _ _ (⟨#[53, 48, 48, 82, 69, 67, 78, 78, 79, 82, 77]⟩ : ByteArray) [.string (⟨#[53, 48, 48, 82, 69, 67, 78, 78, 79, 82, 77]⟩ : ByteArray)] from rfl) (Reps.one (show Kd.M Kd.string _ _ _ (⟨#[56, 48, 48, 78, 69, 84, 87, 78, 79, 82, 77]⟩ : ByteArray) [.string (⟨#[56, 48, 48, 78, 69, 84, 87, 78, 79, 82, 77]⟩ : ByteArray)] from rfl) (Reps.one (show Kd.M Kd.string _ _ _ (⟨#[57, 48, 52, 84, 69, 67, 72, 70, 79, 82, 77]⟩ : ByteArray) [.string (⟨#[57, 48, 52, 84, 69, 67, 72, 70, 79, 82, 77]⟩ : ByteArray)] from rfl) (Reps.one (show Kd.M Kd.string _ _ _ (⟨#[57, 48, 55, 84, 69, 67, 72, 73, 83, 83, 82]⟩ : ByteArray) [.string (⟨#[57, 48, 55, 84, 69, 67, 72, 73, 83, 83, 82]⟩ : ByteArray)] from rfl) (Reps.one (show Kd.M Kd.string _ _ _ (⟨#[57, 48, 57, 84, 69, 67, 72, 66, 85, 83, 89]⟩ : ByteArray) [.string (⟨#[57, 48, 57, 84, 69, 67, 72, 66, 85, 83, 89]⟩ : ByteArray)] from rfl) (Reps.one (show Kd.M Kd.string _ _ _ (⟨#[57, 49, 49, 84, 69, 67, 72, 84, 73, 77, 79]⟩ : ByteArray) [.string (⟨#[57, 49, 49, 84, 69, 67, 72, 84, 73, 77, 79]⟩ : ByteArray)] from rfl) (Reps.one (show Kd.M Kd.string _ _ _ (⟨#[57, 49, 50, 84, 69, 67, 72, 68, 79, 87, 78]⟩ : ByteArray) [.string (⟨#[57, 49, 50, 84, 69, 67, 72, 68, 79, 87, 78]⟩ : ByteArray)] from rfl) (Reps.none _ _)))))))))))))))))))))))); intro v302 w1 ho2 hb hg_ hnew_; clear hg_ hnew_; (first | rw [← Ny301.out] at ho2 | (simp only [Int.reduceToNat] at ho2; rw [← Ny301.out] at ho2)); have n0_ := Aside0.mk (Kd.R_lower ho2 (below_size (by repeat (first | (with_reducible first | exact HB.out | apply below_alloc | apply pw_below_drewN | apply below_drew1) | exact HB.out)))); have n1_ := Aside0.mk (below_step (by repeat (first | (with_reducible first | exact HB.out | apply below_alloc | apply pw_below_drewN | apply below_drew1) | exact HB.out)) hb); clear HB; have HO303 := n0_; have HB := n1_; clear n0_ n1_; clear hb ho2))
  go_ret
  exact ⟨_, by first | rfl | (simp [errW_none, errW_some] <;> rfl) | (simp [*, errW_none, errW_some] <;> rfl), by (with_reducible repeat (first | apply Kd.R_alloc | apply Kd.R_drewN | apply Kd.R_drew)); exact HO303.out, by repeat (first | (with_reducible first | exact HB.out | apply below_alloc | apply pw_below_drewN | apply below_drew1) | exact HB.out)⟩

def comptoirref07_Actions.l0 : Nat → List ByteArray → List ByteArray → Int → Option (List ByteArray)
  | 0, _, _, _ => none
  | k + 1, x1, x2, x3 => if x3 < (x2.length : Int) then (if 0 ≤ x3 then (if 0 ≤ 3 then (if 3 ≤ ((rdOf ByteArray.empty x2 x3).size : Int) then (if x1.length < 8796093022208 then (comptoirref07_Actions.l0 k (x1 ++ [(rdOf ByteArray.empty x2 x3).extract 0 3]) x2 (wrap64 (x3 + 1))) else (none)) else (none)) else (none)) else (none)) else (some x1)
def comptoirref07_Actions.f (k : Nat)  : Option (List ByteArray) := (comptoirref07_table.f).bind fun t304 => (comptoirref07_Actions.l0 k ([] : List ByteArray) t304 0)
set_option maxHeartbeats 8000000 in
set_option maxRecDepth 100000 in
theorem comptoirref07_Actions.calls (k : Nat)  (r : List ByteArray) (w : World) (h : comptoirref07_Actions.f k  = some r) :
    Calls Tryz.prog 21 #[] w fun e w' => ∃ v0_ : Value, e = .returned (v0_) ∧ Kd.R Kd.string 9 w' w.heap.size (fun _ => True) v0_ r ∧ Below w.heap.size w w' := by
  have HB := Aside0.mk (Below.refl w.heap.size w)
  have H : ((comptoirref07_table.f).bind fun t304 => (comptoirref07_Actions.l0 k ([] : List ByteArray) t304 0)) = some r := h
  clear h
  replace H := Option.bind_eq_some_iff.mp H
  obtain ⟨t304, A10, H⟩ := H
  replace H : (comptoirref07_Actions.l0 k ([] : List ByteArray) t304 0) = some r := H
  have A1 := Aside0.mk A10
  clear A10
  have H' := Aside0.mk H
  clear H
  go_enter Tryz.func21, Tryz.ntmps21
  go_wp2_with (first | ((with_reducible refine gate_callee (f := 44) rfl ?_); refine goesL_ (some 4) rfl rfl Tryz.func44 (by kernel_rfl) rfl #[] rfl (by (try simp only [List.map_toArray, List.map_cons, List.map_nil]); first | done | rfl | (simp only [List.length_drop, List.length_take]; rfl)) ?_; (with_reducible refine (comptoirref07_table.calls  t304 _ A1.out).mono ?_); rintro e w2 ⟨v305, rfl, ho0, hb⟩; refine ⟨_, rfl, ?_⟩; have n0_ := Aside0.mk (Kd.R_lower ho0 (below_size (by repeat (first | (with_reducible first | exact HB.out | apply below_alloc | apply pw_below_drewN | apply below_drew1) | exact HB.out)))); have n1_ := Aside0.mk (below_step (by repeat (first | (with_reducible first | exact HB.out | apply below_alloc | apply pw_below_drewN | apply below_drew1) | exact HB.out)) hb); clear HB; have HO306 := n0_; have HB := n1_; clear n0_ n1_; (try clear hb); (try clear hb2); (try clear hk); (try clear hi); (try clear ho0)))
  go_loopg [1, 3] k (fun kq v1 v3 w' => ∃ (x1_1 : List ByteArray) (x3_1 : Int), v3 = .int .i64 x3_1 ∧ Aside0 (comptoirref07_Actions.l0 kq x1_1 t304 x3_1 = some r) ∧ Aside0 (kq ≤ k) ∧ Aside0 (Kd.R Kd.string 9 w' w.heap.size (fun k_ => some k_ ≠ (v305 : Value).ownBlock) v1 x1_1) ∧ Aside0 (Kd.R Kd.string 9 w' w.heap.size (fun k_ => some k_ ≠ (v1 : Value).ownBlock) v305 t304) ∧ Aside0 (Below w.heap.size w w'))
  case atStart => exact ⟨(([] : List ByteArray)), (0), (by first | rfl | (simp; done) | (simp [*]; done)), H', ⟨Nat.le_refl _⟩, ⟨by first | exact Kd.R_nil _ _ _ _ _ | exact Kd.N_nil _ _ _ _ _ | exact Kd.V_nil _ _ _ _ _ | exact Kd.Q_nil _ _ _ _ _ | exact Kd.S_nil _ _ _ _ _⟩, ⟨by (with_reducible repeat (first | apply Kd.R_alloc | apply Kd.R_drewN | apply Kd.R_drew)); exact Kd.R_mono HO306.out (fun _ hk => (by simp [Value.ownBlock]))⟩, ⟨by repeat (first | (with_reducible first | exact HB.out | apply below_alloc | apply pw_below_drewN | apply below_drew1) | exact HB.out)⟩⟩
  case round =>
    clear H'
    try clear c2
    try clear p2
    obtain ⟨x1_1, x3_1, rfl, HA, HK1, HO_1, HO_2, HB⟩ := hrel
    cases gk with
    | zero => exact absurd HA.out (by simp [comptoirref07_Actions.l0])
    | succ k1 =>
      have H := HA.out
      clear HA
      simp only [comptoirref07_Actions.l0] at H
      by_cases c3 : x3_1 < (t304.length : Int)
      · rw [if_pos c3] at H
        have c3b0 : decide (x3_1 < (t304.length : Int)) = true := decide_eq_true c3
        clear c3
        by_cases c4 : 0 ≤ x3_1
        · rw [if_pos c4] at H
          have c4b0 : decide (0 ≤ x3_1) = true := decide_eq_true c4
          clear c4
          by_cases c5 : 0 ≤ 3
          · rw [if_pos c5] at H
            have c5b0 := eq_true c5
            have c5b1 : decide (0 ≤ 3) = true := decide_eq_true c5
            clear c5
            by_cases c6 : 3 ≤ ((rdOf ByteArray.empty t304 x3_1).size : Int)
            · rw [if_pos c6] at H
              have c6b0 := eq_true c6
              have c6b1 : decide (3 ≤ ((rdOf ByteArray.empty t304 x3_1).size : Int)) = true := decide_eq_true c6
              clear c6
              by_cases c7 : x1_1.length < 8796093022208
              · rw [if_pos c7] at H
                have LMc7 := Aside0.mk c7
                clear c7
                obtain ⟨y308, hy308⟩ : ∃ y_ : List ByteArray, y_ = (x1_1 ++ [(rdOf ByteArray.empty t304 x3_1).extract 0 3]) := ⟨_, rfl⟩
                replace H : (comptoirref07_Actions.l0 k1 y308 t304 (wrap64 (x3_1 + 1))) = some r := by first | (rw [hy308]; with_reducible exact H) | (have H2_ := (Option.bind_some _ _).symm.trans H; rw [hy308]; with_reducible exact H2_) | (have H2_ := (Option.bind_some _ _).symm.trans H; with_reducible exact H2_) | with_reducible exact H | (rw [hy308]; exact H) | exact H
                have Ny308 := Aside0.mk hy308
                clear hy308
                have H' := Aside0.mk H
                clear H
                obtain ⟨Ao8, co8, eo8⟩ := Kd.R_slice HO_2.out
                subst eo8
                have p307 : 0 ≤ (x3_1 : Int) := of_decide_eq_true (by first | (with_reducible assumption) | assumption)
                have q307 : x3_1 < (t304.length : Int) := of_decide_eq_true (by first | (with_reducible assumption) | assumption)
                obtain ⟨ad307, e307, hx307_0⟩ := Kd.at_string (Kd.R_reads' HO_2.out).2.2 x3_1 p307 q307
                cases e307
                replace p307 := eq_true p307
                replace q307 := eq_true q307
                go_wp2_with (first | ((with_reducible refine gate_builtin (b := .append) (xs := #[.tmp 11, .tmp 17]) rfl ?_); at_builtin; refine Kd.R_append Kd.string (w0 := w) w.heap.size rfl (.tmp 11) (.tmp 17) 62 9 (.string ⟨#[]⟩) 16 rfl Tryz.underlying62 info9 rfl (by decide) (by omega) u1 x1_1 ((rdOf ByteArray.empty t304 x3_1).extract 0 3) [.string ((rdOf ByteArray.empty t304 x3_1).extract 0 3)] (fun k_ => some k_ ≠ (.slice (some ad307) t304.length co8 : Value).ownBlock) (fun _ => False) rfl rfl ?aP (fun _ hk => hk.elim) ?aF ?aO ?aB ?aS ?aL ?_; (case aP => exact rfl); (case aB => exact (by repeat (first | (with_reducible first | exact HB.out | apply below_alloc | apply pw_below_drewN | apply below_drew1) | exact HB.out))); (case aF => exact (fun k_ hk => Kd.fresh' (Kd.R_lt (by (with_reducible repeat (first | apply Kd.R_alloc | apply Kd.R_drewN | apply Kd.R_drew)); exact HO_2.out)) k_ hk)); (case aO => exact (by (with_reducible repeat (first | apply Kd.R_alloc | apply Kd.R_drewN | apply Kd.R_drew)); exact HO_1.out)); (case aS => exact (below_size (by repeat (first | (with_reducible first | exact HB.out | apply below_alloc | apply pw_below_drewN | apply below_drew1) | exact HB.out)))); (case aL => have := LMc7.out; omega); intro v309 w9 ho hb hg hat; rw [← Ny308.out] at ho; have n0_ := Aside0.mk (Kd.R_after (ok := (fun _ => True)) (by (with_reducible repeat (first | apply Kd.R_alloc | apply Kd.R_drewN | apply Kd.R_drew)); exact Kd.R_mono HO_2.out (fun _ hk => ⟨trivial, hk⟩)) hg hat); have n1_ := Aside0.mk (hb); have n2_ := Aside0.mk (ho); clear HO_2; clear HB; clear HO_1; have HO_2 := n0_; have HB := n1_; have HO310 := n2_; clear n0_ n1_ n2_; clear ho hb hg hat))
                go_roundg k1
                case measure => have := HK1.out; omega
                case rel => exact ⟨(y308), (wrap64 (x3_1 + 1)), (by first | rfl | (simp; done) | (simp [*]; done)), H', ⟨by have := HK1.out; omega⟩, ⟨by (with_reducible repeat (first | apply Kd.R_alloc | apply Kd.R_drewN | apply Kd.R_drew)); exact HO310.out⟩, ⟨by (with_reducible repeat (first | apply Kd.R_alloc | apply Kd.R_drewN | apply Kd.R_drew)); exact Kd.R_mono HO_2.out (fun _ hk => hk.2)⟩, ⟨by repeat (first | (with_reducible first | exact HB.out | apply below_alloc | apply pw_below_drewN | apply below_drew1) | exact HB.out)⟩⟩
              · rw [if_neg c7] at H
                exact absurd H (by simp)
            · rw [if_neg c6] at H
              exact absurd H (by simp)
          · rw [if_neg c5] at H
            exact absurd H (by simp)
        · rw [if_neg c4] at H
          exact absurd H (by simp)
      · rw [if_neg c3] at H
        have c3b0 : decide (x3_1 < (t304.length : Int)) = false := decide_eq_false c3
        clear c3
        obtain rfl := Option.some.inj H
        simp only [Option.some.injEq, Prod.mk.injEq] at H
        obtain ⟨rfl⟩ := H
        obtain ⟨Ao10, co10, eo10⟩ := Kd.R_slice HO_2.out
        subst eo10
        go_wp2
        go_ret
        exact ⟨_, by first | rfl | (simp [errW_none, errW_some] <;> rfl) | (simp [*, errW_none, errW_some] <;> rfl), by (with_reducible repeat (first | apply Kd.R_alloc | apply Kd.R_drewN | apply Kd.R_drew)); exact Kd.R_mono HO_1.out (fun _ hk => trivial), by repeat (first | (with_reducible first | exact HB.out | apply below_alloc | apply pw_below_drewN | apply below_drew1) | exact HB.out)⟩

def comptoirref07_Words.l0 : Nat → ByteArray → List ByteArray → Int → Option (ByteArray × ByteArray × Bool)
  | 0, _, _, _ => none
  | k + 1, x0, x5, x6 => if x6 < (x5.length : Int) then (if 0 ≤ x6 then (if 0 ≤ 3 then (if 3 ≤ ((rdOf ByteArray.empty x5 x6).size : Int) then (if ((rdOf ByteArray.empty x5 x6).extract 0 3).toList = x0.toList then (if 3 ≤ 7 then (if 7 ≤ ((rdOf ByteArray.empty x5 x6).size : Int) then (some ((rdOf ByteArray.empty x5 x6).extract 3 7, (rdOf ByteArray.empty x5 x6).extract 7 (rdOf ByteArray.empty x5 x6).size, true)) else (none)) else (none)) else (comptoirref07_Words.l0 k x0 x5 (wrap64 (x6 + 1)))) else (none)) else (none)) else (none)) else (some ((⟨#[]⟩ : ByteArray), (⟨#[]⟩ : ByteArray), false))
def comptoirref07_Words.f (k : Nat) (a0 : ByteArray) : Option (ByteArray × ByteArray × Bool) := (comptoirref07_table.f).bind fun t311 => (comptoirref07_Words.l0 k a0 t311 0)
set_option maxHeartbeats 8000000 in
set_option maxRecDepth 100000 in
theorem comptoirref07_Words.calls (k : Nat) (a0 : ByteArray) (r1 : ByteArray) (r2 : ByteArray) (r3 : Bool) (w : World) (h : comptoirref07_Words.f k a0 = some (r1, r2, r3)) :
    Calls Tryz.prog 45 #[.string a0] w fun e w' => e = .returned (.tuple #[.string r1, .string r2, .bool r3]) ∧ Below w.heap.size w w' := by
  have HB := Aside0.mk (Below.refl w.heap.size w)
  have H : ((comptoirref07_table.f).bind fun t311 => (comptoirref07_Words.l0 k a0 t311 0)) = some (r1, r2, r3) := h
  clear h
  replace H := Option.bind_eq_some_iff.mp H
  obtain ⟨t311, A20, H⟩ := H
  replace H : (comptoirref07_Words.l0 k a0 t311 0) = some (r1, r2, r3) := H
  have A2 := Aside0.mk A20
  clear A20
  have H' := Aside0.mk H
  clear H
  go_enter Tryz.func45, Tryz.ntmps45
  go_wp2_with (first | (go_at_call 44; (with_reducible refine (comptoirref07_table.calls  t311 _ A2.out).mono ?_); rintro e w3 ⟨v312, rfl, ho0, hb⟩; have n0_ := Aside0.mk (Kd.R_lower ho0 (below_size (by repeat (first | (with_reducible first | exact HB.out | apply below_alloc | apply pw_below_drewN | apply below_drew1) | exact HB.out)))); have n1_ := Aside0.mk (below_step (by repeat (first | (with_reducible first | exact HB.out | apply below_alloc | apply pw_below_drewN | apply below_drew1) | exact HB.out)) hb); clear HB; have HO313 := n0_; have HB := n1_; clear n0_ n1_; (try clear hb); (try clear hb2); (try clear hk); (try clear hi); (try clear ho0)))
  repeat (go_quiet (first | (go_at_call 44; (with_reducible refine (comptoirref07_table.calls  t311 _ A2.out).mono ?_); rintro e w3 ⟨v312, rfl, ho0, hb⟩; have n0_ := Aside0.mk (Kd.R_lower ho0 (below_size (by repeat (first | (with_reducible first | exact HB.out | apply below_alloc | apply pw_below_drewN | apply below_drew1) | exact HB.out)))); have n1_ := Aside0.mk (below_step (by repeat (first | (with_reducible first | exact HB.out | apply below_alloc | apply pw_below_drewN | apply below_drew1) | exact HB.out)) hb); clear HB; have HO313 := n0_; have HB := n1_; clear n0_ n1_; (try clear hb); (try clear hb2); (try clear hk); (try clear hi); (try clear ho0))); try go_wp2_with (first | (go_at_call 44; (with_reducible refine (comptoirref07_table.calls  t311 _ A2.out).mono ?_); rintro e w3 ⟨v312, rfl, ho0, hb⟩; have n0_ := Aside0.mk (Kd.R_lower ho0 (below_size (by repeat (first | (with_reducible first | exact HB.out | apply below_alloc | apply pw_below_drewN | apply below_drew1) | exact HB.out)))); have n1_ := Aside0.mk (below_step (by repeat (first | (with_reducible first | exact HB.out | apply below_alloc | apply pw_below_drewN | apply below_drew1) | exact HB.out)) hb); clear HB; have HO313 := n0_; have HB := n1_; clear n0_ n1_; (try clear hb); (try clear hb2); (try clear hk); (try clear hi); (try clear ho0))))
  go_loopg [6] k (fun kq v6 w' => ∃ (x6_1 : Int), v6 = .int .i64 x6_1 ∧ Aside0 (comptoirref07_Words.l0 kq a0 t311 x6_1 = some (r1, r2, r3)) ∧ Aside0 (kq ≤ k) ∧ Aside0 (Kd.R Kd.string 9 w' w.heap.size (fun _ => True) v312 t311) ∧ Aside0 (Below w.heap.size w w'))
  case atStart => exact ⟨(0), (by first | rfl | (simp; done) | (simp [*]; done)), H', ⟨Nat.le_refl _⟩, ⟨by (with_reducible repeat (first | apply Kd.R_alloc | apply Kd.R_drewN | apply Kd.R_drew)); exact HO313.out⟩, ⟨by repeat (first | (with_reducible first | exact HB.out | apply below_alloc | apply pw_below_drewN | apply below_drew1) | exact HB.out)⟩⟩
  case round =>
    clear H'
    try clear p2
    obtain ⟨x6_1, rfl, HA, HK1, HO_5, HB⟩ := hrel
    cases gk with
    | zero => exact absurd HA.out (by simp [comptoirref07_Words.l0])
    | succ k1 =>
      have H := HA.out
      clear HA
      simp only [comptoirref07_Words.l0] at H
      by_cases c4 : x6_1 < (t311.length : Int)
      · rw [if_pos c4] at H
        have c4b0 : decide (x6_1 < (t311.length : Int)) = true := decide_eq_true c4
        clear c4
        by_cases c5 : 0 ≤ x6_1
        · rw [if_pos c5] at H
          have c5b0 : decide (0 ≤ x6_1) = true := decide_eq_true c5
          clear c5
          by_cases c6 : 0 ≤ 3
          · rw [if_pos c6] at H
            have c6b0 := eq_true c6
            have c6b1 : decide (0 ≤ 3) = true := decide_eq_true c6
            clear c6
            by_cases c7 : 3 ≤ ((rdOf ByteArray.empty t311 x6_1).size : Int)
            · rw [if_pos c7] at H
              have c7b0 := eq_true c7
              have c7b1 : decide (3 ≤ ((rdOf ByteArray.empty t311 x6_1).size : Int)) = true := decide_eq_true c7
              clear c7
              by_cases c8 : ((rdOf ByteArray.empty t311 x6_1).extract 0 3).toList = a0.toList
              · rw [if_pos c8] at H
                have c8b0 : (((rdOf ByteArray.empty t311 x6_1).extract 0 3).toList == a0.toList) = true := beq_iff_eq.mpr c8
                have c8b1 : (((rdOf ByteArray.empty t311 x6_1).extract 0 3).toList != a0.toList) = false := bne_eq_false_iff_eq.mpr c8
                clear c8
                by_cases c9 : 3 ≤ 7
                · rw [if_pos c9] at H
                  have c9b0 := eq_true c9
                  have c9b1 : decide (3 ≤ 7) = true := decide_eq_true c9
                  clear c9
                  by_cases c10 : 7 ≤ ((rdOf ByteArray.empty t311 x6_1).size : Int)
                  · rw [if_pos c10] at H
                    have c10b0 := eq_true c10
                    have c10b1 : decide (7 ≤ ((rdOf ByteArray.empty t311 x6_1).size : Int)) = true := decide_eq_true c10
                    clear c10
                    have c11b0 := eq_true (of_decide_eq_true (by first | (with_reducible assumption) | assumption) : 7 ≤ ((rdOf ByteArray.empty t311 x6_1).size : Int))
                    simp only [Option.some.injEq, Prod.mk.injEq] at H
                    obtain ⟨rfl, rfl, rfl⟩ := H
                    obtain ⟨Ao12, co12, eo12⟩ := Kd.R_slice HO_5.out
                    subst eo12
                    have p314 : 0 ≤ (x6_1 : Int) := of_decide_eq_true (by first | (with_reducible assumption) | assumption)
                    have q314 : x6_1 < (t311.length : Int) := of_decide_eq_true (by first | (with_reducible assumption) | assumption)
                    obtain ⟨ad314, e314, hx314_0⟩ := Kd.at_string (Kd.R_reads' HO_5.out).2.2 x6_1 p314 q314
                    cases e314
                    replace p314 := eq_true p314
                    replace q314 := eq_true q314
                    have p315 : 0 ≤ (x6_1 : Int) := of_decide_eq_true (by first | (with_reducible assumption) | assumption)
                    have q315 : x6_1 < (t311.length : Int) := of_decide_eq_true (by first | (with_reducible assumption) | assumption)
                    obtain ⟨ad315, e315, hx315_0⟩ := Kd.at_string (Kd.R_reads' HO_5.out).2.2 x6_1 p315 q315
                    obtain rfl : ad314 = ad315 := (by injection e315)
                    replace p315 := eq_true p315
                    replace q315 := eq_true q315
                    have p316 : 0 ≤ (x6_1 : Int) := of_decide_eq_true (by first | (with_reducible assumption) | assumption)
                    have q316 : x6_1 < (t311.length : Int) := of_decide_eq_true (by first | (with_reducible assumption) | assumption)
                    obtain ⟨ad316, e316, hx316_0⟩ := Kd.at_string (Kd.R_reads' HO_5.out).2.2 x6_1 p316 q316
                    obtain rfl : ad314 = ad316 := (by injection e316)
                    replace p316 := eq_true p316
                    replace q316 := eq_true q316
                    go_wp2
                    repeat (go_quiet (fail); try go_wp2)
                    go_ret3
                    exact ⟨by first | rfl | (simp [errW_none, errW_some] <;> rfl) | (simp [*, errW_none, errW_some] <;> rfl), by repeat (first | (with_reducible first | exact HB.out | apply below_alloc | apply pw_below_drewN | apply below_drew1) | exact HB.out)⟩
                  · rw [if_neg c10] at H
                    exact absurd H (by simp)
                · rw [if_neg c9] at H
                  exact absurd H (by simp)
              · rw [if_neg c8] at H
                have c8b0 : (((rdOf ByteArray.empty t311 x6_1).extract 0 3).toList == a0.toList) = false := beq_eq_false_iff_ne.mpr c8
                have c8b1 : (((rdOf ByteArray.empty t311 x6_1).extract 0 3).toList != a0.toList) = true := bne_iff_ne.mpr c8
                have H' := Aside0.mk H
                clear H
                obtain ⟨Ao13, co13, eo13⟩ := Kd.R_slice HO_5.out
                subst eo13
                have p314 : 0 ≤ (x6_1 : Int) := of_decide_eq_true (by first | (with_reducible assumption) | assumption)
                have q314 : x6_1 < (t311.length : Int) := of_decide_eq_true (by first | (with_reducible assumption) | assumption)
                obtain ⟨ad314, e314, hx314_0⟩ := Kd.at_string (Kd.R_reads' HO_5.out).2.2 x6_1 p314 q314
                cases e314
                replace p314 := eq_true p314
                replace q314 := eq_true q314
                go_wp2
                repeat (go_quiet (fail); try go_wp2)
                go_roundg k1
                case measure => have := HK1.out; omega
                case rel => exact ⟨(wrap64 (x6_1 + 1)), (by first | rfl | (simp; done) | (simp [*]; done)), H', ⟨by have := HK1.out; omega⟩, ⟨by (with_reducible repeat (first | apply Kd.R_alloc | apply Kd.R_drewN | apply Kd.R_drew)); exact HO_5.out⟩, ⟨by repeat (first | (with_reducible first | exact HB.out | apply below_alloc | apply pw_below_drewN | apply below_drew1) | exact HB.out)⟩⟩
            · rw [if_neg c7] at H
              exact absurd H (by simp)
          · rw [if_neg c6] at H
            exact absurd H (by simp)
        · rw [if_neg c5] at H
          exact absurd H (by simp)
      · rw [if_neg c4] at H
        have c4b0 : decide (x6_1 < (t311.length : Int)) = false := decide_eq_false c4
        clear c4
        simp only [Option.some.injEq, Prod.mk.injEq] at H
        obtain ⟨rfl, rfl, rfl⟩ := H
        obtain ⟨Ao14, co14, eo14⟩ := Kd.R_slice HO_5.out
        subst eo14
        go_wp2
        repeat (go_quiet (fail); try go_wp2)
        go_ret3
        exact ⟨by first | rfl | (simp [errW_none, errW_some] <;> rfl) | (simp [*, errW_none, errW_some] <;> rfl), by repeat (first | (with_reducible first | exact HB.out | apply below_alloc | apply pw_below_drewN | apply below_drew1) | exact HB.out)⟩

def comptoirref07_Known.f (k : Nat) (a0 : ByteArray) : Option (Bool) := (comptoirref07_Words.f k a0).bind fun bt317 => (some bt317.2.2)
set_option maxHeartbeats 8000000 in
set_option maxRecDepth 100000 in
theorem comptoirref07_Known.calls (k : Nat) (a0 : ByteArray) (r : Bool) (w : World) (h : comptoirref07_Known.f k a0 = some r) :
    Calls Tryz.prog 22 #[.string a0] w fun e w' => e = .returned (.bool r) ∧ Below w.heap.size w w' := by
  have HB := Aside0.mk (Below.refl w.heap.size w)
  have H : ((comptoirref07_Words.f k a0).bind fun bt317 => (some bt317.2.2)) = some r := h
  clear h
  replace H := Option.bind_eq_some_iff.mp H
  obtain ⟨⟨t317, t318, t319⟩, A20, H⟩ := H
  replace H : (some t319) = some r := H
  have A2 := Aside0.mk A20
  clear A20
  obtain rfl := Option.some.inj H
  simp only [Option.some.injEq, Prod.mk.injEq] at H
  obtain ⟨rfl⟩ := H
  go_enter Tryz.func22, Tryz.ntmps22
  go_wp2_with (first | ((with_reducible refine gate_callee (f := 45) rfl ?_); refine goesL_ (some 8) rfl rfl Tryz.func45 (by kernel_rfl) rfl #[.string a0] rfl (by (try simp only [List.map_toArray, List.map_cons, List.map_nil]); first | done | rfl | (simp only [List.length_drop, List.length_take]; rfl)) ?_; (with_reducible refine (comptoirref07_Words.calls k a0 t317 t318 t319 _ A2.out).mono ?_); rintro e w3 ⟨rfl, hb⟩; refine ⟨_, rfl, ?_⟩; have n0_ := Aside0.mk (below_step (by repeat (first | (with_reducible first | exact HB.out | apply below_alloc | apply pw_below_drewN | apply below_drew1) | exact HB.out)) hb); clear HB; have HB := n0_; clear n0_; (try clear hb); (try clear hb2); (try clear hk); (try clear hi)))
  go_ret
  exact ⟨by first | rfl | (simp [errW_none, errW_some] <;> rfl) | (simp [*, errW_none, errW_some] <;> rfl), by repeat (first | (with_reducible first | exact HB.out | apply below_alloc | apply pw_below_drewN | apply below_drew1) | exact HB.out)⟩

end Go.Proofs.YthapknnppabdaaaGreat.MQ
