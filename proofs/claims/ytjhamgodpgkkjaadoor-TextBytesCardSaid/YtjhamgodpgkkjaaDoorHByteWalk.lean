/- TextBytes walked, for each class of bytes. -/
import Derived.Test.YtjhamgodpgkkjaaDoorHBytes
import Derived.Test.YtjhamgodpgkkjaaDoorHByteW0
import Derived.Test.YtjhamgodpgkkjaaDoorHByteW1
import Derived.Test.YtjhamgodpgkkjaaDoorHByteW2
import Derived.Test.YtjhamgodpgkkjaaDoorHByteW3
namespace Go.Proofs.YtjhamgodpgkkjaaDoor.MT
open Go.RowKit Go.Proofs.YtjhamgodpgkkjaaDoorW.PrintWords Go.Proofs.YtjhamgodpgkkjaaDoorW.PrintLast Go.Proofs.YtjhamgodpgkkjaaDoorW.PrintMore
set_option linter.unusedVariables false
set_option linter.unusedSimpArgs false
theorem bytes_walk (c : Nat) (h : c < 256) (w : World) (hT_ : Tabs w) : Calls Tryd.prog 7 #[.int .u8 (c : Int)] w fun e w' => e = .returned (.bool true) ∧ Below w.heap.size w w' := by
  have hU := one_utf8 c h
  have hP := one_plain c h
  have hA := one_ans c h
  have hL := one_aln c h
  by_cases h0 : c ≤ 8
  · exact bytes_walk0 (c : Int) (by omega) (by omega) _ rfl (one_size c) awake_tell (by rw [hU, decide_eq_false (by simp [mayR]; omega)]) (by rw [hP, decide_eq_false (by omega)]) (by rw [hA, decide_eq_false (by omega)]) (by rw [hL, decide_eq_false (by omega)]) (two_ans c) w hT_
  by_cases h1 : c ≤ 9
  · exact bytes_walk1 (c : Int) (by omega) (by omega) _ rfl (one_size c) awake_tell (by rw [hU, decide_eq_true (by simp [mayR]; omega)]) (by rw [hP, decide_eq_false (by omega)]) (by rw [hA, decide_eq_false (by omega)]) (by rw [hL, decide_eq_false (by omega)]) (two_ans c) w hT_
  by_cases h2 : c ≤ 10
  · exact bytes_walk2 (c : Int) (by omega) (by omega) _ rfl (one_size c) awake_tell (by rw [hU, decide_eq_true (by simp [mayR]; omega)]) (by rw [hP, decide_eq_false (by omega)]) (by rw [hA, decide_eq_false (by omega)]) (by rw [hL, decide_eq_false (by omega)]) (two_ans c) w hT_
  by_cases h3 : c ≤ 12
  · exact bytes_walk3 (c : Int) (by omega) (by omega) _ rfl (one_size c) awake_tell (by rw [hU, decide_eq_false (by simp [mayR]; omega)]) (by rw [hP, decide_eq_false (by omega)]) (by rw [hA, decide_eq_false (by omega)]) (by rw [hL, decide_eq_false (by omega)]) (two_ans c) w hT_
  by_cases h4 : c ≤ 13
  · exact bytes_walk4 (c : Int) (by omega) (by omega) _ rfl (one_size c) awake_tell (by rw [hU, decide_eq_true (by simp [mayR]; omega)]) (by rw [hP, decide_eq_false (by omega)]) (by rw [hA, decide_eq_false (by omega)]) (by rw [hL, decide_eq_false (by omega)]) (two_ans c) w hT_
  by_cases h5 : c ≤ 31
  · exact bytes_walk5 (c : Int) (by omega) (by omega) _ rfl (one_size c) awake_tell (by rw [hU, decide_eq_false (by simp [mayR]; omega)]) (by rw [hP, decide_eq_false (by omega)]) (by rw [hA, decide_eq_false (by omega)]) (by rw [hL, decide_eq_false (by omega)]) (two_ans c) w hT_
  by_cases h6 : c ≤ 32
  · exact bytes_walk6 (c : Int) (by omega) (by omega) _ rfl (one_size c) awake_tell (by rw [hU, decide_eq_true (by simp [mayR]; omega)]) (by rw [hP, decide_eq_false (by omega)]) (by rw [hA, decide_eq_true (by omega)]) (by rw [hL, decide_eq_false (by omega)]) (two_ans c) w hT_
  by_cases h7 : c ≤ 47
  · exact bytes_walk7 (c : Int) (by omega) (by omega) _ rfl (one_size c) awake_tell (by rw [hU, decide_eq_true (by simp [mayR]; omega)]) (by rw [hP, decide_eq_true (by omega)]) (by rw [hA, decide_eq_true (by omega)]) (by rw [hL, decide_eq_false (by omega)]) (two_ans c) w hT_
  by_cases h8 : c ≤ 57
  · exact bytes_walk8 (c : Int) (by omega) (by omega) _ rfl (one_size c) awake_tell (by rw [hU, decide_eq_true (by simp [mayR]; omega)]) (by rw [hP, decide_eq_true (by omega)]) (by rw [hA, decide_eq_true (by omega)]) (by rw [hL, decide_eq_true (by omega)]) (two_ans c) w hT_
  by_cases h9 : c ≤ 64
  · exact bytes_walk9 (c : Int) (by omega) (by omega) _ rfl (one_size c) awake_tell (by rw [hU, decide_eq_true (by simp [mayR]; omega)]) (by rw [hP, decide_eq_true (by omega)]) (by rw [hA, decide_eq_true (by omega)]) (by rw [hL, decide_eq_false (by omega)]) (two_ans c) w hT_
  by_cases h10 : c ≤ 90
  · exact bytes_walk10 (c : Int) (by omega) (by omega) _ rfl (one_size c) awake_tell (by rw [hU, decide_eq_true (by simp [mayR]; omega)]) (by rw [hP, decide_eq_true (by omega)]) (by rw [hA, decide_eq_true (by omega)]) (by rw [hL, decide_eq_true (by omega)]) (two_ans c) w hT_
  by_cases h11 : c ≤ 96
  · exact bytes_walk11 (c : Int) (by omega) (by omega) _ rfl (one_size c) awake_tell (by rw [hU, decide_eq_true (by simp [mayR]; omega)]) (by rw [hP, decide_eq_true (by omega)]) (by rw [hA, decide_eq_true (by omega)]) (by rw [hL, decide_eq_false (by omega)]) (two_ans c) w hT_
  by_cases h12 : c ≤ 122
  · exact bytes_walk12 (c : Int) (by omega) (by omega) _ rfl (one_size c) awake_tell (by rw [hU, decide_eq_true (by simp [mayR]; omega)]) (by rw [hP, decide_eq_true (by omega)]) (by rw [hA, decide_eq_true (by omega)]) (by rw [hL, decide_eq_true (by omega)]) (two_ans c) w hT_
  by_cases h13 : c ≤ 126
  · exact bytes_walk13 (c : Int) (by omega) (by omega) _ rfl (one_size c) awake_tell (by rw [hU, decide_eq_true (by simp [mayR]; omega)]) (by rw [hP, decide_eq_true (by omega)]) (by rw [hA, decide_eq_true (by omega)]) (by rw [hL, decide_eq_false (by omega)]) (two_ans c) w hT_
  by_cases h14 : c ≤ 127
  · exact bytes_walk14 (c : Int) (by omega) (by omega) _ rfl (one_size c) awake_tell (by rw [hU, decide_eq_true (by simp [mayR]; omega)]) (by rw [hP, decide_eq_true (by omega)]) (by rw [hA, decide_eq_false (by omega)]) (by rw [hL, decide_eq_false (by omega)]) (two_ans c) w hT_
  exact bytes_walk15 (c : Int) (by omega) (by omega) _ rfl (one_size c) awake_tell (by rw [hU, decide_eq_false (by simp [mayR]; omega)]) (by rw [hP, decide_eq_false (by omega)]) (by rw [hA, decide_eq_false (by omega)]) (by rw [hL, decide_eq_false (by omega)]) (two_ans c) w hT_
end Go.Proofs.YtjhamgodpgkkjaaDoor.MT
