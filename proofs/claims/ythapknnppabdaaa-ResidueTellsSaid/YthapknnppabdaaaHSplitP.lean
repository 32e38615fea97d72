/- What both say of a split: over whole messages, plain. -/
import Derived.Test.YthapknnppabdaaaHJoin14
import Derived.Test.YthapknnppabdaaaHAnsBig
namespace Go.Proofs.Ythapknnppabdaaa.MR
open Go.RowKit Go.Proofs.YthapknnppabdaaaW.PrintWords Go.Proofs.YthapknnppabdaaaW.PrintLast Go.Proofs.YthapknnppabdaaaW.PrintMore
set_option linter.unusedVariables false
set_option linter.unusedSimpArgs false

def quest : ByteArray := ⟨#[63]⟩
def noText : ByteArray := ⟨#[]⟩
/-- Is a label taken out? (A: what says whether a bitmap may say it.) -/
def outB (A : ByteArray → Int → Bool) (s : ByteArray) (n : Int) : Bool := (s.toList != []) && !(A s n)
def spM (A : ByteArray → Int → Bool) (x : S29) (side : Int) : S29 :=
  if side = 0 then { x with f19 := [] } else if side = 1 then { x with f17 := noText, f18 := [], f8 := (if outB A x.f8 15 = true then quest else x.f8), f9 := (if outB A x.f9 8 = true then quest else x.f9) } else x
def spR (A : ByteArray → Int → Bool) (x : S29) (side : Int) : S31 :=
  if side = 0 then ⟨noText, noText, noText, [], x.f19⟩ else if side = 1 then ⟨x.f17, (if outB A x.f8 15 = true then x.f8 else noText), (if outB A x.f9 8 = true then x.f9 else noText), x.f18, []⟩ else ⟨noText, noText, noText, [], []⟩
def ansB (s : ByteArray) (n : Int) : Bool := decide (1 ≤ (s.size : Int)) && decide ((s.size : Int) ≤ n) && allB s [(32, 126)]
theorem text_ans_is (s : ByteArray) (n : Int) (hs : s.size ≤ 9223372036854775807) : text_Ans.f s n = some (ansB s n) := by
  unfold text_Ans.f ansB
  rw [if_pos hs]
theorem ans19 (s : ByteArray) (n : Int) (w : World) (hs : s.size ≤ 140737488351232) : Calls Try.prog 19 #[.string s, .int .i64 n] w fun e w' => e = .returned (.bool (ansB s n)) ∧ Drawn0 w w' :=
  comptoirref01_Ans.calls (s.size + 1) s n _ w (by rw [Big.ref_ans_some s n (s.size + 1) (by omega) (by omega), text_ans_is s n (by omega)])
theorem label_all (s : ByteArray) (n : Int) (hs : s.size ≤ 9223372036854775807) : residue_label.f s n = some ((if outB ansB s n = true then quest else s), (if outB ansB s n = true then s else noText)) := by
  unfold residue_label.f outB
  rw [text_ans_is s n hs]
  by_cases h : s.toList = []
  · rw [if_pos h]
    have : (s.toList != []) = false := bne_eq_false_iff_eq.mpr h
    rw [this]; rfl
  · rw [if_neg h, Option.bind_some]
    have : (s.toList != []) = true := bne_iff_ne.mpr h
    rw [this]
    cases ansB s n <;> rfl
end Go.Proofs.Ythapknnppabdaaa.MR
