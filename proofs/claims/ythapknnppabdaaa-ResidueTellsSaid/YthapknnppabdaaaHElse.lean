/- comptoirhelp.Same over elements, held against each other by Element: where both lists are alike. -/
import Derived.Test.YthapknnppabdaaaHSame
namespace Go.Proofs.Ythapknnppabdaaa.MR
open Go.RowKit Go.Proofs.YthapknnppabdaaaW.PrintWords Go.Proofs.YthapknnppabdaaaW.PrintLast Go.Proofs.YthapknnppabdaaaW.PrintMore
set_option linter.unusedVariables false
set_option linter.unusedSimpArgs false

def api_Element_21.f (l0 l1 : List S52) : Option Bool := if l0 = l1 then some true else none
theorem api_Element_21.calls (A0 : Option Addr) (c0 : Nat) (l0 : List S52) (A1 : Option Addr) (c1 : Nat) (l1 : List S52) (r : Bool) (w : World) (hr0 : Kd.C k52 w A0 l0.length l0) (hc0 : l0.length ≤ c0) (hr1 : Kd.C k52 w A1 l1.length l1) (hc1 : l1.length ≤ c1) (h : api_Element_21.f l0 l1 = some r) :
    Calls Try.prog 21 #[.slice A0 l0.length c0, .slice A1 l1.length c1, .func (.func 22) #[] #[]] w fun e w' => e = .returned (.bool r) ∧ Below w.heap.size w w' := by
  unfold api_Element_21.f at h
  by_cases hl : l0 = l1
  · rw [if_pos hl] at h
    obtain rfl := Option.some.inj h
    subst hl
    exact same_S52_calls A0 c0 l0 A1 c1 w hr0 hr1
  · rw [if_neg hl] at h; cases h
end Go.Proofs.Ythapknnppabdaaa.MR
