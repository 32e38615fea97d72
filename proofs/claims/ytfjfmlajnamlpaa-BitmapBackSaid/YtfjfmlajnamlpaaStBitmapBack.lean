-- laid by wip/tools/mixprint.py over the kit's print (functions of function values by hand)
import Derived.Test.YtfjfmlajnamlpaaMBx5
import Derived.Test.YtfjfmlajnamlpaaHOpens
namespace Go.Proofs.Ytfjfmlajnamlpaa.MB
open Go.RowKit Go.Proofs.YtfjfmlajnamlpaaW.PrintWords Go.Proofs.YtfjfmlajnamlpaaW.PrintLast Go.Proofs.Ytfjfmlajnamlpaa.Opens
set_option maxRecDepth 100000

def comptoirlaw03_BitmapBack.A0 (x : List Bool) : Prop := (fun xs : List Bool => xs.length ≤ maxLen ∧ xs.length * 1 ≤ 140737488351232 ∧ ∀ x ∈ xs, (fun _ : Bool => True) x) x
theorem comptoirlaw03_BitmapBack.opens0 : Opens Try.prog 30 (Kd.slice 4 Kd.bool) comptoirlaw03_BitmapBack.A0 := (Opens.slice (B := 1) Try.underlying30 (by kernel_rfl) (by kernel_rfl) (Opens.bool Try.underlying4))
def comptoirlaw03_BitmapBack.A1 (x : List Int) : Prop := (fun xs : List Int => xs.length ≤ maxLen ∧ xs.length * 1 ≤ 140737488351232 ∧ ∀ x ∈ xs, (fun x : Int => (Lit.int .u8 x).wf = true) x) x
theorem comptoirlaw03_BitmapBack.opens1 : Opens Try.prog 23 (Kd.slice 5 (Kd.int .u8)) comptoirlaw03_BitmapBack.A1 := (Opens.slice (B := 1) Try.underlying23 (by kernel_rfl) (by kernel_rfl) (Opens.int Try.underlying5))
def comptoirlaw03_BitmapBack.A2 (x : List Int) : Prop := (fun xs : List Int => xs.length ≤ maxLen ∧ xs.length * 1 ≤ 140737488351232 ∧ ∀ x ∈ xs, (fun x : Int => (Lit.int .u8 x).wf = true) x) x
theorem comptoirlaw03_BitmapBack.opens2 : Opens Try.prog 23 (Kd.slice 5 (Kd.int .u8)) comptoirlaw03_BitmapBack.A2 := (Opens.slice (B := 1) Try.underlying23 (by kernel_rfl) (by kernel_rfl) (Opens.int Try.underlying5))
/-- THE ONE PURE STATEMENT of comptoirlaw03_BitmapBack: mine. -/
def comptoirlaw03_BitmapBack.Pure : Prop := ∀ (x0 : List Bool) (x1 : List Int) (x2 : List Int), comptoirlaw03_BitmapBack.A0 x0 → comptoirlaw03_BitmapBack.A1 x1 → comptoirlaw03_BitmapBack.A2 x2 → ∃ k, comptoirlaw03_BitmapBack.f k x0 x1 x2 = some true
end Go.Proofs.Ytfjfmlajnamlpaa.MB
