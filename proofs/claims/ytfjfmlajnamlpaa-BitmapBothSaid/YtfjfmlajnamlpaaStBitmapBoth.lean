-- laid by wip/tools/mixprint.py over the kit's print (functions of function values by hand)
import Derived.Test.YtfjfmlajnamlpaaMBx4
import Derived.Test.YtfjfmlajnamlpaaHOpens
namespace Go.Proofs.Ytfjfmlajnamlpaa.MB
open Go.RowKit Go.Proofs.YtfjfmlajnamlpaaW.PrintWords Go.Proofs.YtfjfmlajnamlpaaW.PrintLast Go.Proofs.Ytfjfmlajnamlpaa.Opens
set_option maxRecDepth 100000

def comptoirlaw03_BitmapBoth.A0 (x : List Bool) : Prop := (fun xs : List Bool => xs.length ≤ maxLen ∧ xs.length * 1 ≤ 140737488351232 ∧ ∀ x ∈ xs, (fun _ : Bool => True) x) x
theorem comptoirlaw03_BitmapBoth.opens0 : Opens Try.prog 30 (Kd.slice 4 Kd.bool) comptoirlaw03_BitmapBoth.A0 := (Opens.slice (B := 1) Try.underlying30 (by kernel_rfl) (by kernel_rfl) (Opens.bool Try.underlying4))
def comptoirlaw03_BitmapBoth.A1 (x : List Bool) : Prop := (fun xs : List Bool => xs.length ≤ maxLen ∧ xs.length * 1 ≤ 140737488351232 ∧ ∀ x ∈ xs, (fun _ : Bool => True) x) x
theorem comptoirlaw03_BitmapBoth.opens1 : Opens Try.prog 30 (Kd.slice 4 Kd.bool) comptoirlaw03_BitmapBoth.A1 := (Opens.slice (B := 1) Try.underlying30 (by kernel_rfl) (by kernel_rfl) (Opens.bool Try.underlying4))
/-- THE ONE PURE STATEMENT of comptoirlaw03_BitmapBoth: mine. -/
def comptoirlaw03_BitmapBoth.Pure : Prop := ∀ (x0 : List Bool) (x1 : List Bool), comptoirlaw03_BitmapBoth.A0 x0 → comptoirlaw03_BitmapBoth.A1 x1 → ∃ k, comptoirlaw03_BitmapBoth.f k x0 x1 = some true
end Go.Proofs.Ytfjfmlajnamlpaa.MB
