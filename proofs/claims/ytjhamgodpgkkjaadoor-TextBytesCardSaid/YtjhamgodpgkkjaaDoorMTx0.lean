-- laid by wip/tools/mixprint.py over the kit's print (functions of function values by hand)
import Derived.Test.YtjhamgodpgkkjaaDoorProg
import Derived.Below
import Derived.Deep.Draws
import Derived.Deep.AppendLies
import Derived.Maps.AppendAt
import Derived.OwnWalk
import Derived.Laws.BytesArg
import Derived.Laws.MakeOwn
import Derived.Laws.OwnMore
import Derived.Deep.OwnRows
import Derived.Tactics
import Derived.Lib.ConvBytes
import Derived.Laws.Slices
import Derived.WalkKit
import Derived.KernelRfl
import Derived.RowKit3
import Derived.Deep.LoopGhost
import Derived.Deep.QuietTactic
import Derived.BigQuiet
import Derived.WideLaws
import Derived.Deep.DeepCutAuto
import Derived.Deep.CutBlock
import Derived.Deep.RegionHeld3
import Derived.Laws.Rows
import Derived.Lib.AppendStr
import Derived.ArgAppend
import Derived.Laws.IdiomCopy
import Derived.OrdersHeld
import Derived.Laws.BitsLemmas
import Derived.RowKit
import Derived.Test.YtjhamgodpgkkjaaDoorWWords
import Derived.Test.YtjhamgodpgkkjaaDoorWLast
import Derived.Test.YtjhamgodpgkkjaaDoorWTab
import Derived.Test.YtjhamgodpgkkjaaDoorWFour
import Derived.Test.YtjhamgodpgkkjaaDoorWQPut
import Derived.Test.YtjhamgodpgkkjaaDoorWApart
import Derived.Test.YtjhamgodpgkkjaaDoorWArr
import Derived.Test.YtjhamgodpgkkjaaDoorWZeros
import Derived.Test.YtjhamgodpgkkjaaDoorWFoot
import Derived.Test.YtjhamgodpgkkjaaDoorWKept
import Derived.Test.YtjhamgodpgkkjaaDoorWShare
import Derived.Test.YtjhamgodpgkkjaaDoorWN
import Derived.Test.YtjhamgodpgkkjaaDoorWFootNe
import Derived.Test.YtjhamgodpgkkjaaDoorWAt
import Derived.Test.YtjhamgodpgkkjaaDoorWEqStruct
import Derived.Test.YtjhamgodpgkkjaaDoorWRepsOne
import Derived.Test.YtjhamgodpgkkjaaDoorWInv
import Derived.Test.YtjhamgodpgkkjaaDoorWInvWords
import Derived.Test.YtjhamgodpgkkjaaDoorWGuard
import Derived.Test.YtjhamgodpgkkjaaDoorWNEv
import Derived.Test.YtjhamgodpgkkjaaDoorWMore
namespace Go.Proofs.YtjhamgodpgkkjaaDoor.MT
open Go.RowKit Go.Proofs.YtjhamgodpgkkjaaDoorW.PrintWords Go.Proofs.YtjhamgodpgkkjaaDoorW.PrintLast Go.Proofs.YtjhamgodpgkkjaaDoorW.PrintMore
attribute [local go_sem] max2_int min2_int max_two min_two max_three min_three max_four min_four   -- for this text's walks alone
set_option linter.unusedVariables false
set_option linter.unusedSimpArgs false



def errW : Option Int → Value
  | none => .nilIface
  | some c => .iface 0 (.int .i64 c)
theorem errW_none : errW none = .nilIface := rfl
theorem errW_some (c : Int) : errW (some c) = .iface 0 (.int .i64 c) := rfl

theorem info5 : (Tryd.prog.info? 5).map (fun i => (i.zero, i.size, i.bytes)) = some (some (.int .u8 0), 1, 1) := by kernel_rfl
-- the values' own types

end Go.Proofs.YtjhamgodpgkkjaaDoor.MT
