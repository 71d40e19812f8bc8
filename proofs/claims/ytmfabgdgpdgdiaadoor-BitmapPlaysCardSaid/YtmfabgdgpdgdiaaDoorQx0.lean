-- By a program of this session, in the form of the kit's printed texts.
import Derived.Test.YtmfabgdgpdgdiaaDoorProg
import Derived.Below
import Derived.Deep.Draws
import Derived.Deep.AppendLies
import Derived.Maps.AppendAt
import Derived.OwnWalk
import Derived.Laws.BytesArg
import Derived.Laws.MakeOwn
import Derived.Laws.OwnMore
import Derived.Deep.OwnRows
import Derived.Tactics
import Derived.Lib.ConvBytes
import Derived.Laws.Slices
import Derived.WalkKit
import Derived.KernelRfl
import Derived.RowKit3
import Derived.Deep.LoopGhost
import Derived.Deep.QuietTactic
import Derived.BigQuiet
import Derived.WideLaws
import Derived.Deep.DeepCutAuto
import Derived.Deep.CutBlock
import Derived.Deep.RegionHeld3
import Derived.Laws.Rows
import Derived.Lib.AppendStr
import Derived.ArgAppend
import Derived.Laws.IdiomCopy
import Derived.OrdersHeld
import Derived.Laws.BitsLemmas
import Derived.RowKit
import Derived.Test.YtmfabgdgpdgdiaaDoorWWords
import Derived.Test.YtmfabgdgpdgdiaaDoorWLast
import Derived.Test.YtmfabgdgpdgdiaaDoorWTab
import Derived.Test.YtmfabgdgpdgdiaaDoorWFour
import Derived.Test.YtmfabgdgpdgdiaaDoorWQPut
import Derived.Test.YtmfabgdgpdgdiaaDoorWApart
import Derived.Test.YtmfabgdgpdgdiaaDoorWArr
import Derived.Test.YtmfabgdgpdgdiaaDoorWZeros
import Derived.Test.YtmfabgdgpdgdiaaDoorWFoot
import Derived.Test.YtmfabgdgpdgdiaaDoorWKept
import Derived.Test.YtmfabgdgpdgdiaaDoorWShare
import Derived.Test.YtmfabgdgpdgdiaaDoorWN
import Derived.Test.YtmfabgdgpdgdiaaDoorWFootNe
import Derived.Test.YtmfabgdgpdgdiaaDoorWAt
import Derived.Test.YtmfabgdgpdgdiaaDoorWEqStruct
import Derived.Test.YtmfabgdgpdgdiaaDoorWRepsOne
import Derived.Test.YtmfabgdgpdgdiaaDoorWInv
import Derived.Test.YtmfabgdgpdgdiaaDoorWInvWords
import Derived.Test.YtmfabgdgpdgdiaaDoorWGuard
import Derived.Test.YtmfabgdgpdgdiaaDoorWNEv
import Derived.Test.YtmfabgdgpdgdiaaDoorWMore
namespace Go.Proofs.YtmfabgdgpdgdiaaDoor.Q
open Go.RowKit Go.Proofs.YtmfabgdgpdgdiaaDoorW.PrintWords Go.Proofs.YtmfabgdgpdgdiaaDoorW.PrintLast Go.Proofs.YtmfabgdgpdgdiaaDoorW.PrintMore
attribute [local go_sem] max2_int min2_int max_two min_two max_three min_three max_four min_four   -- for this text's walks alone
set_option linter.unusedVariables false
set_option linter.unusedSimpArgs false



def errW : Option Int → Value
  | none => .nilIface
  | some c => .iface 0 (.int .i64 c)
theorem errW_none : errW none = .nilIface := rfl
theorem errW_some (c : Int) : errW (some c) = .iface 0 (.int .i64 c) := rfl

theorem info53 : (Tryd.prog.info? 53).map (fun i => (i.zero, i.size, i.bytes)) = some (some (.int .u64 0), 1, 8) := by kernel_rfl
-- the values' own types

end Go.Proofs.YtmfabgdgpdgdiaaDoor.Q
