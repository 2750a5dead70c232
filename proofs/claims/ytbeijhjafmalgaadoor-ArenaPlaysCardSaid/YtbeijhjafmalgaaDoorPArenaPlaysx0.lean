-- PRINTED BY print.sh 35421559b90ae4d0a3588c463048766b98c2df88dd9212a6774a882060cdf62d: not written by this session
import Derived.Test.YtbeijhjafmalgaaDoorProg
import Derived.Below
import Derived.Deep.Draws
import Derived.Deep.AppendLies
import Derived.Maps.AppendAt
import Derived.OwnWalk
import Derived.Laws.BytesArg
import Derived.Laws.MakeOwn
import Derived.Laws.OwnMore
import Derived.Deep.OwnRows
import Derived.Tactics
import Derived.Lib.ConvBytes
import Derived.Laws.Slices
import Derived.WalkKit
import Derived.KernelRfl
import Derived.RowKit3
import Derived.Deep.LoopGhost
import Derived.Deep.QuietTactic
import Derived.BigQuiet
import Derived.WideLaws
import Derived.Deep.DeepCutAuto
import Derived.Deep.CutBlock
import Derived.Deep.RegionHeld3
import Derived.Laws.Rows
import Derived.Lib.AppendStr
import Derived.ArgAppend
import Derived.Laws.IdiomCopy
import Derived.OrdersHeld
import Derived.Laws.BitsLemmas
import Derived.RowKit
import Derived.Test.YtbeijhjafmalgaaDoorWWords
import Derived.Test.YtbeijhjafmalgaaDoorWLast
import Derived.Test.YtbeijhjafmalgaaDoorWTab
import Derived.Test.YtbeijhjafmalgaaDoorWFour
import Derived.Test.YtbeijhjafmalgaaDoorWQPut
import Derived.Test.YtbeijhjafmalgaaDoorWApart
import Derived.Test.YtbeijhjafmalgaaDoorWArr
import Derived.Test.YtbeijhjafmalgaaDoorWZeros
import Derived.Test.YtbeijhjafmalgaaDoorWFoot
import Derived.Test.YtbeijhjafmalgaaDoorWKept
import Derived.Test.YtbeijhjafmalgaaDoorWShare
import Derived.Test.YtbeijhjafmalgaaDoorWN
import Derived.Test.YtbeijhjafmalgaaDoorWFootNe
import Derived.Test.YtbeijhjafmalgaaDoorWAt
import Derived.Test.YtbeijhjafmalgaaDoorWEqStruct
import Derived.Test.YtbeijhjafmalgaaDoorWRepsOne
import Derived.Test.YtbeijhjafmalgaaDoorWInv
import Derived.Test.YtbeijhjafmalgaaDoorWInvWords
import Derived.Test.YtbeijhjafmalgaaDoorWGuard
import Derived.Test.YtbeijhjafmalgaaDoorWNEv
import Derived.Test.YtbeijhjafmalgaaDoorWMore
namespace Go.Proofs.YtbeijhjafmalgaaDoor.PArenaPlays
open Go.RowKit Go.Proofs.YtbeijhjafmalgaaDoorW.PrintWords Go.Proofs.YtbeijhjafmalgaaDoorW.PrintLast Go.Proofs.YtbeijhjafmalgaaDoorW.PrintMore
attribute [local go_sem] max2_int min2_int max_two min_two max_three min_three max_four min_four   -- for this text's walks alone
set_option linter.unusedVariables false
set_option linter.unusedSimpArgs false



def errW : Option Int → Value
  | none => .nilIface
  | some c => .iface 0 (.int .i64 c)
theorem errW_none : errW none = .nilIface := rfl
theorem errW_some (c : Int) : errW (some c) = .iface 0 (.int .i64 c) := rfl

theorem info3 : (Tryd.prog.info? 3).map (fun i => (i.zero, i.size, i.bytes)) = some (some (.int .i64 0), 1, 8) := by kernel_rfl
-- the values' own types

end Go.Proofs.YtbeijhjafmalgaaDoor.PArenaPlays
