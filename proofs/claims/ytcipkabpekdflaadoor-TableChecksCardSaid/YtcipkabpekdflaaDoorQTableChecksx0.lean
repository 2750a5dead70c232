/- Functions of the law as functions of Lean, and that the program comes to them (lines written by the kit's printer, taken over without a part that nothing needs). -/
import Derived.Test.YtcipkabpekdflaaDoorProg
import Derived.Below
import Derived.Deep.Draws
import Derived.Deep.AppendLies
import Derived.Maps.AppendAt
import Derived.OwnWalk
import Derived.Laws.BytesArg
import Derived.Laws.MakeOwn
import Derived.Laws.OwnMore
import Derived.Deep.OwnRows
import Derived.Tactics
import Derived.Lib.ConvBytes
import Derived.Laws.Slices
import Derived.WalkKit
import Derived.KernelRfl
import Derived.RowKit3
import Derived.Deep.LoopGhost
import Derived.Deep.QuietTactic
import Derived.BigQuiet
import Derived.WideLaws
import Derived.Deep.DeepCutAuto
import Derived.Deep.CutBlock
import Derived.Deep.RegionHeld3
import Derived.Laws.Rows
import Derived.Lib.AppendStr
import Derived.ArgAppend
import Derived.Laws.IdiomCopy
import Derived.OrdersHeld
import Derived.Laws.BitsLemmas
import Derived.RowKit
import Derived.Test.YtcipkabpekdflaaDoorWWords
import Derived.Test.YtcipkabpekdflaaDoorWLast
import Derived.Test.YtcipkabpekdflaaDoorWTab
import Derived.Test.YtcipkabpekdflaaDoorWFour
import Derived.Test.YtcipkabpekdflaaDoorWQPut
import Derived.Test.YtcipkabpekdflaaDoorWApart
import Derived.Test.YtcipkabpekdflaaDoorWArr
import Derived.Test.YtcipkabpekdflaaDoorWZeros
import Derived.Test.YtcipkabpekdflaaDoorWFoot
import Derived.Test.YtcipkabpekdflaaDoorWKept
import Derived.Test.YtcipkabpekdflaaDoorWShare
import Derived.Test.YtcipkabpekdflaaDoorWN
import Derived.Test.YtcipkabpekdflaaDoorWFootNe
import Derived.Test.YtcipkabpekdflaaDoorWAt
import Derived.Test.YtcipkabpekdflaaDoorWEqStruct
import Derived.Test.YtcipkabpekdflaaDoorWRepsOne
import Derived.Test.YtcipkabpekdflaaDoorWInv
import Derived.Test.YtcipkabpekdflaaDoorWInvWords
import Derived.Test.YtcipkabpekdflaaDoorWGuard
import Derived.Test.YtcipkabpekdflaaDoorWNEv
import Derived.Test.YtcipkabpekdflaaDoorWMore
namespace Go.Proofs.YtcipkabpekdflaaDoor.PTableChecks
open Go.RowKit Go.Proofs.YtcipkabpekdflaaDoorW.PrintWords Go.Proofs.YtcipkabpekdflaaDoorW.PrintLast Go.Proofs.YtcipkabpekdflaaDoorW.PrintMore
attribute [local go_sem] max2_int min2_int max_two min_two max_three min_three max_four min_four   -- for this text's walks alone
set_option linter.unusedVariables false
set_option linter.unusedSimpArgs false



def errW : Option Int → Value
  | none => .nilIface
  | some c => .iface 0 (.int .i64 c)
theorem errW_none : errW none = .nilIface := rfl
theorem errW_some (c : Int) : errW (some c) = .iface 0 (.int .i64 c) := rfl

theorem info3 : (Tryd.prog.info? 3).map (fun i => (i.zero, i.size, i.bytes)) = some (some (.int .i64 0), 1, 8) := by kernel_rfl
-- the values' own types

end Go.Proofs.YtcipkabpekdflaaDoor.PTableChecks
