/- Printed by a program of this session out of the translation: plain functions with the answers of the Go functions, and the proofs that they have them. -/
import Derived.Test.YtlfoehjjgbnkaaaDoorProg
import Derived.Below
import Derived.Deep.Draws
import Derived.Deep.AppendLies
import Derived.Maps.AppendAt
import Derived.OwnWalk
import Derived.Laws.BytesArg
import Derived.Laws.MakeOwn
import Derived.Laws.OwnMore
import Derived.Deep.OwnRows
import Derived.Tactics
import Derived.Lib.ConvBytes
import Derived.Laws.Slices
import Derived.WalkKit
import Derived.KernelRfl
import Derived.RowKit3
import Derived.Deep.LoopGhost
import Derived.Deep.QuietTactic
import Derived.BigQuiet
import Derived.WideLaws
import Derived.Deep.DeepCutAuto
import Derived.Deep.CutBlock
import Derived.Deep.RegionHeld3
import Derived.Laws.Rows
import Derived.Lib.AppendStr
import Derived.ArgAppend
import Derived.Laws.IdiomCopy
import Derived.OrdersHeld
import Derived.Laws.BitsLemmas
import Derived.RowKit
import Derived.Test.YtlfoehjjgbnkaaaDoorWWords
import Derived.Test.YtlfoehjjgbnkaaaDoorWLast
import Derived.Test.YtlfoehjjgbnkaaaDoorWTab
import Derived.Test.YtlfoehjjgbnkaaaDoorWFour
import Derived.Test.YtlfoehjjgbnkaaaDoorWQPut
import Derived.Test.YtlfoehjjgbnkaaaDoorWApart
import Derived.Test.YtlfoehjjgbnkaaaDoorWArr
import Derived.Test.YtlfoehjjgbnkaaaDoorWZeros
import Derived.Test.YtlfoehjjgbnkaaaDoorWFoot
import Derived.Test.YtlfoehjjgbnkaaaDoorWKept
import Derived.Test.YtlfoehjjgbnkaaaDoorWShare
import Derived.Test.YtlfoehjjgbnkaaaDoorWN
import Derived.Test.YtlfoehjjgbnkaaaDoorWFootNe
import Derived.Test.YtlfoehjjgbnkaaaDoorWAt
import Derived.Test.YtlfoehjjgbnkaaaDoorWEqStruct
import Derived.Test.YtlfoehjjgbnkaaaDoorWRepsOne
import Derived.Test.YtlfoehjjgbnkaaaDoorWInv
import Derived.Test.YtlfoehjjgbnkaaaDoorWInvWords
import Derived.Test.YtlfoehjjgbnkaaaDoorWGuard
import Derived.Test.YtlfoehjjgbnkaaaDoorWNEv
import Derived.Test.YtlfoehjjgbnkaaaDoorWMore
import Derived.Laws.CopyOwn
import Derived.Lib.TrailingZeros
import Derived.Laws.Bits64b
namespace Go.Proofs.YtlfoehjjgbnkaaaDoor.PM
open Go.RowKit Go.Proofs.YtlfoehjjgbnkaaaDoorW.PrintWords Go.Proofs.YtlfoehjjgbnkaaaDoorW.PrintLast Go.Proofs.YtlfoehjjgbnkaaaDoorW.PrintMore
attribute [local go_sem] max2_int min2_int max_two min_two max_three min_three max_four min_four   -- for this text's walks alone
set_option linter.unusedVariables false
set_option linter.unusedSimpArgs false



def errW : Option Int → Value
  | none => .nilIface
  | some c => .iface 0 (.int .i64 c)
theorem errW_none : errW none = .nilIface := rfl
theorem errW_some (c : Int) : errW (some c) = .iface 0 (.int .i64 c) := rfl

theorem info3 : (Tryd.prog.info? 3).map (fun i => (i.zero, i.size, i.bytes)) = some (some (.int .i64 0), 1, 8) := by kernel_rfl
theorem info54 : (Tryd.prog.info? 54).map (fun i => (i.zero, i.size, i.bytes)) = some (some (.int .u64 0), 1, 8) := by kernel_rfl
-- the values' own types

end Go.Proofs.YtlfoehjjgbnkaaaDoor.PM
