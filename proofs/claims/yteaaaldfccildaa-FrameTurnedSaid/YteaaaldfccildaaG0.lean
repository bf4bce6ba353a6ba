-- Laid by the session's own driver gp.py over the kit's printer. Not trusted: Lean checks it.
import Derived.Test.YteaaaldfccildaaProg
import Derived.Below
import Derived.Deep.Draws
import Derived.Deep.AppendLies
import Derived.Maps.AppendAt
import Derived.OwnWalk
import Derived.Laws.BytesArg
import Derived.Laws.MakeOwn
import Derived.Laws.OwnMore
import Derived.Deep.OwnRows
import Derived.Tactics
import Derived.Lib.ConvBytes
import Derived.Laws.Slices
import Derived.WalkKit
import Derived.KernelRfl
import Derived.RowKit3
import Derived.Deep.LoopGhost
import Derived.Deep.QuietTactic
import Derived.BigQuiet
import Derived.WideLaws
import Derived.Deep.DeepCutAuto
import Derived.Deep.CutBlock
import Derived.Deep.RegionHeld3
import Derived.Laws.Rows
import Derived.Lib.AppendStr
import Derived.ArgAppend
import Derived.Laws.IdiomCopy
import Derived.OrdersHeld
import Derived.Laws.BitsLemmas
import Derived.RowKit
import Derived.Test.YteaaaldfccildaaWWords
import Derived.Test.YteaaaldfccildaaWLast
import Derived.Test.YteaaaldfccildaaWTab
import Derived.Test.YteaaaldfccildaaWFour
import Derived.Test.YteaaaldfccildaaWQPut
import Derived.Test.YteaaaldfccildaaWApart
import Derived.Test.YteaaaldfccildaaWArr
import Derived.Test.YteaaaldfccildaaWZeros
import Derived.Test.YteaaaldfccildaaWFoot
import Derived.Test.YteaaaldfccildaaWKept
import Derived.Test.YteaaaldfccildaaWShare
import Derived.Test.YteaaaldfccildaaWN
import Derived.Test.YteaaaldfccildaaWFootNe
import Derived.Test.YteaaaldfccildaaWAt
import Derived.Test.YteaaaldfccildaaWEqStruct
import Derived.Test.YteaaaldfccildaaWRepsOne
import Derived.Test.YteaaaldfccildaaWInv
import Derived.Test.YteaaaldfccildaaWInvWords
import Derived.Test.YteaaaldfccildaaWGuard
import Derived.Test.YteaaaldfccildaaWNEv
import Derived.Test.YteaaaldfccildaaWMore
namespace Go.Proofs.Yteaaaldfccildaa.G
open Go.RowKit Go.Proofs.YteaaaldfccildaaW.PrintWords Go.Proofs.YteaaaldfccildaaW.PrintLast Go.Proofs.YteaaaldfccildaaW.PrintMore
attribute [local go_sem] max2_int min2_int max_two min_two max_three min_three max_four min_four   -- for this text's walks alone
set_option linter.unusedVariables false
set_option linter.unusedSimpArgs false



def errW : Option Int → Value
  | none => .nilIface
  | some c => .iface 0 (.int .i64 c)
theorem errW_none : errW none = .nilIface := rfl
theorem errW_some (c : Int) : errW (some c) = .iface 0 (.int .i64 c) := rfl

theorem info3 : (Try.prog.info? 3).map (fun i => (i.zero, i.size, i.bytes)) = some (some (.int .i64 0), 1, 8) := by kernel_rfl
theorem info5 : (Try.prog.info? 5).map (fun i => (i.zero, i.size, i.bytes)) = some (some (.int .u8 0), 1, 1) := by kernel_rfl
-- the values' own types

end Go.Proofs.Yteaaaldfccildaa.G
