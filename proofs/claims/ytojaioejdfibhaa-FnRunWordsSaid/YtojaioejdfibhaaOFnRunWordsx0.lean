/- Walks of the functions that the law FnRunWords reaches, written by a program of this session. No condition but those that each states. -/
import Derived.Test.YtojaioejdfibhaaProg
import Derived.Below
import Derived.Deep.Draws
import Derived.Deep.AppendLies
import Derived.Maps.AppendAt
import Derived.OwnWalk
import Derived.Laws.BytesArg
import Derived.Laws.MakeOwn
import Derived.Laws.OwnMore
import Derived.Deep.OwnRows
import Derived.Tactics
import Derived.Lib.ConvBytes
import Derived.Laws.Slices
import Derived.WalkKit
import Derived.KernelRfl
import Derived.RowKit3
import Derived.Deep.LoopGhost
import Derived.Deep.QuietTactic
import Derived.BigQuiet
import Derived.WideLaws
import Derived.Deep.DeepCutAuto
import Derived.Deep.CutBlock
import Derived.Deep.RegionHeld3
import Derived.Laws.Rows
import Derived.Lib.AppendStr
import Derived.ArgAppend
import Derived.Laws.IdiomCopy
import Derived.OrdersHeld
import Derived.Laws.BitsLemmas
import Derived.RowKit
import Derived.Test.YtojaioejdfibhaaWWords
import Derived.Test.YtojaioejdfibhaaWLast
import Derived.Test.YtojaioejdfibhaaWTab
import Derived.Test.YtojaioejdfibhaaWFour
import Derived.Test.YtojaioejdfibhaaWQPut
import Derived.Test.YtojaioejdfibhaaWApart
import Derived.Test.YtojaioejdfibhaaWArr
import Derived.Test.YtojaioejdfibhaaWZeros
import Derived.Test.YtojaioejdfibhaaWFoot
import Derived.Test.YtojaioejdfibhaaWKept
import Derived.Test.YtojaioejdfibhaaWShare
import Derived.Test.YtojaioejdfibhaaWN
import Derived.Test.YtojaioejdfibhaaWFootNe
import Derived.Test.YtojaioejdfibhaaWAt
import Derived.Test.YtojaioejdfibhaaWEqStruct
import Derived.Test.YtojaioejdfibhaaWRepsOne
import Derived.Test.YtojaioejdfibhaaWInv
import Derived.Test.YtojaioejdfibhaaWInvWords
import Derived.Test.YtojaioejdfibhaaWGuard
import Derived.Test.YtojaioejdfibhaaWNEv
import Derived.Test.YtojaioejdfibhaaWMore
namespace Go.Proofs.Ytojaioejdfibhaa.PFnRunWords
open Go.RowKit Go.Proofs.YtojaioejdfibhaaW.PrintWords Go.Proofs.YtojaioejdfibhaaW.PrintLast Go.Proofs.YtojaioejdfibhaaW.PrintMore
attribute [local go_sem] max2_int min2_int max_two min_two max_three min_three max_four min_four   -- for this text's walks alone
set_option linter.unusedVariables false
set_option linter.unusedSimpArgs false



def errW : Option Int → Value
  | none => .nilIface
  | some c => .iface 0 (.int .i64 c)
theorem errW_none : errW none = .nilIface := rfl
theorem errW_some (c : Int) : errW (some c) = .iface 0 (.int .i64 c) := rfl

theorem info3 : (Try.prog.info? 3).map (fun i => (i.zero, i.size, i.bytes)) = some (some (.int .i64 0), 1, 8) := by kernel_rfl
theorem info5 : (Try.prog.info? 5).map (fun i => (i.zero, i.size, i.bytes)) = some (some (.int .u8 0), 1, 1) := by kernel_rfl
-- the values' own types

end Go.Proofs.Ytojaioejdfibhaa.PFnRunWords
