/- Functions of this seat in plain Lean and their contracts, written by a turned copy of the kit's print (turns: wip/pr/make.py of this session). No condition. -/
import Derived.Test.YtggfiacnkbcjbaaProg
import Derived.Below
import Derived.Deep.Draws
import Derived.Deep.AppendLies
import Derived.Maps.AppendAt
import Derived.OwnWalk
import Derived.Laws.BytesArg
import Derived.Laws.MakeOwn
import Derived.Laws.OwnMore
import Derived.Deep.OwnRows
import Derived.Tactics
import Derived.Lib.ConvBytes
import Derived.Laws.Slices
import Derived.WalkKit
import Derived.KernelRfl
import Derived.RowKit3
import Derived.Deep.LoopGhost
import Derived.Deep.QuietTactic
import Derived.BigQuiet
import Derived.WideLaws
import Derived.Deep.DeepCutAuto
import Derived.Deep.CutBlock
import Derived.Deep.RegionHeld3
import Derived.Laws.Rows
import Derived.Lib.AppendStr
import Derived.ArgAppend
import Derived.Laws.IdiomCopy
import Derived.OrdersHeld
import Derived.Laws.BitsLemmas
import Derived.RowKit
import Derived.Test.YtggfiacnkbcjbaaWWords
import Derived.Test.YtggfiacnkbcjbaaWLast
import Derived.Test.YtggfiacnkbcjbaaWTab
import Derived.Test.YtggfiacnkbcjbaaWFour
import Derived.Test.YtggfiacnkbcjbaaWQPut
import Derived.Test.YtggfiacnkbcjbaaWApart
import Derived.Test.YtggfiacnkbcjbaaWArr
import Derived.Test.YtggfiacnkbcjbaaWZeros
import Derived.Test.YtggfiacnkbcjbaaWFoot
import Derived.Test.YtggfiacnkbcjbaaWKept
import Derived.Test.YtggfiacnkbcjbaaWShare
import Derived.Test.YtggfiacnkbcjbaaWN
import Derived.Test.YtggfiacnkbcjbaaWFootNe
import Derived.Test.YtggfiacnkbcjbaaWAt
import Derived.Test.YtggfiacnkbcjbaaWEqStruct
import Derived.Test.YtggfiacnkbcjbaaWRepsOne
import Derived.Test.YtggfiacnkbcjbaaWInv
import Derived.Test.YtggfiacnkbcjbaaWInvWords
import Derived.Test.YtggfiacnkbcjbaaWGuard
import Derived.Test.YtggfiacnkbcjbaaWNEv
import Derived.Test.YtggfiacnkbcjbaaWMore
namespace Go.Proofs.Ytggfiacnkbcjbaa.P
open Go.RowKit Go.Proofs.YtggfiacnkbcjbaaW.PrintWords Go.Proofs.YtggfiacnkbcjbaaW.PrintLast Go.Proofs.YtggfiacnkbcjbaaW.PrintMore
attribute [local go_sem] max2_int min2_int max_two min_two max_three min_three max_four min_four   -- for this text's walks alone
set_option linter.unusedVariables false
set_option linter.unusedSimpArgs false



def errW : Option Int → Value
  | none => .nilIface
  | some c => .iface 0 (.int .i64 c)
theorem errW_none : errW none = .nilIface := rfl
theorem errW_some (c : Int) : errW (some c) = .iface 0 (.int .i64 c) := rfl

theorem info3 : (Try.prog.info? 3).map (fun i => (i.zero, i.size, i.bytes)) = some (some (.int .i64 0), 1, 8) := by kernel_rfl
theorem info34 : (Try.prog.info? 34).map (fun i => (i.zero, i.size, i.bytes)) = some (some (.int .i64 0), 1, 8) := by kernel_rfl
-- the values' own types

theorem fld25_1 (v0 v1 : Value) (w : World) : Sem.run Try.prog (Instr.field 25 (Value.agg #[v0, v1]) 1) w = .ok v1 w := by kernel_rfl
end Go.Proofs.Ytggfiacnkbcjbaa.P
