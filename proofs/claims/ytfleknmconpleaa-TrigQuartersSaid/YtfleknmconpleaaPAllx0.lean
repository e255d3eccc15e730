/- Functions of this seat in plain Lean and their contracts, written by a turned copy of the kit's print (turns: wip/pr/make.py of this session). No condition. -/
import Derived.Test.YtfleknmconpleaaProg
import Derived.Below
import Derived.Deep.Draws
import Derived.Deep.AppendLies
import Derived.Maps.AppendAt
import Derived.OwnWalk
import Derived.Laws.BytesArg
import Derived.Laws.MakeOwn
import Derived.Laws.OwnMore
import Derived.Deep.OwnRows
import Derived.Tactics
import Derived.Lib.ConvBytes
import Derived.Laws.Slices
import Derived.WalkKit
import Derived.KernelRfl
import Derived.RowKit3
import Derived.Deep.LoopGhost
import Derived.Deep.QuietTactic
import Derived.BigQuiet
import Derived.WideLaws
import Derived.Deep.DeepCutAuto
import Derived.Deep.CutBlock
import Derived.Deep.RegionHeld3
import Derived.Laws.Rows
import Derived.Lib.AppendStr
import Derived.ArgAppend
import Derived.Laws.IdiomCopy
import Derived.OrdersHeld
import Derived.Laws.BitsLemmas
import Derived.RowKit
import Derived.Great.BuildSlice
import Derived.Deep.WholeRow
import Derived.Laws.CopyOwn
import Derived.Laws.Tables
import Derived.Test.YtfleknmconpleaaWWords
import Derived.Test.YtfleknmconpleaaWLast
import Derived.Test.YtfleknmconpleaaWTab
import Derived.Test.YtfleknmconpleaaWFour
import Derived.Test.YtfleknmconpleaaWQPut
import Derived.Test.YtfleknmconpleaaWApart
import Derived.Test.YtfleknmconpleaaWArr
import Derived.Test.YtfleknmconpleaaWZeros
import Derived.Test.YtfleknmconpleaaWFoot
import Derived.Test.YtfleknmconpleaaWKept
import Derived.Test.YtfleknmconpleaaWShare
import Derived.Test.YtfleknmconpleaaWN
import Derived.Test.YtfleknmconpleaaWFootNe
import Derived.Test.YtfleknmconpleaaWAt
import Derived.Test.YtfleknmconpleaaWEqStruct
import Derived.Test.YtfleknmconpleaaWRepsOne
import Derived.Test.YtfleknmconpleaaWInv
import Derived.Test.YtfleknmconpleaaWInvWords
import Derived.Test.YtfleknmconpleaaWGuard
import Derived.Test.YtfleknmconpleaaWNEv
import Derived.Test.YtfleknmconpleaaWMore
namespace Go.Proofs.Ytfleknmconpleaa.P
open Go.RowKit Go.Proofs.YtfleknmconpleaaW.PrintWords Go.Proofs.YtfleknmconpleaaW.PrintLast Go.Proofs.YtfleknmconpleaaW.PrintMore
attribute [local go_sem] max2_int min2_int max_two min_two max_three min_three max_four min_four   -- for this text's walks alone
set_option linter.unusedVariables false
set_option linter.unusedSimpArgs false



def errW : Option Int → Value
  | none => .nilIface
  | some c => .iface 0 (.int .i64 c)
theorem errW_none : errW none = .nilIface := rfl
theorem errW_some (c : Int) : errW (some c) = .iface 0 (.int .i64 c) := rfl

theorem info5 : (Try.prog.info? 5).map (fun i => (i.zero, i.size, i.bytes)) = some (some (.int .u8 0), 1, 1) := by kernel_rfl
-- the values' own types

end Go.Proofs.Ytfleknmconpleaa.P
