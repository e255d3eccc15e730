/- Functions of this seat in plain Lean and their contracts, written by a turned copy of the kit's print (turns: wip/pr/make.py of this session). No condition. -/
import Derived.Test.YtngibolpbdncjaaProg
import Derived.Below
import Derived.Deep.Draws
import Derived.Deep.AppendLies
import Derived.Maps.AppendAt
import Derived.OwnWalk
import Derived.Laws.BytesArg
import Derived.Laws.MakeOwn
import Derived.Laws.OwnMore
import Derived.Deep.OwnRows
import Derived.Tactics
import Derived.Lib.ConvBytes
import Derived.Laws.Slices
import Derived.WalkKit
import Derived.KernelRfl
import Derived.RowKit3
import Derived.Deep.LoopGhost
import Derived.Deep.QuietTactic
import Derived.BigQuiet
import Derived.WideLaws
import Derived.Deep.DeepCutAuto
import Derived.Deep.CutBlock
import Derived.Deep.RegionHeld3
import Derived.Laws.Rows
import Derived.Lib.AppendStr
import Derived.ArgAppend
import Derived.Laws.IdiomCopy
import Derived.OrdersHeld
import Derived.Laws.BitsLemmas
import Derived.RowKit
import Derived.Great.BuildSlice
import Derived.Deep.WholeRow
import Derived.Laws.CopyOwn
import Derived.Laws.Tables
import Derived.Test.YtngibolpbdncjaaWWords
import Derived.Test.YtngibolpbdncjaaWLast
import Derived.Test.YtngibolpbdncjaaWTab
import Derived.Test.YtngibolpbdncjaaWFour
import Derived.Test.YtngibolpbdncjaaWQPut
import Derived.Test.YtngibolpbdncjaaWApart
import Derived.Test.YtngibolpbdncjaaWArr
import Derived.Test.YtngibolpbdncjaaWZeros
import Derived.Test.YtngibolpbdncjaaWFoot
import Derived.Test.YtngibolpbdncjaaWKept
import Derived.Test.YtngibolpbdncjaaWShare
import Derived.Test.YtngibolpbdncjaaWN
import Derived.Test.YtngibolpbdncjaaWFootNe
import Derived.Test.YtngibolpbdncjaaWAt
import Derived.Test.YtngibolpbdncjaaWEqStruct
import Derived.Test.YtngibolpbdncjaaWRepsOne
import Derived.Test.YtngibolpbdncjaaWInv
import Derived.Test.YtngibolpbdncjaaWInvWords
import Derived.Test.YtngibolpbdncjaaWGuard
import Derived.Test.YtngibolpbdncjaaWNEv
import Derived.Test.YtngibolpbdncjaaWMore
namespace Go.Proofs.Ytngibolpbdncjaa.P
open Go.RowKit Go.Proofs.YtngibolpbdncjaaW.PrintWords Go.Proofs.YtngibolpbdncjaaW.PrintLast Go.Proofs.YtngibolpbdncjaaW.PrintMore
attribute [local go_sem] max2_int min2_int max_two min_two max_three min_three max_four min_four   -- for this text's walks alone
set_option linter.unusedVariables false
set_option linter.unusedSimpArgs false



def errW : Option Int → Value
  | none => .nilIface
  | some c => .iface 0 (.int .i64 c)
theorem errW_none : errW none = .nilIface := rfl
theorem errW_some (c : Int) : errW (some c) = .iface 0 (.int .i64 c) := rfl

theorem info3 : (Try.prog.info? 3).map (fun i => (i.zero, i.size, i.bytes)) = some (some (.int .i64 0), 1, 8) := by kernel_rfl
-- the values' own types

theorem bld46 (v0 v1 v2 : Int) (w : World) : Sem.run Try.prog (Instr.build 46 #[(0, .int .i64 v0), (1, .int .i64 v1), (2, .int .i64 v2)]) w = .ok (.agg #[.int .i64 v0, .int .i64 v1, .int .i64 v2]) w := by kernel_rfl
/-- A call of a function value that a variable holds, in a region that draws its order. -/
theorem goesT_ {P : Program} {ops : Array Oper} {Q : Exit → Act → World → Prop} {oi : Oper} {N : Option Tmp} {a : Act} {w : World} {K : Act → World → Prop} {f : FuncId} {fn : Func} {xs : Array Operand} {ts : Array TypeId} (T : Tmp) (hf : P.funcs[f]? = some fn) (hname : (fn.name == "runtime.NumGoroutine") = false) (hb : fn.body.isSome = true) (args : Array Value)
    (hw : Region.wanted oi (yielded ops a.tmps) = true) (hN : oi.dst = N) (hop : oi.op = .call { callee := .value (.tmp T), args := xs, argTypes := ts }) (hev : a.eval (.tmp T) = .func (.func f) #[] #[]) (hargs : xs.map a.eval = args)
    (h : Calls P f args w fun e w' => ∃ v, e = .returned v ∧ K (a.put N v) w') : if Region.wanted oi (yielded ops a.tmps) = true then Oper.wp P oi a w K Q else K (a.put N undef) w := by
  refine call_ f args hw hN ?_ h
  have he := enters_ hf hname hb args w
  unfold execOp
  simp [hop, resolve, Deferred.ofValue, invoke, hev, hargs, he]

end Go.Proofs.Ytngibolpbdncjaa.P
