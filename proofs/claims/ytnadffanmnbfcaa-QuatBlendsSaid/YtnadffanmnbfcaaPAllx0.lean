/- Functions of this seat in plain Lean and their contracts, written by a turned copy of the kit's print (turns: wip/pr/make.py of this session). No condition. Short rows. -/
import Derived.Test.YtnadffanmnbfcaaProg
import Derived.Below
import Derived.Deep.Draws
import Derived.Deep.AppendLies
import Derived.Maps.AppendAt
import Derived.OwnWalk
import Derived.Laws.BytesArg
import Derived.Laws.MakeOwn
import Derived.Laws.OwnMore
import Derived.Deep.OwnRows
import Derived.Tactics
import Derived.Lib.ConvBytes
import Derived.Laws.Slices
import Derived.WalkKit
import Derived.KernelRfl
import Derived.RowKit3
import Derived.Deep.LoopGhost
import Derived.Deep.QuietTactic
import Derived.BigQuiet
import Derived.WideLaws
import Derived.Deep.DeepCutAuto
import Derived.Deep.CutBlock
import Derived.Deep.RegionHeld3
import Derived.Laws.Rows
import Derived.Lib.AppendStr
import Derived.ArgAppend
import Derived.Laws.IdiomCopy
import Derived.OrdersHeld
import Derived.Laws.BitsLemmas
import Derived.RowKit
import Derived.Great.BuildSlice
import Derived.Deep.WholeRow
import Derived.Laws.CopyOwn
import Derived.Laws.Tables
import Derived.Laws.IdiomArrays
import Derived.Lib.SliceRun
import Derived.ChangeShapes
import Derived.Test.YtnadffanmnbfcaaWWords
import Derived.Test.YtnadffanmnbfcaaWLast
import Derived.Test.YtnadffanmnbfcaaWTab
import Derived.Test.YtnadffanmnbfcaaWFour
import Derived.Test.YtnadffanmnbfcaaWQPut
import Derived.Test.YtnadffanmnbfcaaWApart
import Derived.Test.YtnadffanmnbfcaaWArr
import Derived.Test.YtnadffanmnbfcaaWZeros
import Derived.Test.YtnadffanmnbfcaaWFoot
import Derived.Test.YtnadffanmnbfcaaWKept
import Derived.Test.YtnadffanmnbfcaaWShare
import Derived.Test.YtnadffanmnbfcaaWN
import Derived.Test.YtnadffanmnbfcaaWFootNe
import Derived.Test.YtnadffanmnbfcaaWAt
import Derived.Test.YtnadffanmnbfcaaWEqStruct
import Derived.Test.YtnadffanmnbfcaaWRepsOne
import Derived.Test.YtnadffanmnbfcaaWInv
import Derived.Test.YtnadffanmnbfcaaWInvWords
import Derived.Test.YtnadffanmnbfcaaWGuard
import Derived.Test.YtnadffanmnbfcaaWNEv
import Derived.Test.YtnadffanmnbfcaaWMore
namespace Go.Proofs.Ytnadffanmnbfcaa.P
open Go.RowKit Go.Proofs.YtnadffanmnbfcaaW.PrintWords Go.Proofs.YtnadffanmnbfcaaW.PrintLast Go.Proofs.YtnadffanmnbfcaaW.PrintMore
abbrev yq := true
abbrev nq := false
attribute [local go_sem] max2_int min2_int max_two min_two max_three min_three max_four min_four   -- for this text's walks alone
set_option linter.unusedVariables false
set_option linter.unusedSimpArgs false



def errW : Option Int → Value
 | none => .nilIface
 | some c => .iface 0 (.int .i64 c)
theorem errW_none : errW none = .nilIface := rfl
theorem errW_some (c : Int) : errW (some c) = .iface 0 (.int .i64 c) := rfl

theorem info3 : (Try.prog.info? 3).map (fun i => (i.zero, i.size, i.bytes)) = some (some (.int .i64 0), 1, 8) := by kernel_rfl
-- the values' own types

theorem slc46 (g : Nat) (w : World) : Sem.run Try.prog (Instr.sliceAt 46 (.pointer (some ⟨g, 0, none⟩)) none none none) w = .ok (.slice (some ⟨g, 0, none⟩) 3 3) w := by kernel_rfl
theorem bld46 (v0 v1 v2 : Int) (w : World) : Sem.run Try.prog (Instr.build 46 #[(0, .int .i64 v0), (1, .int .i64 v1), (2, .int .i64 v2)]) w = .ok (.agg #[.int .i64 v0, .int .i64 v1, .int .i64 v2]) w := by kernel_rfl
/-- A call of a function value that a variable holds, in a region that draws its order. -/
theorem goesT_ {P : Program} {ops : Array Oper} {Q : Exit → Act → World → Prop} {oi : Oper} {N : Option Tmp} {a : Act} {w : World} {K : Act → World → Prop} {f : FuncId} {fn : Func} {xs : Array Operand} {ts : Array TypeId} (T : Tmp) (hf : P.funcs[f]? = some fn) (hname : (fn.name == "runtime.NumGoroutine") = false) (hb : fn.body.isSome = true) (args : Array Value)
  (hw : Region.wanted oi (yielded ops a.tmps) = true) (hN : oi.dst = N) (hop : oi.op = .call { callee := .value (.tmp T), args := xs, argTypes := ts }) (hev : a.eval (.tmp T) = .func (.func f) #[] #[]) (hargs : xs.map a.eval = args)
  (h : Calls P f args w fun e w' => ∃ v, e = .returned v ∧ K (a.put N v) w') : if Region.wanted oi (yielded ops a.tmps) = true then Oper.wp P oi a w K Q else K (a.put N undef) w := by
 refine call_ f args hw hN ?_ h
 have he := enters_ hf hname hb args w
 unfold execOp
 simp [hop, resolve, Deferred.ofValue, invoke, hev, hargs, he]
/-- A call of a function whose answer is an equation (a function without a body), as an arm; the world as behind other calls. -/
theorem goesE_ {P : Program} {ops : Array Oper} {Q : Exit → Act → World → Prop} {rest : List Oper} {oi : Oper} {a : Act} {w : World} (N : Option Tmp) (hd : oi.dst = N) (hg : oi.guard = none) {f : FuncId} {xs : Array Operand} {ts : Array TypeId} (args : Array Value) {v : Value}
  (hrun : (callFunc f args).run P w = .ok (.value v) w) (hop : oi.op = .call { callee := .value (.func f), args := xs, argTypes := ts }) (hargs : xs.map a.eval = args)
  (h : ∀ nd, wpList P ops Q rest (a.put N v) (w.drewN nd)) : wpList P ops Q (oi :: rest) a w := by
 refine wpList_plain hg fun K hK => ?_
 have hr : (execOp a.eval oi).run P w = .ok (.value v) w := by
  unfold execOp
  simp [hop, resolve, Deferred.ofValue, invoke, Act.eval, hargs, hrun]
 unfold Oper.wp
 rw [hr]
 subst hd
 exact hK _ _ (h 0)
/-- A row of whole numbers, read out of an array variable in memory. -/
theorem arrC {w : World} {g : Nat} {T : TypeId} {cs : Array Value} (l : List Int) (hcs : cs = (l.map (Value.int .i64)).toArray) (h : w.heap[g]? = some (.cells cs T (0, 0))) (hn : l.length ≤ 9223372036854775807 := by simp) : Kd.C (Kd.int .i64) w (some ⟨g, 0, none⟩) l.length l := by
 refine ⟨rfl, hn, fun _ => ⟨_, rfl, fun j p hj => ⟨[.int .i64 p], rfl, rfl, fun i u hu => ?_⟩⟩⟩
 match i with
 | 0 =>
  simp only [List.getElem?_cons_zero, Option.some.injEq] at hu
  subst hu
  show w.cell? (Addr.add ⟨g, 0, none⟩ (j * 1 + 0)) = _
  rw [add_plain, Nat.mul_one, Nat.add_zero, blk_cell h j, hcs, List.getElem?_toArray, List.getElem?_map, hj]
  rfl
 | i + 1 => simp at hu
/-- An array of four whole numbers by value, taken apart and put together. -/
theorem open_arr4 {H : Type} {enc : TypeId × Value → H} {P : Program} {w : World} {base : Nat} {spare : Nat → Bool} {held : Bool} {r : Reach} {b0 : Nat} {t e : TypeId} {v : Value} {d : DataW H} {ps : List MemPlace} (ht : P.underlying t = some (.array 4 e)) (he : P.underlying e = some (.int .i64)) (hce : P.cellsOf e = 1) (hct : P.cellsOf t = 4) (hval : Value.okWide P w r b0 t v) (hd : DataW.Trod enc P w base spare held t v d ps) :
  ∃ a b c g : Int, v = .agg #[.int .i64 a, .int .i64 b, .int .i64 c, .int .i64 g] ∧ d = .agg [.lit (.int .i64 a), .lit (.int .i64 b), .lit (.int .i64 c), .lit (.int .i64 g)] ∧ ps = [] ∧ (Lit.int .i64 a).wf = true ∧ (Lit.int .i64 b).wf = true ∧ (Lit.int .i64 c).wf = true ∧ (Lit.int .i64 g).wf = true := by
 obtain ⟨cs, rfl, hsz, _⟩ : ∃ cs, v = .agg cs ∧ cs.size = P.cellsOf t ∧ Row.okWide P w r b0 t cs := by simpa [Value.okWide, ht] using hval
 rw [hct] at hsz
 obtain ⟨l⟩ := cs
 obtain ⟨c0, c1, c2, c3, rfl⟩ : ∃ a b c g, l = [a, b, c, g] := by
  match l, hsz with
  | [a, b, c, g], _ => exact ⟨a, b, c, g, rfl⟩
 obtain ⟨fuel, hf⟩ := hd
 obtain ⟨y0, y1, y2, y3, m, hx, hy0, hy1, hy2, hy3⟩ := ChangeShapes.trod_array4 ht hce hf
 obtain ⟨x0, e0, rfl, w0⟩ := DataW.trod_int he hy0
 obtain ⟨x1, e1, rfl, w1⟩ := DataW.trod_int he hy1
 obtain ⟨x2, e2, rfl, w2⟩ := DataW.trod_int he hy2
 obtain ⟨x3, e3, rfl, w3⟩ := DataW.trod_int he hy3
 simp at e0 e1 e2 e3
 subst e0 e1 e2 e3
 simp only [Prod.mk.injEq] at hx
 obtain ⟨rfl, rfl⟩ := hx
 exact ⟨x0, x1, x2, x3, rfl, rfl, rfl, w0, w1, w2, w3⟩
theorem shut_arr4 {H : Type} {enc : TypeId × Value → H} {P : Program} {w : World} {base : Nat} {spare : Nat → Bool} {held : Bool} {t e : TypeId} {a b c g : Int} (ht : P.underlying t = some (.array 4 e)) (he : P.underlying e = some (.int .i64)) (hce : P.cellsOf e = 1) (hct : P.cellsOf t = 4) (wa : (Lit.int .i64 a).wf = true) (wb : (Lit.int .i64 b).wf = true) (wc : (Lit.int .i64 c).wf = true) (wg : (Lit.int .i64 g).wf = true) :
  DataW.Trod enc P w base spare held t (.agg #[.int .i64 a, .int .i64 b, .int .i64 c, .int .i64 g]) (.agg [.lit (.int .i64 a), .lit (.int .i64 b), .lit (.int .i64 c), .lit (.int .i64 g)]) [] :=
 ⟨2, by simp [DataW.trod, Value.cells, ht, he, hce, hct, wa, wb, wc, wg, show List.range 4 = [0, 1, 2, 3] from rfl]⟩
/-- A row of the call's own lies behind the call's base. -/
theorem Kd.R_mine {α : Type} {d : Kd α} {e : Nat} {w : World} {base : Nat} {ok : Nat → Prop} {v : Value} {xs : List α} (h : Kd.R d e w base ok v xs) : Kd.R d e w base (fun k_ => base ≤ k_ ∧ ok k_) v xs :=
 Kd.R_mono (Kd.R_bound h) (fun k hk => ⟨hk.2.1, hk.1⟩)

end Go.Proofs.Ytnadffanmnbfcaa.P
