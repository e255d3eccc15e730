/- slots.List's region, in a round's frame, its order drawn: whatever the order, one end (printed by wip/gen/listreg.py: a state is the set of operations that are done). No condition. -/
import Derived.Test.YtknmlikjmnhgkaaQSlots
namespace Go.Proofs.Ytknmlikjmnhgkaa.P
open Go.RowKit Go.Shelf Go.Proofs.YtknmlikjmnhgkaaW.PrintWords Go.Proofs.YtknmlikjmnhgkaaW.PrintLast Go.Proofs.YtknmlikjmnhgkaaW.PrintMore Go.Proofs.Ytknmlikjmnhgkaa.Pure
attribute [local go_sem] Oper.semAt_some
set_option linter.unusedVariables false
set_option linter.unusedSimpArgs false

/-- append, under a name that the walk does not open -/
def myAppend (ats : Array TypeId) (ty : TypeId) (args : Array Value) : Sem Value := Builtin.append_ ats ty args
theorem append_my (ats : Array TypeId) (ty : TypeId) (args : Array Value) : Builtin.append_ ats ty args = myAppend ats ty args := rfl
attribute [local go_sem ↓] append_my
def ops4 : Array Oper := #[{ dst := some 11, op := Op.load 61 (Operand.tmp 3), type := 61, pos := "slots.go:87", after := #[], guard := none },
  { dst := some 12, op := Op.move (Operand.tmp 4), type := 3, pos := "slots.go:87", after := #[], guard := none },
  { dst := some 13, op := Op.load 59 (Operand.tmp 1), type := 59, pos := "slots.go:87", after := #[], guard := none },
  { dst := some 14, op := Op.nilCheck (Operand.tmp 13), type := 0, pos := "slots.go:87", after := #[{ on := 2, ground := Ground.data }], guard := none },
  { dst := some 15, op := Op.fieldAddr 94 (Operand.tmp 14) 0, type := 0, pos := "slots.go:87", after := #[{ on := 3, ground := Ground.data }], guard := none },
  { dst := some 16, op := Op.load 22 (Operand.tmp 15), type := 22, pos := "slots.go:87", after := #[{ on := 4, ground := Ground.data }], guard := none },
  { dst := some 17, op := Op.move (Operand.tmp 4), type := 3, pos := "slots.go:87", after := #[], guard := none },
  { dst := some 18, op := Op.indexAddr 22 (Operand.tmp 16) (Operand.tmp 17), type := 0, pos := "slots.go:87", after := #[{ on := 5, ground := Ground.data }, { on := 6, ground := Ground.data }], guard := none },
  { dst := some 19, op := Op.load 3 (Operand.tmp 18), type := 3, pos := "slots.go:87", after := #[{ on := 7, ground := Ground.data }], guard := none },
  { dst := some 20, op := Op.build 64 #[(0, Operand.tmp 12), (1, Operand.tmp 19)], type := 64, pos := "slots.go:87", after := #[{ on := 1, ground := Ground.data }, { on := 8, ground := Ground.data }], guard := none },
  { dst := some 21, op := Op.buildSlice 61 1 #[(0, Operand.tmp 20)], type := 61, pos := "slots.go:87", after := #[{ on := 9, ground := Ground.data }], guard := none },
  { dst := some 22, op := Op.call { callee := Callee.builtin Builtin.append, args := #[Operand.tmp 11, Operand.tmp 21], argTypes := #[61, 61] }, type := 61, pos := "slots.go:87", after := #[{ on := 0, ground := Ground.data }, { on := 10, ground := Ground.data }], guard := none },
  { dst := none, op := Op.store 61 (Operand.tmp 3) (Operand.tmp 22), type := 0, pos := "slots.go:87", after := #[{ on := 11, ground := Ground.data }, { on := 11, ground := Ground.chain }, { on := 0, ground := Ground.phase }, { on := 1, ground := Ground.phase }, { on := 2, ground := Ground.phase }, { on := 3, ground := Ground.phase }, { on := 4, ground := Ground.phase }, { on := 5, ground := Ground.phase }, { on := 6, ground := Ground.phase }, { on := 7, ground := Ground.phase }, { on := 8, ground := Ground.phase }, { on := 9, ground := Ground.phase }, { on := 10, ground := Ground.phase }, { on := 11, ground := Ground.phase }], guard := none }]
set_option maxHeartbeats 400000 in
set_option maxRecDepth 100000 in
theorem list_region {l nn : Nat} {Q : Exit → Act → World → Prop} {W w8 : World} {g kS kO gb m c b8 m8 c8 n : Nat} {x : Int} {v a5 a6 a7 a8 a9 a10 : Value}
    (cO : W.cell? ⟨kO, 0, none⟩ = some v) (cS : W.cell? ⟨kS, 0, none⟩ = some (.pointer (some ⟨g, 0, none⟩))) (cG : W.cell? ⟨g, 0, none⟩ = some (.slice (some ⟨gb, 0, none⟩) m c)) (cX : W.cell? ⟨gb, n, none⟩ = some (.int .i64 x)) (f0 : (n : Int) < (m : Int)) (f1 : (0 : Int) ≤ (n : Int))
    (cO2 : (W.alloc (.cells #[.int .i64 n, .int .i64 x] 64)).cell? ⟨kO, 0, none⟩ = some v)
    (hrun : Sem.run Try.prog (myAppend #[61, 61] 61 #[v, .slice (some ⟨W.heap.size, 0, none⟩) 1 1]) (W.alloc (.cells #[.int .i64 n, .int .i64 x] 64)).drew = .ok (.slice (some ⟨b8, 0, none⟩) m8 c8) w8)
    (c8O : w8.cell? ⟨kO, 0, none⟩ = some v) (f8O : w8.frozen? ⟨kO, 0, none⟩ = false)
    (hQ : Q .normal { tmps := #[.pointer (some ⟨g, 0, none⟩), .pointer (some ⟨kS, 0, none⟩), .slice none 0 0, .pointer (some ⟨kO, 0, none⟩), .int .i64 n, a5, a6, a7, a8, a9, a10, v, .int .i64 n, .pointer (some ⟨g, 0, none⟩), .pointer (some ⟨g, 0, none⟩), .pointer (some ⟨g, 0, none⟩), .slice (some ⟨gb, 0, none⟩) m c, .int .i64 n, .pointer (some ⟨gb, n, none⟩), .int .i64 x, .agg #[.int .i64 n, .int .i64 x], .slice (some ⟨W.heap.size, 0, none⟩) 1 1, .slice (some ⟨b8, 0, none⟩) m8 c8, undef], defers := [] } (w8.setCell ⟨kO, 0, none⟩ (.slice (some ⟨b8, 0, none⟩) m8 c8))) :
    (Code.region 4 ops4 true).wpIn (Fence.wide.inRound l) nn Try.prog Q { tmps := #[.pointer (some ⟨g, 0, none⟩), .pointer (some ⟨kS, 0, none⟩), .slice none 0 0, .pointer (some ⟨kO, 0, none⟩), .int .i64 n, a5, a6, a7, a8, a9, a10, undef, undef, undef, undef, undef, undef, undef, undef, undef, undef, undef, undef, undef], defers := [] } W := by
  have hmix : Try.prog.follows .mixedOrders = true := by kernel_rfl
  have s0 : wpAnyIn (Fence.wide.inRound l) nn Try.prog .any ops4 Q 0 #[true, true, true, true, true, true, true, true, true, true, true, true, true] { tmps := #[.pointer (some ⟨g, 0, none⟩), .pointer (some ⟨kS, 0, none⟩), .slice none 0 0, .pointer (some ⟨kO, 0, none⟩), .int .i64 n, a5, a6, a7, a8, a9, a10, v, .int .i64 n, .pointer (some ⟨g, 0, none⟩), .pointer (some ⟨g, 0, none⟩), .pointer (some ⟨g, 0, none⟩), .slice (some ⟨gb, 0, none⟩) m c, .int .i64 n, .pointer (some ⟨gb, n, none⟩), .int .i64 x, .agg #[.int .i64 n, .int .i64 x], .slice (some ⟨W.heap.size, 0, none⟩) 1 1, .slice (some ⟨b8, 0, none⟩) m8 c8, undef], defers := [] } (w8.setCell ⟨kO, 0, none⟩ (.slice (some ⟨b8, 0, none⟩) m8 c8)) := by
    exact wpAnyIn_done (by decide +kernel) hQ _
  have s1 : wpAnyIn (Fence.wide.inRound l) nn Try.prog .any ops4 Q 1 #[true, true, true, true, true, true, true, true, true, true, true, true, false] { tmps := #[.pointer (some ⟨g, 0, none⟩), .pointer (some ⟨kS, 0, none⟩), .slice none 0 0, .pointer (some ⟨kO, 0, none⟩), .int .i64 n, a5, a6, a7, a8, a9, a10, v, .int .i64 n, .pointer (some ⟨g, 0, none⟩), .pointer (some ⟨g, 0, none⟩), .pointer (some ⟨g, 0, none⟩), .slice (some ⟨gb, 0, none⟩) m c, .int .i64 n, .pointer (some ⟨gb, n, none⟩), .int .i64 x, .agg #[.int .i64 n, .int .i64 x], .slice (some ⟨W.heap.size, 0, none⟩) 1 1, .slice (some ⟨b8, 0, none⟩) m8 c8, undef], defers := [] } w8 := by
    refine wpAnyIn_ready (rs := [12]) (by decide +kernel) (by decide) ?_
    refine AllReadyIn.cons (o := { dst := none, op := Op.store 61 (Operand.tmp 3) (Operand.tmp 22), type := 0, pos := "slots.go:87", after := #[{ on := 11, ground := Ground.data }, { on := 11, ground := Ground.chain }, { on := 0, ground := Ground.phase }, { on := 1, ground := Ground.phase }, { on := 2, ground := Ground.phase }, { on := 3, ground := Ground.phase }, { on := 4, ground := Ground.phase }, { on := 5, ground := Ground.phase }, { on := 6, ground := Ground.phase }, { on := 7, ground := Ground.phase }, { on := 8, ground := Ground.phase }, { on := 9, ground := Ground.phase }, { on := 10, ground := Ground.phase }, { on := 11, ground := Ground.phase }], guard := none }) rfl (fun K hK => ?_) ?_
    · go_simp
      exact hK _ _ s0
    exact AllReadyIn.nil
  have s2 : wpAnyIn (Fence.wide.inRound l) nn Try.prog .any ops4 Q 2 #[true, true, true, true, true, true, true, true, true, true, true, false, false] { tmps := #[.pointer (some ⟨g, 0, none⟩), .pointer (some ⟨kS, 0, none⟩), .slice none 0 0, .pointer (some ⟨kO, 0, none⟩), .int .i64 n, a5, a6, a7, a8, a9, a10, v, .int .i64 n, .pointer (some ⟨g, 0, none⟩), .pointer (some ⟨g, 0, none⟩), .pointer (some ⟨g, 0, none⟩), .slice (some ⟨gb, 0, none⟩) m c, .int .i64 n, .pointer (some ⟨gb, n, none⟩), .int .i64 x, .agg #[.int .i64 n, .int .i64 x], .slice (some ⟨W.heap.size, 0, none⟩) 1 1, undef, undef], defers := [] } (W.alloc (.cells #[.int .i64 n, .int .i64 x] 64)).drew := by
    refine wpAnyIn_ready (rs := [11]) (by decide +kernel) (by decide) ?_
    refine AllReadyIn.cons (o := { dst := some 22, op := Op.call { callee := Callee.builtin Builtin.append, args := #[Operand.tmp 11, Operand.tmp 21], argTypes := #[61, 61] }, type := 61, pos := "slots.go:87", after := #[{ on := 0, ground := Ground.data }, { on := 10, ground := Ground.data }], guard := none }) rfl (fun K hK => ?_) ?_
    · go_simp
      exact hK _ _ s1
    exact AllReadyIn.nil
  have s3 : wpAnyIn (Fence.wide.inRound l) nn Try.prog .any ops4 Q 3 #[true, true, true, true, true, true, true, true, true, true, false, false, false] { tmps := #[.pointer (some ⟨g, 0, none⟩), .pointer (some ⟨kS, 0, none⟩), .slice none 0 0, .pointer (some ⟨kO, 0, none⟩), .int .i64 n, a5, a6, a7, a8, a9, a10, v, .int .i64 n, .pointer (some ⟨g, 0, none⟩), .pointer (some ⟨g, 0, none⟩), .pointer (some ⟨g, 0, none⟩), .slice (some ⟨gb, 0, none⟩) m c, .int .i64 n, .pointer (some ⟨gb, n, none⟩), .int .i64 x, .agg #[.int .i64 n, .int .i64 x], undef, undef, undef], defers := [] } W.drew := by
    refine wpAnyIn_ready (rs := [10]) (by decide +kernel) (by decide) ?_
    refine AllReadyIn.cons (o := { dst := some 21, op := Op.buildSlice 61 1 #[(0, Operand.tmp 20)], type := 61, pos := "slots.go:87", after := #[{ on := 9, ground := Ground.data }], guard := none }) rfl (fun K hK => ?_) ?_
    · go_simp
      exact hK _ _ s2
    exact AllReadyIn.nil
  have s4 : wpAnyIn (Fence.wide.inRound l) nn Try.prog .any ops4 Q 3 #[false, true, true, true, true, true, true, true, true, true, true, false, false] { tmps := #[.pointer (some ⟨g, 0, none⟩), .pointer (some ⟨kS, 0, none⟩), .slice none 0 0, .pointer (some ⟨kO, 0, none⟩), .int .i64 n, a5, a6, a7, a8, a9, a10, undef, .int .i64 n, .pointer (some ⟨g, 0, none⟩), .pointer (some ⟨g, 0, none⟩), .pointer (some ⟨g, 0, none⟩), .slice (some ⟨gb, 0, none⟩) m c, .int .i64 n, .pointer (some ⟨gb, n, none⟩), .int .i64 x, .agg #[.int .i64 n, .int .i64 x], .slice (some ⟨W.heap.size, 0, none⟩) 1 1, undef, undef], defers := [] } (W.alloc (.cells #[.int .i64 n, .int .i64 x] 64)).drew := by
    refine wpAnyIn_ready (rs := [0]) (by decide +kernel) (by decide) ?_
    refine AllReadyIn.cons (o := { dst := some 11, op := Op.load 61 (Operand.tmp 3), type := 61, pos := "slots.go:87", after := #[], guard := none }) rfl (fun K hK => ?_) ?_
    · go_simp
      exact hK _ _ s2
    exact AllReadyIn.nil
  have s5 : wpAnyIn (Fence.wide.inRound l) nn Try.prog .any ops4 Q 4 #[true, true, true, true, true, true, true, true, true, false, false, false, false] { tmps := #[.pointer (some ⟨g, 0, none⟩), .pointer (some ⟨kS, 0, none⟩), .slice none 0 0, .pointer (some ⟨kO, 0, none⟩), .int .i64 n, a5, a6, a7, a8, a9, a10, v, .int .i64 n, .pointer (some ⟨g, 0, none⟩), .pointer (some ⟨g, 0, none⟩), .pointer (some ⟨g, 0, none⟩), .slice (some ⟨gb, 0, none⟩) m c, .int .i64 n, .pointer (some ⟨gb, n, none⟩), .int .i64 x, undef, undef, undef, undef], defers := [] } W.drew := by
    refine wpAnyIn_ready (rs := [9]) (by decide +kernel) (by decide) ?_
    refine AllReadyIn.cons (o := { dst := some 20, op := Op.build 64 #[(0, Operand.tmp 12), (1, Operand.tmp 19)], type := 64, pos := "slots.go:87", after := #[{ on := 1, ground := Ground.data }, { on := 8, ground := Ground.data }], guard := none }) rfl (fun K hK => ?_) ?_
    · go_simp
      exact hK _ _ s3
    exact AllReadyIn.nil
  have s6 : wpAnyIn (Fence.wide.inRound l) nn Try.prog .any ops4 Q 4 #[false, true, true, true, true, true, true, true, true, true, false, false, false] { tmps := #[.pointer (some ⟨g, 0, none⟩), .pointer (some ⟨kS, 0, none⟩), .slice none 0 0, .pointer (some ⟨kO, 0, none⟩), .int .i64 n, a5, a6, a7, a8, a9, a10, undef, .int .i64 n, .pointer (some ⟨g, 0, none⟩), .pointer (some ⟨g, 0, none⟩), .pointer (some ⟨g, 0, none⟩), .slice (some ⟨gb, 0, none⟩) m c, .int .i64 n, .pointer (some ⟨gb, n, none⟩), .int .i64 x, .agg #[.int .i64 n, .int .i64 x], undef, undef, undef], defers := [] } W.drew := by
    refine wpAnyIn_ready (rs := [0, 10]) (by decide +kernel) (by decide) ?_
    refine AllReadyIn.cons (o := { dst := some 11, op := Op.load 61 (Operand.tmp 3), type := 61, pos := "slots.go:87", after := #[], guard := none }) rfl (fun K hK => ?_) ?_
    · go_simp
      exact hK _ _ s3
    refine AllReadyIn.cons (o := { dst := some 21, op := Op.buildSlice 61 1 #[(0, Operand.tmp 20)], type := 61, pos := "slots.go:87", after := #[{ on := 9, ground := Ground.data }], guard := none }) rfl (fun K hK => ?_) ?_
    · go_simp
      exact hK _ _ s4
    exact AllReadyIn.nil
  have s7 : wpAnyIn (Fence.wide.inRound l) nn Try.prog .any ops4 Q 5 #[true, true, true, true, true, true, true, true, false, false, false, false, false] { tmps := #[.pointer (some ⟨g, 0, none⟩), .pointer (some ⟨kS, 0, none⟩), .slice none 0 0, .pointer (some ⟨kO, 0, none⟩), .int .i64 n, a5, a6, a7, a8, a9, a10, v, .int .i64 n, .pointer (some ⟨g, 0, none⟩), .pointer (some ⟨g, 0, none⟩), .pointer (some ⟨g, 0, none⟩), .slice (some ⟨gb, 0, none⟩) m c, .int .i64 n, .pointer (some ⟨gb, n, none⟩), undef, undef, undef, undef, undef], defers := [] } W.drew := by
    refine wpAnyIn_ready (rs := [8]) (by decide +kernel) (by decide) ?_
    refine AllReadyIn.cons (o := { dst := some 19, op := Op.load 3 (Operand.tmp 18), type := 3, pos := "slots.go:87", after := #[{ on := 7, ground := Ground.data }], guard := none }) rfl (fun K hK => ?_) ?_
    · go_simp
      exact hK _ _ s5
    exact AllReadyIn.nil
  have s8 : wpAnyIn (Fence.wide.inRound l) nn Try.prog .any ops4 Q 5 #[true, false, true, true, true, true, true, true, true, false, false, false, false] { tmps := #[.pointer (some ⟨g, 0, none⟩), .pointer (some ⟨kS, 0, none⟩), .slice none 0 0, .pointer (some ⟨kO, 0, none⟩), .int .i64 n, a5, a6, a7, a8, a9, a10, v, undef, .pointer (some ⟨g, 0, none⟩), .pointer (some ⟨g, 0, none⟩), .pointer (some ⟨g, 0, none⟩), .slice (some ⟨gb, 0, none⟩) m c, .int .i64 n, .pointer (some ⟨gb, n, none⟩), .int .i64 x, undef, undef, undef, undef], defers := [] } W.drew := by
    refine wpAnyIn_ready (rs := [1]) (by decide +kernel) (by decide) ?_
    refine AllReadyIn.cons (o := { dst := some 12, op := Op.move (Operand.tmp 4), type := 3, pos := "slots.go:87", after := #[], guard := none }) rfl (fun K hK => ?_) ?_
    · go_simp
      exact hK _ _ s5
    exact AllReadyIn.nil
  have s9 : wpAnyIn (Fence.wide.inRound l) nn Try.prog .any ops4 Q 5 #[false, true, true, true, true, true, true, true, true, false, false, false, false] { tmps := #[.pointer (some ⟨g, 0, none⟩), .pointer (some ⟨kS, 0, none⟩), .slice none 0 0, .pointer (some ⟨kO, 0, none⟩), .int .i64 n, a5, a6, a7, a8, a9, a10, undef, .int .i64 n, .pointer (some ⟨g, 0, none⟩), .pointer (some ⟨g, 0, none⟩), .pointer (some ⟨g, 0, none⟩), .slice (some ⟨gb, 0, none⟩) m c, .int .i64 n, .pointer (some ⟨gb, n, none⟩), .int .i64 x, undef, undef, undef, undef], defers := [] } W.drew := by
    refine wpAnyIn_ready (rs := [0, 9]) (by decide +kernel) (by decide) ?_
    refine AllReadyIn.cons (o := { dst := some 11, op := Op.load 61 (Operand.tmp 3), type := 61, pos := "slots.go:87", after := #[], guard := none }) rfl (fun K hK => ?_) ?_
    · go_simp
      exact hK _ _ s5
    refine AllReadyIn.cons (o := { dst := some 20, op := Op.build 64 #[(0, Operand.tmp 12), (1, Operand.tmp 19)], type := 64, pos := "slots.go:87", after := #[{ on := 1, ground := Ground.data }, { on := 8, ground := Ground.data }], guard := none }) rfl (fun K hK => ?_) ?_
    · go_simp
      exact hK _ _ s6
    exact AllReadyIn.nil
  have s10 : wpAnyIn (Fence.wide.inRound l) nn Try.prog .any ops4 Q 6 #[true, true, true, true, true, true, true, false, false, false, false, false, false] { tmps := #[.pointer (some ⟨g, 0, none⟩), .pointer (some ⟨kS, 0, none⟩), .slice none 0 0, .pointer (some ⟨kO, 0, none⟩), .int .i64 n, a5, a6, a7, a8, a9, a10, v, .int .i64 n, .pointer (some ⟨g, 0, none⟩), .pointer (some ⟨g, 0, none⟩), .pointer (some ⟨g, 0, none⟩), .slice (some ⟨gb, 0, none⟩) m c, .int .i64 n, undef, undef, undef, undef, undef, undef], defers := [] } W.drew := by
    refine wpAnyIn_ready (rs := [7]) (by decide +kernel) (by decide) ?_
    refine AllReadyIn.cons (o := { dst := some 18, op := Op.indexAddr 22 (Operand.tmp 16) (Operand.tmp 17), type := 0, pos := "slots.go:87", after := #[{ on := 5, ground := Ground.data }, { on := 6, ground := Ground.data }], guard := none }) rfl (fun K hK => ?_) ?_
    · go_simp
      exact hK _ _ s7
    exact AllReadyIn.nil
  have s11 : wpAnyIn (Fence.wide.inRound l) nn Try.prog .any ops4 Q 6 #[true, false, true, true, true, true, true, true, false, false, false, false, false] { tmps := #[.pointer (some ⟨g, 0, none⟩), .pointer (some ⟨kS, 0, none⟩), .slice none 0 0, .pointer (some ⟨kO, 0, none⟩), .int .i64 n, a5, a6, a7, a8, a9, a10, v, undef, .pointer (some ⟨g, 0, none⟩), .pointer (some ⟨g, 0, none⟩), .pointer (some ⟨g, 0, none⟩), .slice (some ⟨gb, 0, none⟩) m c, .int .i64 n, .pointer (some ⟨gb, n, none⟩), undef, undef, undef, undef, undef], defers := [] } W.drew := by
    refine wpAnyIn_ready (rs := [1, 8]) (by decide +kernel) (by decide) ?_
    refine AllReadyIn.cons (o := { dst := some 12, op := Op.move (Operand.tmp 4), type := 3, pos := "slots.go:87", after := #[], guard := none }) rfl (fun K hK => ?_) ?_
    · go_simp
      exact hK _ _ s7
    refine AllReadyIn.cons (o := { dst := some 19, op := Op.load 3 (Operand.tmp 18), type := 3, pos := "slots.go:87", after := #[{ on := 7, ground := Ground.data }], guard := none }) rfl (fun K hK => ?_) ?_
    · go_simp
      exact hK _ _ s8
    exact AllReadyIn.nil
  have s12 : wpAnyIn (Fence.wide.inRound l) nn Try.prog .any ops4 Q 6 #[false, true, true, true, true, true, true, true, false, false, false, false, false] { tmps := #[.pointer (some ⟨g, 0, none⟩), .pointer (some ⟨kS, 0, none⟩), .slice none 0 0, .pointer (some ⟨kO, 0, none⟩), .int .i64 n, a5, a6, a7, a8, a9, a10, undef, .int .i64 n, .pointer (some ⟨g, 0, none⟩), .pointer (some ⟨g, 0, none⟩), .pointer (some ⟨g, 0, none⟩), .slice (some ⟨gb, 0, none⟩) m c, .int .i64 n, .pointer (some ⟨gb, n, none⟩), undef, undef, undef, undef, undef], defers := [] } W.drew := by
    refine wpAnyIn_ready (rs := [0, 8]) (by decide +kernel) (by decide) ?_
    refine AllReadyIn.cons (o := { dst := some 11, op := Op.load 61 (Operand.tmp 3), type := 61, pos := "slots.go:87", after := #[], guard := none }) rfl (fun K hK => ?_) ?_
    · go_simp
      exact hK _ _ s7
    refine AllReadyIn.cons (o := { dst := some 19, op := Op.load 3 (Operand.tmp 18), type := 3, pos := "slots.go:87", after := #[{ on := 7, ground := Ground.data }], guard := none }) rfl (fun K hK => ?_) ?_
    · go_simp
      exact hK _ _ s9
    exact AllReadyIn.nil
  have s13 : wpAnyIn (Fence.wide.inRound l) nn Try.prog .any ops4 Q 6 #[false, false, true, true, true, true, true, true, true, false, false, false, false] { tmps := #[.pointer (some ⟨g, 0, none⟩), .pointer (some ⟨kS, 0, none⟩), .slice none 0 0, .pointer (some ⟨kO, 0, none⟩), .int .i64 n, a5, a6, a7, a8, a9, a10, undef, undef, .pointer (some ⟨g, 0, none⟩), .pointer (some ⟨g, 0, none⟩), .pointer (some ⟨g, 0, none⟩), .slice (some ⟨gb, 0, none⟩) m c, .int .i64 n, .pointer (some ⟨gb, n, none⟩), .int .i64 x, undef, undef, undef, undef], defers := [] } W.drew := by
    refine wpAnyIn_ready (rs := [0, 1]) (by decide +kernel) (by decide) ?_
    refine AllReadyIn.cons (o := { dst := some 11, op := Op.load 61 (Operand.tmp 3), type := 61, pos := "slots.go:87", after := #[], guard := none }) rfl (fun K hK => ?_) ?_
    · go_simp
      exact hK _ _ s8
    refine AllReadyIn.cons (o := { dst := some 12, op := Op.move (Operand.tmp 4), type := 3, pos := "slots.go:87", after := #[], guard := none }) rfl (fun K hK => ?_) ?_
    · go_simp
      exact hK _ _ s9
    exact AllReadyIn.nil
  have s14 : wpAnyIn (Fence.wide.inRound l) nn Try.prog .any ops4 Q 7 #[true, true, true, true, true, true, false, false, false, false, false, false, false] { tmps := #[.pointer (some ⟨g, 0, none⟩), .pointer (some ⟨kS, 0, none⟩), .slice none 0 0, .pointer (some ⟨kO, 0, none⟩), .int .i64 n, a5, a6, a7, a8, a9, a10, v, .int .i64 n, .pointer (some ⟨g, 0, none⟩), .pointer (some ⟨g, 0, none⟩), .pointer (some ⟨g, 0, none⟩), .slice (some ⟨gb, 0, none⟩) m c, undef, undef, undef, undef, undef, undef, undef], defers := [] } W.drew := by
    refine wpAnyIn_ready (rs := [6]) (by decide +kernel) (by decide) ?_
    refine AllReadyIn.cons (o := { dst := some 17, op := Op.move (Operand.tmp 4), type := 3, pos := "slots.go:87", after := #[], guard := none }) rfl (fun K hK => ?_) ?_
    · go_simp
      exact hK _ _ s10
    exact AllReadyIn.nil
  have s15 : wpAnyIn (Fence.wide.inRound l) nn Try.prog .any ops4 Q 7 #[true, true, true, true, true, false, true, false, false, false, false, false, false] { tmps := #[.pointer (some ⟨g, 0, none⟩), .pointer (some ⟨kS, 0, none⟩), .slice none 0 0, .pointer (some ⟨kO, 0, none⟩), .int .i64 n, a5, a6, a7, a8, a9, a10, v, .int .i64 n, .pointer (some ⟨g, 0, none⟩), .pointer (some ⟨g, 0, none⟩), .pointer (some ⟨g, 0, none⟩), undef, .int .i64 n, undef, undef, undef, undef, undef, undef], defers := [] } W.drew := by
    refine wpAnyIn_ready (rs := [5]) (by decide +kernel) (by decide) ?_
    refine AllReadyIn.cons (o := { dst := some 16, op := Op.load 22 (Operand.tmp 15), type := 22, pos := "slots.go:87", after := #[{ on := 4, ground := Ground.data }], guard := none }) rfl (fun K hK => ?_) ?_
    · go_simp
      exact hK _ _ s10
    exact AllReadyIn.nil
  have s16 : wpAnyIn (Fence.wide.inRound l) nn Try.prog .any ops4 Q 7 #[true, false, true, true, true, true, true, false, false, false, false, false, false] { tmps := #[.pointer (some ⟨g, 0, none⟩), .pointer (some ⟨kS, 0, none⟩), .slice none 0 0, .pointer (some ⟨kO, 0, none⟩), .int .i64 n, a5, a6, a7, a8, a9, a10, v, undef, .pointer (some ⟨g, 0, none⟩), .pointer (some ⟨g, 0, none⟩), .pointer (some ⟨g, 0, none⟩), .slice (some ⟨gb, 0, none⟩) m c, .int .i64 n, undef, undef, undef, undef, undef, undef], defers := [] } W.drew := by
    refine wpAnyIn_ready (rs := [1, 7]) (by decide +kernel) (by decide) ?_
    refine AllReadyIn.cons (o := { dst := some 12, op := Op.move (Operand.tmp 4), type := 3, pos := "slots.go:87", after := #[], guard := none }) rfl (fun K hK => ?_) ?_
    · go_simp
      exact hK _ _ s10
    refine AllReadyIn.cons (o := { dst := some 18, op := Op.indexAddr 22 (Operand.tmp 16) (Operand.tmp 17), type := 0, pos := "slots.go:87", after := #[{ on := 5, ground := Ground.data }, { on := 6, ground := Ground.data }], guard := none }) rfl (fun K hK => ?_) ?_
    · go_simp
      exact hK _ _ s11
    exact AllReadyIn.nil
  have s17 : wpAnyIn (Fence.wide.inRound l) nn Try.prog .any ops4 Q 7 #[false, true, true, true, true, true, true, false, false, false, false, false, false] { tmps := #[.pointer (some ⟨g, 0, none⟩), .pointer (some ⟨kS, 0, none⟩), .slice none 0 0, .pointer (some ⟨kO, 0, none⟩), .int .i64 n, a5, a6, a7, a8, a9, a10, undef, .int .i64 n, .pointer (some ⟨g, 0, none⟩), .pointer (some ⟨g, 0, none⟩), .pointer (some ⟨g, 0, none⟩), .slice (some ⟨gb, 0, none⟩) m c, .int .i64 n, undef, undef, undef, undef, undef, undef], defers := [] } W.drew := by
    refine wpAnyIn_ready (rs := [0, 7]) (by decide +kernel) (by decide) ?_
    refine AllReadyIn.cons (o := { dst := some 11, op := Op.load 61 (Operand.tmp 3), type := 61, pos := "slots.go:87", after := #[], guard := none }) rfl (fun K hK => ?_) ?_
    · go_simp
      exact hK _ _ s10
    refine AllReadyIn.cons (o := { dst := some 18, op := Op.indexAddr 22 (Operand.tmp 16) (Operand.tmp 17), type := 0, pos := "slots.go:87", after := #[{ on := 5, ground := Ground.data }, { on := 6, ground := Ground.data }], guard := none }) rfl (fun K hK => ?_) ?_
    · go_simp
      exact hK _ _ s12
    exact AllReadyIn.nil
  have s18 : wpAnyIn (Fence.wide.inRound l) nn Try.prog .any ops4 Q 7 #[false, false, true, true, true, true, true, true, false, false, false, false, false] { tmps := #[.pointer (some ⟨g, 0, none⟩), .pointer (some ⟨kS, 0, none⟩), .slice none 0 0, .pointer (some ⟨kO, 0, none⟩), .int .i64 n, a5, a6, a7, a8, a9, a10, undef, undef, .pointer (some ⟨g, 0, none⟩), .pointer (some ⟨g, 0, none⟩), .pointer (some ⟨g, 0, none⟩), .slice (some ⟨gb, 0, none⟩) m c, .int .i64 n, .pointer (some ⟨gb, n, none⟩), undef, undef, undef, undef, undef], defers := [] } W.drew := by
    refine wpAnyIn_ready (rs := [0, 1, 8]) (by decide +kernel) (by decide) ?_
    refine AllReadyIn.cons (o := { dst := some 11, op := Op.load 61 (Operand.tmp 3), type := 61, pos := "slots.go:87", after := #[], guard := none }) rfl (fun K hK => ?_) ?_
    · go_simp
      exact hK _ _ s11
    refine AllReadyIn.cons (o := { dst := some 12, op := Op.move (Operand.tmp 4), type := 3, pos := "slots.go:87", after := #[], guard := none }) rfl (fun K hK => ?_) ?_
    · go_simp
      exact hK _ _ s12
    refine AllReadyIn.cons (o := { dst := some 19, op := Op.load 3 (Operand.tmp 18), type := 3, pos := "slots.go:87", after := #[{ on := 7, ground := Ground.data }], guard := none }) rfl (fun K hK => ?_) ?_
    · go_simp
      exact hK _ _ s13
    exact AllReadyIn.nil
  have s19 : wpAnyIn (Fence.wide.inRound l) nn Try.prog .any ops4 Q 8 #[true, true, true, true, true, false, false, false, false, false, false, false, false] { tmps := #[.pointer (some ⟨g, 0, none⟩), .pointer (some ⟨kS, 0, none⟩), .slice none 0 0, .pointer (some ⟨kO, 0, none⟩), .int .i64 n, a5, a6, a7, a8, a9, a10, v, .int .i64 n, .pointer (some ⟨g, 0, none⟩), .pointer (some ⟨g, 0, none⟩), .pointer (some ⟨g, 0, none⟩), undef, undef, undef, undef, undef, undef, undef, undef], defers := [] } W.drew := by
    refine wpAnyIn_ready (rs := [5, 6]) (by decide +kernel) (by decide) ?_
    refine AllReadyIn.cons (o := { dst := some 16, op := Op.load 22 (Operand.tmp 15), type := 22, pos := "slots.go:87", after := #[{ on := 4, ground := Ground.data }], guard := none }) rfl (fun K hK => ?_) ?_
    · go_simp
      exact hK _ _ s14
    refine AllReadyIn.cons (o := { dst := some 17, op := Op.move (Operand.tmp 4), type := 3, pos := "slots.go:87", after := #[], guard := none }) rfl (fun K hK => ?_) ?_
    · go_simp
      exact hK _ _ s15
    exact AllReadyIn.nil
  have s20 : wpAnyIn (Fence.wide.inRound l) nn Try.prog .any ops4 Q 8 #[true, true, true, true, false, false, true, false, false, false, false, false, false] { tmps := #[.pointer (some ⟨g, 0, none⟩), .pointer (some ⟨kS, 0, none⟩), .slice none 0 0, .pointer (some ⟨kO, 0, none⟩), .int .i64 n, a5, a6, a7, a8, a9, a10, v, .int .i64 n, .pointer (some ⟨g, 0, none⟩), .pointer (some ⟨g, 0, none⟩), undef, undef, .int .i64 n, undef, undef, undef, undef, undef, undef], defers := [] } W.drew := by
    refine wpAnyIn_ready (rs := [4]) (by decide +kernel) (by decide) ?_
    refine AllReadyIn.cons (o := { dst := some 15, op := Op.fieldAddr 94 (Operand.tmp 14) 0, type := 0, pos := "slots.go:87", after := #[{ on := 3, ground := Ground.data }], guard := none }) rfl (fun K hK => ?_) ?_
    · go_simp
      exact hK _ _ s15
    exact AllReadyIn.nil
  have s21 : wpAnyIn (Fence.wide.inRound l) nn Try.prog .any ops4 Q 8 #[true, false, true, true, true, true, false, false, false, false, false, false, false] { tmps := #[.pointer (some ⟨g, 0, none⟩), .pointer (some ⟨kS, 0, none⟩), .slice none 0 0, .pointer (some ⟨kO, 0, none⟩), .int .i64 n, a5, a6, a7, a8, a9, a10, v, undef, .pointer (some ⟨g, 0, none⟩), .pointer (some ⟨g, 0, none⟩), .pointer (some ⟨g, 0, none⟩), .slice (some ⟨gb, 0, none⟩) m c, undef, undef, undef, undef, undef, undef, undef], defers := [] } W.drew := by
    refine wpAnyIn_ready (rs := [1, 6]) (by decide +kernel) (by decide) ?_
    refine AllReadyIn.cons (o := { dst := some 12, op := Op.move (Operand.tmp 4), type := 3, pos := "slots.go:87", after := #[], guard := none }) rfl (fun K hK => ?_) ?_
    · go_simp
      exact hK _ _ s14
    refine AllReadyIn.cons (o := { dst := some 17, op := Op.move (Operand.tmp 4), type := 3, pos := "slots.go:87", after := #[], guard := none }) rfl (fun K hK => ?_) ?_
    · go_simp
      exact hK _ _ s16
    exact AllReadyIn.nil
  have s22 : wpAnyIn (Fence.wide.inRound l) nn Try.prog .any ops4 Q 8 #[true, false, true, true, true, false, true, false, false, false, false, false, false] { tmps := #[.pointer (some ⟨g, 0, none⟩), .pointer (some ⟨kS, 0, none⟩), .slice none 0 0, .pointer (some ⟨kO, 0, none⟩), .int .i64 n, a5, a6, a7, a8, a9, a10, v, undef, .pointer (some ⟨g, 0, none⟩), .pointer (some ⟨g, 0, none⟩), .pointer (some ⟨g, 0, none⟩), undef, .int .i64 n, undef, undef, undef, undef, undef, undef], defers := [] } W.drew := by
    refine wpAnyIn_ready (rs := [1, 5]) (by decide +kernel) (by decide) ?_
    refine AllReadyIn.cons (o := { dst := some 12, op := Op.move (Operand.tmp 4), type := 3, pos := "slots.go:87", after := #[], guard := none }) rfl (fun K hK => ?_) ?_
    · go_simp
      exact hK _ _ s15
    refine AllReadyIn.cons (o := { dst := some 16, op := Op.load 22 (Operand.tmp 15), type := 22, pos := "slots.go:87", after := #[{ on := 4, ground := Ground.data }], guard := none }) rfl (fun K hK => ?_) ?_
    · go_simp
      exact hK _ _ s16
    exact AllReadyIn.nil
  have s23 : wpAnyIn (Fence.wide.inRound l) nn Try.prog .any ops4 Q 8 #[false, true, true, true, true, true, false, false, false, false, false, false, false] { tmps := #[.pointer (some ⟨g, 0, none⟩), .pointer (some ⟨kS, 0, none⟩), .slice none 0 0, .pointer (some ⟨kO, 0, none⟩), .int .i64 n, a5, a6, a7, a8, a9, a10, undef, .int .i64 n, .pointer (some ⟨g, 0, none⟩), .pointer (some ⟨g, 0, none⟩), .pointer (some ⟨g, 0, none⟩), .slice (some ⟨gb, 0, none⟩) m c, undef, undef, undef, undef, undef, undef, undef], defers := [] } W.drew := by
    refine wpAnyIn_ready (rs := [0, 6]) (by decide +kernel) (by decide) ?_
    refine AllReadyIn.cons (o := { dst := some 11, op := Op.load 61 (Operand.tmp 3), type := 61, pos := "slots.go:87", after := #[], guard := none }) rfl (fun K hK => ?_) ?_
    · go_simp
      exact hK _ _ s14
    refine AllReadyIn.cons (o := { dst := some 17, op := Op.move (Operand.tmp 4), type := 3, pos := "slots.go:87", after := #[], guard := none }) rfl (fun K hK => ?_) ?_
    · go_simp
      exact hK _ _ s17
    exact AllReadyIn.nil
  have s24 : wpAnyIn (Fence.wide.inRound l) nn Try.prog .any ops4 Q 8 #[false, true, true, true, true, false, true, false, false, false, false, false, false] { tmps := #[.pointer (some ⟨g, 0, none⟩), .pointer (some ⟨kS, 0, none⟩), .slice none 0 0, .pointer (some ⟨kO, 0, none⟩), .int .i64 n, a5, a6, a7, a8, a9, a10, undef, .int .i64 n, .pointer (some ⟨g, 0, none⟩), .pointer (some ⟨g, 0, none⟩), .pointer (some ⟨g, 0, none⟩), undef, .int .i64 n, undef, undef, undef, undef, undef, undef], defers := [] } W.drew := by
    refine wpAnyIn_ready (rs := [0, 5]) (by decide +kernel) (by decide) ?_
    refine AllReadyIn.cons (o := { dst := some 11, op := Op.load 61 (Operand.tmp 3), type := 61, pos := "slots.go:87", after := #[], guard := none }) rfl (fun K hK => ?_) ?_
    · go_simp
      exact hK _ _ s15
    refine AllReadyIn.cons (o := { dst := some 16, op := Op.load 22 (Operand.tmp 15), type := 22, pos := "slots.go:87", after := #[{ on := 4, ground := Ground.data }], guard := none }) rfl (fun K hK => ?_) ?_
    · go_simp
      exact hK _ _ s17
    exact AllReadyIn.nil
  have s25 : wpAnyIn (Fence.wide.inRound l) nn Try.prog .any ops4 Q 8 #[false, false, true, true, true, true, true, false, false, false, false, false, false] { tmps := #[.pointer (some ⟨g, 0, none⟩), .pointer (some ⟨kS, 0, none⟩), .slice none 0 0, .pointer (some ⟨kO, 0, none⟩), .int .i64 n, a5, a6, a7, a8, a9, a10, undef, undef, .pointer (some ⟨g, 0, none⟩), .pointer (some ⟨g, 0, none⟩), .pointer (some ⟨g, 0, none⟩), .slice (some ⟨gb, 0, none⟩) m c, .int .i64 n, undef, undef, undef, undef, undef, undef], defers := [] } W.drew := by
    refine wpAnyIn_ready (rs := [0, 1, 7]) (by decide +kernel) (by decide) ?_
    refine AllReadyIn.cons (o := { dst := some 11, op := Op.load 61 (Operand.tmp 3), type := 61, pos := "slots.go:87", after := #[], guard := none }) rfl (fun K hK => ?_) ?_
    · go_simp
      exact hK _ _ s16
    refine AllReadyIn.cons (o := { dst := some 12, op := Op.move (Operand.tmp 4), type := 3, pos := "slots.go:87", after := #[], guard := none }) rfl (fun K hK => ?_) ?_
    · go_simp
      exact hK _ _ s17
    refine AllReadyIn.cons (o := { dst := some 18, op := Op.indexAddr 22 (Operand.tmp 16) (Operand.tmp 17), type := 0, pos := "slots.go:87", after := #[{ on := 5, ground := Ground.data }, { on := 6, ground := Ground.data }], guard := none }) rfl (fun K hK => ?_) ?_
    · go_simp
      exact hK _ _ s18
    exact AllReadyIn.nil
  have s26 : wpAnyIn (Fence.wide.inRound l) nn Try.prog .any ops4 Q 9 #[true, true, true, true, false, false, false, false, false, false, false, false, false] { tmps := #[.pointer (some ⟨g, 0, none⟩), .pointer (some ⟨kS, 0, none⟩), .slice none 0 0, .pointer (some ⟨kO, 0, none⟩), .int .i64 n, a5, a6, a7, a8, a9, a10, v, .int .i64 n, .pointer (some ⟨g, 0, none⟩), .pointer (some ⟨g, 0, none⟩), undef, undef, undef, undef, undef, undef, undef, undef, undef], defers := [] } W.drew := by
    refine wpAnyIn_ready (rs := [4, 6]) (by decide +kernel) (by decide) ?_
    refine AllReadyIn.cons (o := { dst := some 15, op := Op.fieldAddr 94 (Operand.tmp 14) 0, type := 0, pos := "slots.go:87", after := #[{ on := 3, ground := Ground.data }], guard := none }) rfl (fun K hK => ?_) ?_
    · go_simp
      exact hK _ _ s19
    refine AllReadyIn.cons (o := { dst := some 17, op := Op.move (Operand.tmp 4), type := 3, pos := "slots.go:87", after := #[], guard := none }) rfl (fun K hK => ?_) ?_
    · go_simp
      exact hK _ _ s20
    exact AllReadyIn.nil
  have s27 : wpAnyIn (Fence.wide.inRound l) nn Try.prog .any ops4 Q 9 #[true, true, true, false, false, false, true, false, false, false, false, false, false] { tmps := #[.pointer (some ⟨g, 0, none⟩), .pointer (some ⟨kS, 0, none⟩), .slice none 0 0, .pointer (some ⟨kO, 0, none⟩), .int .i64 n, a5, a6, a7, a8, a9, a10, v, .int .i64 n, .pointer (some ⟨g, 0, none⟩), undef, undef, undef, .int .i64 n, undef, undef, undef, undef, undef, undef], defers := [] } W.drew := by
    refine wpAnyIn_ready (rs := [3]) (by decide +kernel) (by decide) ?_
    refine AllReadyIn.cons (o := { dst := some 14, op := Op.nilCheck (Operand.tmp 13), type := 0, pos := "slots.go:87", after := #[{ on := 2, ground := Ground.data }], guard := none }) rfl (fun K hK => ?_) ?_
    · go_simp
      exact hK _ _ s20
    exact AllReadyIn.nil
  have s28 : wpAnyIn (Fence.wide.inRound l) nn Try.prog .any ops4 Q 9 #[true, false, true, true, true, false, false, false, false, false, false, false, false] { tmps := #[.pointer (some ⟨g, 0, none⟩), .pointer (some ⟨kS, 0, none⟩), .slice none 0 0, .pointer (some ⟨kO, 0, none⟩), .int .i64 n, a5, a6, a7, a8, a9, a10, v, undef, .pointer (some ⟨g, 0, none⟩), .pointer (some ⟨g, 0, none⟩), .pointer (some ⟨g, 0, none⟩), undef, undef, undef, undef, undef, undef, undef, undef], defers := [] } W.drew := by
    refine wpAnyIn_ready (rs := [1, 5, 6]) (by decide +kernel) (by decide) ?_
    refine AllReadyIn.cons (o := { dst := some 12, op := Op.move (Operand.tmp 4), type := 3, pos := "slots.go:87", after := #[], guard := none }) rfl (fun K hK => ?_) ?_
    · go_simp
      exact hK _ _ s19
    refine AllReadyIn.cons (o := { dst := some 16, op := Op.load 22 (Operand.tmp 15), type := 22, pos := "slots.go:87", after := #[{ on := 4, ground := Ground.data }], guard := none }) rfl (fun K hK => ?_) ?_
    · go_simp
      exact hK _ _ s21
    refine AllReadyIn.cons (o := { dst := some 17, op := Op.move (Operand.tmp 4), type := 3, pos := "slots.go:87", after := #[], guard := none }) rfl (fun K hK => ?_) ?_
    · go_simp
      exact hK _ _ s22
    exact AllReadyIn.nil
  have s29 : wpAnyIn (Fence.wide.inRound l) nn Try.prog .any ops4 Q 9 #[true, false, true, true, false, false, true, false, false, false, false, false, false] { tmps := #[.pointer (some ⟨g, 0, none⟩), .pointer (some ⟨kS, 0, none⟩), .slice none 0 0, .pointer (some ⟨kO, 0, none⟩), .int .i64 n, a5, a6, a7, a8, a9, a10, v, undef, .pointer (some ⟨g, 0, none⟩), .pointer (some ⟨g, 0, none⟩), undef, undef, .int .i64 n, undef, undef, undef, undef, undef, undef], defers := [] } W.drew := by
    refine wpAnyIn_ready (rs := [1, 4]) (by decide +kernel) (by decide) ?_
    refine AllReadyIn.cons (o := { dst := some 12, op := Op.move (Operand.tmp 4), type := 3, pos := "slots.go:87", after := #[], guard := none }) rfl (fun K hK => ?_) ?_
    · go_simp
      exact hK _ _ s20
    refine AllReadyIn.cons (o := { dst := some 15, op := Op.fieldAddr 94 (Operand.tmp 14) 0, type := 0, pos := "slots.go:87", after := #[{ on := 3, ground := Ground.data }], guard := none }) rfl (fun K hK => ?_) ?_
    · go_simp
      exact hK _ _ s22
    exact AllReadyIn.nil
  have s30 : wpAnyIn (Fence.wide.inRound l) nn Try.prog .any ops4 Q 9 #[false, true, true, true, true, false, false, false, false, false, false, false, false] { tmps := #[.pointer (some ⟨g, 0, none⟩), .pointer (some ⟨kS, 0, none⟩), .slice none 0 0, .pointer (some ⟨kO, 0, none⟩), .int .i64 n, a5, a6, a7, a8, a9, a10, undef, .int .i64 n, .pointer (some ⟨g, 0, none⟩), .pointer (some ⟨g, 0, none⟩), .pointer (some ⟨g, 0, none⟩), undef, undef, undef, undef, undef, undef, undef, undef], defers := [] } W.drew := by
    refine wpAnyIn_ready (rs := [0, 5, 6]) (by decide +kernel) (by decide) ?_
    refine AllReadyIn.cons (o := { dst := some 11, op := Op.load 61 (Operand.tmp 3), type := 61, pos := "slots.go:87", after := #[], guard := none }) rfl (fun K hK => ?_) ?_
    · go_simp
      exact hK _ _ s19
    refine AllReadyIn.cons (o := { dst := some 16, op := Op.load 22 (Operand.tmp 15), type := 22, pos := "slots.go:87", after := #[{ on := 4, ground := Ground.data }], guard := none }) rfl (fun K hK => ?_) ?_
    · go_simp
      exact hK _ _ s23
    refine AllReadyIn.cons (o := { dst := some 17, op := Op.move (Operand.tmp 4), type := 3, pos := "slots.go:87", after := #[], guard := none }) rfl (fun K hK => ?_) ?_
    · go_simp
      exact hK _ _ s24
    exact AllReadyIn.nil
  have s31 : wpAnyIn (Fence.wide.inRound l) nn Try.prog .any ops4 Q 9 #[false, true, true, true, false, false, true, false, false, false, false, false, false] { tmps := #[.pointer (some ⟨g, 0, none⟩), .pointer (some ⟨kS, 0, none⟩), .slice none 0 0, .pointer (some ⟨kO, 0, none⟩), .int .i64 n, a5, a6, a7, a8, a9, a10, undef, .int .i64 n, .pointer (some ⟨g, 0, none⟩), .pointer (some ⟨g, 0, none⟩), undef, undef, .int .i64 n, undef, undef, undef, undef, undef, undef], defers := [] } W.drew := by
    refine wpAnyIn_ready (rs := [0, 4]) (by decide +kernel) (by decide) ?_
    refine AllReadyIn.cons (o := { dst := some 11, op := Op.load 61 (Operand.tmp 3), type := 61, pos := "slots.go:87", after := #[], guard := none }) rfl (fun K hK => ?_) ?_
    · go_simp
      exact hK _ _ s20
    refine AllReadyIn.cons (o := { dst := some 15, op := Op.fieldAddr 94 (Operand.tmp 14) 0, type := 0, pos := "slots.go:87", after := #[{ on := 3, ground := Ground.data }], guard := none }) rfl (fun K hK => ?_) ?_
    · go_simp
      exact hK _ _ s24
    exact AllReadyIn.nil
  have s32 : wpAnyIn (Fence.wide.inRound l) nn Try.prog .any ops4 Q 9 #[false, false, true, true, true, true, false, false, false, false, false, false, false] { tmps := #[.pointer (some ⟨g, 0, none⟩), .pointer (some ⟨kS, 0, none⟩), .slice none 0 0, .pointer (some ⟨kO, 0, none⟩), .int .i64 n, a5, a6, a7, a8, a9, a10, undef, undef, .pointer (some ⟨g, 0, none⟩), .pointer (some ⟨g, 0, none⟩), .pointer (some ⟨g, 0, none⟩), .slice (some ⟨gb, 0, none⟩) m c, undef, undef, undef, undef, undef, undef, undef], defers := [] } W.drew := by
    refine wpAnyIn_ready (rs := [0, 1, 6]) (by decide +kernel) (by decide) ?_
    refine AllReadyIn.cons (o := { dst := some 11, op := Op.load 61 (Operand.tmp 3), type := 61, pos := "slots.go:87", after := #[], guard := none }) rfl (fun K hK => ?_) ?_
    · go_simp
      exact hK _ _ s21
    refine AllReadyIn.cons (o := { dst := some 12, op := Op.move (Operand.tmp 4), type := 3, pos := "slots.go:87", after := #[], guard := none }) rfl (fun K hK => ?_) ?_
    · go_simp
      exact hK _ _ s23
    refine AllReadyIn.cons (o := { dst := some 17, op := Op.move (Operand.tmp 4), type := 3, pos := "slots.go:87", after := #[], guard := none }) rfl (fun K hK => ?_) ?_
    · go_simp
      exact hK _ _ s25
    exact AllReadyIn.nil
  have s33 : wpAnyIn (Fence.wide.inRound l) nn Try.prog .any ops4 Q 9 #[false, false, true, true, true, false, true, false, false, false, false, false, false] { tmps := #[.pointer (some ⟨g, 0, none⟩), .pointer (some ⟨kS, 0, none⟩), .slice none 0 0, .pointer (some ⟨kO, 0, none⟩), .int .i64 n, a5, a6, a7, a8, a9, a10, undef, undef, .pointer (some ⟨g, 0, none⟩), .pointer (some ⟨g, 0, none⟩), .pointer (some ⟨g, 0, none⟩), undef, .int .i64 n, undef, undef, undef, undef, undef, undef], defers := [] } W.drew := by
    refine wpAnyIn_ready (rs := [0, 1, 5]) (by decide +kernel) (by decide) ?_
    refine AllReadyIn.cons (o := { dst := some 11, op := Op.load 61 (Operand.tmp 3), type := 61, pos := "slots.go:87", after := #[], guard := none }) rfl (fun K hK => ?_) ?_
    · go_simp
      exact hK _ _ s22
    refine AllReadyIn.cons (o := { dst := some 12, op := Op.move (Operand.tmp 4), type := 3, pos := "slots.go:87", after := #[], guard := none }) rfl (fun K hK => ?_) ?_
    · go_simp
      exact hK _ _ s24
    refine AllReadyIn.cons (o := { dst := some 16, op := Op.load 22 (Operand.tmp 15), type := 22, pos := "slots.go:87", after := #[{ on := 4, ground := Ground.data }], guard := none }) rfl (fun K hK => ?_) ?_
    · go_simp
      exact hK _ _ s25
    exact AllReadyIn.nil
  have s34 : wpAnyIn (Fence.wide.inRound l) nn Try.prog .any ops4 Q 10 #[true, true, true, false, false, false, false, false, false, false, false, false, false] { tmps := #[.pointer (some ⟨g, 0, none⟩), .pointer (some ⟨kS, 0, none⟩), .slice none 0 0, .pointer (some ⟨kO, 0, none⟩), .int .i64 n, a5, a6, a7, a8, a9, a10, v, .int .i64 n, .pointer (some ⟨g, 0, none⟩), undef, undef, undef, undef, undef, undef, undef, undef, undef, undef], defers := [] } W.drew := by
    refine wpAnyIn_ready (rs := [3, 6]) (by decide +kernel) (by decide) ?_
    refine AllReadyIn.cons (o := { dst := some 14, op := Op.nilCheck (Operand.tmp 13), type := 0, pos := "slots.go:87", after := #[{ on := 2, ground := Ground.data }], guard := none }) rfl (fun K hK => ?_) ?_
    · go_simp
      exact hK _ _ s26
    refine AllReadyIn.cons (o := { dst := some 17, op := Op.move (Operand.tmp 4), type := 3, pos := "slots.go:87", after := #[], guard := none }) rfl (fun K hK => ?_) ?_
    · go_simp
      exact hK _ _ s27
    exact AllReadyIn.nil
  have s35 : wpAnyIn (Fence.wide.inRound l) nn Try.prog .any ops4 Q 10 #[true, true, false, false, false, false, true, false, false, false, false, false, false] { tmps := #[.pointer (some ⟨g, 0, none⟩), .pointer (some ⟨kS, 0, none⟩), .slice none 0 0, .pointer (some ⟨kO, 0, none⟩), .int .i64 n, a5, a6, a7, a8, a9, a10, v, .int .i64 n, undef, undef, undef, undef, .int .i64 n, undef, undef, undef, undef, undef, undef], defers := [] } W.drew := by
    refine wpAnyIn_ready (rs := [2]) (by decide +kernel) (by decide) ?_
    refine AllReadyIn.cons (o := { dst := some 13, op := Op.load 59 (Operand.tmp 1), type := 59, pos := "slots.go:87", after := #[], guard := none }) rfl (fun K hK => ?_) ?_
    · go_simp
      exact hK _ _ s27
    exact AllReadyIn.nil
  have s36 : wpAnyIn (Fence.wide.inRound l) nn Try.prog .any ops4 Q 10 #[true, false, true, true, false, false, false, false, false, false, false, false, false] { tmps := #[.pointer (some ⟨g, 0, none⟩), .pointer (some ⟨kS, 0, none⟩), .slice none 0 0, .pointer (some ⟨kO, 0, none⟩), .int .i64 n, a5, a6, a7, a8, a9, a10, v, undef, .pointer (some ⟨g, 0, none⟩), .pointer (some ⟨g, 0, none⟩), undef, undef, undef, undef, undef, undef, undef, undef, undef], defers := [] } W.drew := by
    refine wpAnyIn_ready (rs := [1, 4, 6]) (by decide +kernel) (by decide) ?_
    refine AllReadyIn.cons (o := { dst := some 12, op := Op.move (Operand.tmp 4), type := 3, pos := "slots.go:87", after := #[], guard := none }) rfl (fun K hK => ?_) ?_
    · go_simp
      exact hK _ _ s26
    refine AllReadyIn.cons (o := { dst := some 15, op := Op.fieldAddr 94 (Operand.tmp 14) 0, type := 0, pos := "slots.go:87", after := #[{ on := 3, ground := Ground.data }], guard := none }) rfl (fun K hK => ?_) ?_
    · go_simp
      exact hK _ _ s28
    refine AllReadyIn.cons (o := { dst := some 17, op := Op.move (Operand.tmp 4), type := 3, pos := "slots.go:87", after := #[], guard := none }) rfl (fun K hK => ?_) ?_
    · go_simp
      exact hK _ _ s29
    exact AllReadyIn.nil
  have s37 : wpAnyIn (Fence.wide.inRound l) nn Try.prog .any ops4 Q 10 #[true, false, true, false, false, false, true, false, false, false, false, false, false] { tmps := #[.pointer (some ⟨g, 0, none⟩), .pointer (some ⟨kS, 0, none⟩), .slice none 0 0, .pointer (some ⟨kO, 0, none⟩), .int .i64 n, a5, a6, a7, a8, a9, a10, v, undef, .pointer (some ⟨g, 0, none⟩), undef, undef, undef, .int .i64 n, undef, undef, undef, undef, undef, undef], defers := [] } W.drew := by
    refine wpAnyIn_ready (rs := [1, 3]) (by decide +kernel) (by decide) ?_
    refine AllReadyIn.cons (o := { dst := some 12, op := Op.move (Operand.tmp 4), type := 3, pos := "slots.go:87", after := #[], guard := none }) rfl (fun K hK => ?_) ?_
    · go_simp
      exact hK _ _ s27
    refine AllReadyIn.cons (o := { dst := some 14, op := Op.nilCheck (Operand.tmp 13), type := 0, pos := "slots.go:87", after := #[{ on := 2, ground := Ground.data }], guard := none }) rfl (fun K hK => ?_) ?_
    · go_simp
      exact hK _ _ s29
    exact AllReadyIn.nil
  have s38 : wpAnyIn (Fence.wide.inRound l) nn Try.prog .any ops4 Q 10 #[false, true, true, true, false, false, false, false, false, false, false, false, false] { tmps := #[.pointer (some ⟨g, 0, none⟩), .pointer (some ⟨kS, 0, none⟩), .slice none 0 0, .pointer (some ⟨kO, 0, none⟩), .int .i64 n, a5, a6, a7, a8, a9, a10, undef, .int .i64 n, .pointer (some ⟨g, 0, none⟩), .pointer (some ⟨g, 0, none⟩), undef, undef, undef, undef, undef, undef, undef, undef, undef], defers := [] } W.drew := by
    refine wpAnyIn_ready (rs := [0, 4, 6]) (by decide +kernel) (by decide) ?_
    refine AllReadyIn.cons (o := { dst := some 11, op := Op.load 61 (Operand.tmp 3), type := 61, pos := "slots.go:87", after := #[], guard := none }) rfl (fun K hK => ?_) ?_
    · go_simp
      exact hK _ _ s26
    refine AllReadyIn.cons (o := { dst := some 15, op := Op.fieldAddr 94 (Operand.tmp 14) 0, type := 0, pos := "slots.go:87", after := #[{ on := 3, ground := Ground.data }], guard := none }) rfl (fun K hK => ?_) ?_
    · go_simp
      exact hK _ _ s30
    refine AllReadyIn.cons (o := { dst := some 17, op := Op.move (Operand.tmp 4), type := 3, pos := "slots.go:87", after := #[], guard := none }) rfl (fun K hK => ?_) ?_
    · go_simp
      exact hK _ _ s31
    exact AllReadyIn.nil
  have s39 : wpAnyIn (Fence.wide.inRound l) nn Try.prog .any ops4 Q 10 #[false, true, true, false, false, false, true, false, false, false, false, false, false] { tmps := #[.pointer (some ⟨g, 0, none⟩), .pointer (some ⟨kS, 0, none⟩), .slice none 0 0, .pointer (some ⟨kO, 0, none⟩), .int .i64 n, a5, a6, a7, a8, a9, a10, undef, .int .i64 n, .pointer (some ⟨g, 0, none⟩), undef, undef, undef, .int .i64 n, undef, undef, undef, undef, undef, undef], defers := [] } W.drew := by
    refine wpAnyIn_ready (rs := [0, 3]) (by decide +kernel) (by decide) ?_
    refine AllReadyIn.cons (o := { dst := some 11, op := Op.load 61 (Operand.tmp 3), type := 61, pos := "slots.go:87", after := #[], guard := none }) rfl (fun K hK => ?_) ?_
    · go_simp
      exact hK _ _ s27
    refine AllReadyIn.cons (o := { dst := some 14, op := Op.nilCheck (Operand.tmp 13), type := 0, pos := "slots.go:87", after := #[{ on := 2, ground := Ground.data }], guard := none }) rfl (fun K hK => ?_) ?_
    · go_simp
      exact hK _ _ s31
    exact AllReadyIn.nil
  have s40 : wpAnyIn (Fence.wide.inRound l) nn Try.prog .any ops4 Q 10 #[false, false, true, true, true, false, false, false, false, false, false, false, false] { tmps := #[.pointer (some ⟨g, 0, none⟩), .pointer (some ⟨kS, 0, none⟩), .slice none 0 0, .pointer (some ⟨kO, 0, none⟩), .int .i64 n, a5, a6, a7, a8, a9, a10, undef, undef, .pointer (some ⟨g, 0, none⟩), .pointer (some ⟨g, 0, none⟩), .pointer (some ⟨g, 0, none⟩), undef, undef, undef, undef, undef, undef, undef, undef], defers := [] } W.drew := by
    refine wpAnyIn_ready (rs := [0, 1, 5, 6]) (by decide +kernel) (by decide) ?_
    refine AllReadyIn.cons (o := { dst := some 11, op := Op.load 61 (Operand.tmp 3), type := 61, pos := "slots.go:87", after := #[], guard := none }) rfl (fun K hK => ?_) ?_
    · go_simp
      exact hK _ _ s28
    refine AllReadyIn.cons (o := { dst := some 12, op := Op.move (Operand.tmp 4), type := 3, pos := "slots.go:87", after := #[], guard := none }) rfl (fun K hK => ?_) ?_
    · go_simp
      exact hK _ _ s30
    refine AllReadyIn.cons (o := { dst := some 16, op := Op.load 22 (Operand.tmp 15), type := 22, pos := "slots.go:87", after := #[{ on := 4, ground := Ground.data }], guard := none }) rfl (fun K hK => ?_) ?_
    · go_simp
      exact hK _ _ s32
    refine AllReadyIn.cons (o := { dst := some 17, op := Op.move (Operand.tmp 4), type := 3, pos := "slots.go:87", after := #[], guard := none }) rfl (fun K hK => ?_) ?_
    · go_simp
      exact hK _ _ s33
    exact AllReadyIn.nil
  have s41 : wpAnyIn (Fence.wide.inRound l) nn Try.prog .any ops4 Q 10 #[false, false, true, true, false, false, true, false, false, false, false, false, false] { tmps := #[.pointer (some ⟨g, 0, none⟩), .pointer (some ⟨kS, 0, none⟩), .slice none 0 0, .pointer (some ⟨kO, 0, none⟩), .int .i64 n, a5, a6, a7, a8, a9, a10, undef, undef, .pointer (some ⟨g, 0, none⟩), .pointer (some ⟨g, 0, none⟩), undef, undef, .int .i64 n, undef, undef, undef, undef, undef, undef], defers := [] } W.drew := by
    refine wpAnyIn_ready (rs := [0, 1, 4]) (by decide +kernel) (by decide) ?_
    refine AllReadyIn.cons (o := { dst := some 11, op := Op.load 61 (Operand.tmp 3), type := 61, pos := "slots.go:87", after := #[], guard := none }) rfl (fun K hK => ?_) ?_
    · go_simp
      exact hK _ _ s29
    refine AllReadyIn.cons (o := { dst := some 12, op := Op.move (Operand.tmp 4), type := 3, pos := "slots.go:87", after := #[], guard := none }) rfl (fun K hK => ?_) ?_
    · go_simp
      exact hK _ _ s31
    refine AllReadyIn.cons (o := { dst := some 15, op := Op.fieldAddr 94 (Operand.tmp 14) 0, type := 0, pos := "slots.go:87", after := #[{ on := 3, ground := Ground.data }], guard := none }) rfl (fun K hK => ?_) ?_
    · go_simp
      exact hK _ _ s33
    exact AllReadyIn.nil
  have s42 : wpAnyIn (Fence.wide.inRound l) nn Try.prog .any ops4 Q 11 #[true, true, false, false, false, false, false, false, false, false, false, false, false] { tmps := #[.pointer (some ⟨g, 0, none⟩), .pointer (some ⟨kS, 0, none⟩), .slice none 0 0, .pointer (some ⟨kO, 0, none⟩), .int .i64 n, a5, a6, a7, a8, a9, a10, v, .int .i64 n, undef, undef, undef, undef, undef, undef, undef, undef, undef, undef, undef], defers := [] } W.drew := by
    refine wpAnyIn_ready (rs := [2, 6]) (by decide +kernel) (by decide) ?_
    refine AllReadyIn.cons (o := { dst := some 13, op := Op.load 59 (Operand.tmp 1), type := 59, pos := "slots.go:87", after := #[], guard := none }) rfl (fun K hK => ?_) ?_
    · go_simp
      exact hK _ _ s34
    refine AllReadyIn.cons (o := { dst := some 17, op := Op.move (Operand.tmp 4), type := 3, pos := "slots.go:87", after := #[], guard := none }) rfl (fun K hK => ?_) ?_
    · go_simp
      exact hK _ _ s35
    exact AllReadyIn.nil
  have s43 : wpAnyIn (Fence.wide.inRound l) nn Try.prog .any ops4 Q 11 #[true, false, true, false, false, false, false, false, false, false, false, false, false] { tmps := #[.pointer (some ⟨g, 0, none⟩), .pointer (some ⟨kS, 0, none⟩), .slice none 0 0, .pointer (some ⟨kO, 0, none⟩), .int .i64 n, a5, a6, a7, a8, a9, a10, v, undef, .pointer (some ⟨g, 0, none⟩), undef, undef, undef, undef, undef, undef, undef, undef, undef, undef], defers := [] } W.drew := by
    refine wpAnyIn_ready (rs := [1, 3, 6]) (by decide +kernel) (by decide) ?_
    refine AllReadyIn.cons (o := { dst := some 12, op := Op.move (Operand.tmp 4), type := 3, pos := "slots.go:87", after := #[], guard := none }) rfl (fun K hK => ?_) ?_
    · go_simp
      exact hK _ _ s34
    refine AllReadyIn.cons (o := { dst := some 14, op := Op.nilCheck (Operand.tmp 13), type := 0, pos := "slots.go:87", after := #[{ on := 2, ground := Ground.data }], guard := none }) rfl (fun K hK => ?_) ?_
    · go_simp
      exact hK _ _ s36
    refine AllReadyIn.cons (o := { dst := some 17, op := Op.move (Operand.tmp 4), type := 3, pos := "slots.go:87", after := #[], guard := none }) rfl (fun K hK => ?_) ?_
    · go_simp
      exact hK _ _ s37
    exact AllReadyIn.nil
  have s44 : wpAnyIn (Fence.wide.inRound l) nn Try.prog .any ops4 Q 11 #[true, false, false, false, false, false, true, false, false, false, false, false, false] { tmps := #[.pointer (some ⟨g, 0, none⟩), .pointer (some ⟨kS, 0, none⟩), .slice none 0 0, .pointer (some ⟨kO, 0, none⟩), .int .i64 n, a5, a6, a7, a8, a9, a10, v, undef, undef, undef, undef, undef, .int .i64 n, undef, undef, undef, undef, undef, undef], defers := [] } W.drew := by
    refine wpAnyIn_ready (rs := [1, 2]) (by decide +kernel) (by decide) ?_
    refine AllReadyIn.cons (o := { dst := some 12, op := Op.move (Operand.tmp 4), type := 3, pos := "slots.go:87", after := #[], guard := none }) rfl (fun K hK => ?_) ?_
    · go_simp
      exact hK _ _ s35
    refine AllReadyIn.cons (o := { dst := some 13, op := Op.load 59 (Operand.tmp 1), type := 59, pos := "slots.go:87", after := #[], guard := none }) rfl (fun K hK => ?_) ?_
    · go_simp
      exact hK _ _ s37
    exact AllReadyIn.nil
  have s45 : wpAnyIn (Fence.wide.inRound l) nn Try.prog .any ops4 Q 11 #[false, true, true, false, false, false, false, false, false, false, false, false, false] { tmps := #[.pointer (some ⟨g, 0, none⟩), .pointer (some ⟨kS, 0, none⟩), .slice none 0 0, .pointer (some ⟨kO, 0, none⟩), .int .i64 n, a5, a6, a7, a8, a9, a10, undef, .int .i64 n, .pointer (some ⟨g, 0, none⟩), undef, undef, undef, undef, undef, undef, undef, undef, undef, undef], defers := [] } W.drew := by
    refine wpAnyIn_ready (rs := [0, 3, 6]) (by decide +kernel) (by decide) ?_
    refine AllReadyIn.cons (o := { dst := some 11, op := Op.load 61 (Operand.tmp 3), type := 61, pos := "slots.go:87", after := #[], guard := none }) rfl (fun K hK => ?_) ?_
    · go_simp
      exact hK _ _ s34
    refine AllReadyIn.cons (o := { dst := some 14, op := Op.nilCheck (Operand.tmp 13), type := 0, pos := "slots.go:87", after := #[{ on := 2, ground := Ground.data }], guard := none }) rfl (fun K hK => ?_) ?_
    · go_simp
      exact hK _ _ s38
    refine AllReadyIn.cons (o := { dst := some 17, op := Op.move (Operand.tmp 4), type := 3, pos := "slots.go:87", after := #[], guard := none }) rfl (fun K hK => ?_) ?_
    · go_simp
      exact hK _ _ s39
    exact AllReadyIn.nil
  have s46 : wpAnyIn (Fence.wide.inRound l) nn Try.prog .any ops4 Q 11 #[false, true, false, false, false, false, true, false, false, false, false, false, false] { tmps := #[.pointer (some ⟨g, 0, none⟩), .pointer (some ⟨kS, 0, none⟩), .slice none 0 0, .pointer (some ⟨kO, 0, none⟩), .int .i64 n, a5, a6, a7, a8, a9, a10, undef, .int .i64 n, undef, undef, undef, undef, .int .i64 n, undef, undef, undef, undef, undef, undef], defers := [] } W.drew := by
    refine wpAnyIn_ready (rs := [0, 2]) (by decide +kernel) (by decide) ?_
    refine AllReadyIn.cons (o := { dst := some 11, op := Op.load 61 (Operand.tmp 3), type := 61, pos := "slots.go:87", after := #[], guard := none }) rfl (fun K hK => ?_) ?_
    · go_simp
      exact hK _ _ s35
    refine AllReadyIn.cons (o := { dst := some 13, op := Op.load 59 (Operand.tmp 1), type := 59, pos := "slots.go:87", after := #[], guard := none }) rfl (fun K hK => ?_) ?_
    · go_simp
      exact hK _ _ s39
    exact AllReadyIn.nil
  have s47 : wpAnyIn (Fence.wide.inRound l) nn Try.prog .any ops4 Q 11 #[false, false, true, true, false, false, false, false, false, false, false, false, false] { tmps := #[.pointer (some ⟨g, 0, none⟩), .pointer (some ⟨kS, 0, none⟩), .slice none 0 0, .pointer (some ⟨kO, 0, none⟩), .int .i64 n, a5, a6, a7, a8, a9, a10, undef, undef, .pointer (some ⟨g, 0, none⟩), .pointer (some ⟨g, 0, none⟩), undef, undef, undef, undef, undef, undef, undef, undef, undef], defers := [] } W.drew := by
    refine wpAnyIn_ready (rs := [0, 1, 4, 6]) (by decide +kernel) (by decide) ?_
    refine AllReadyIn.cons (o := { dst := some 11, op := Op.load 61 (Operand.tmp 3), type := 61, pos := "slots.go:87", after := #[], guard := none }) rfl (fun K hK => ?_) ?_
    · go_simp
      exact hK _ _ s36
    refine AllReadyIn.cons (o := { dst := some 12, op := Op.move (Operand.tmp 4), type := 3, pos := "slots.go:87", after := #[], guard := none }) rfl (fun K hK => ?_) ?_
    · go_simp
      exact hK _ _ s38
    refine AllReadyIn.cons (o := { dst := some 15, op := Op.fieldAddr 94 (Operand.tmp 14) 0, type := 0, pos := "slots.go:87", after := #[{ on := 3, ground := Ground.data }], guard := none }) rfl (fun K hK => ?_) ?_
    · go_simp
      exact hK _ _ s40
    refine AllReadyIn.cons (o := { dst := some 17, op := Op.move (Operand.tmp 4), type := 3, pos := "slots.go:87", after := #[], guard := none }) rfl (fun K hK => ?_) ?_
    · go_simp
      exact hK _ _ s41
    exact AllReadyIn.nil
  have s48 : wpAnyIn (Fence.wide.inRound l) nn Try.prog .any ops4 Q 11 #[false, false, true, false, false, false, true, false, false, false, false, false, false] { tmps := #[.pointer (some ⟨g, 0, none⟩), .pointer (some ⟨kS, 0, none⟩), .slice none 0 0, .pointer (some ⟨kO, 0, none⟩), .int .i64 n, a5, a6, a7, a8, a9, a10, undef, undef, .pointer (some ⟨g, 0, none⟩), undef, undef, undef, .int .i64 n, undef, undef, undef, undef, undef, undef], defers := [] } W.drew := by
    refine wpAnyIn_ready (rs := [0, 1, 3]) (by decide +kernel) (by decide) ?_
    refine AllReadyIn.cons (o := { dst := some 11, op := Op.load 61 (Operand.tmp 3), type := 61, pos := "slots.go:87", after := #[], guard := none }) rfl (fun K hK => ?_) ?_
    · go_simp
      exact hK _ _ s37
    refine AllReadyIn.cons (o := { dst := some 12, op := Op.move (Operand.tmp 4), type := 3, pos := "slots.go:87", after := #[], guard := none }) rfl (fun K hK => ?_) ?_
    · go_simp
      exact hK _ _ s39
    refine AllReadyIn.cons (o := { dst := some 14, op := Op.nilCheck (Operand.tmp 13), type := 0, pos := "slots.go:87", after := #[{ on := 2, ground := Ground.data }], guard := none }) rfl (fun K hK => ?_) ?_
    · go_simp
      exact hK _ _ s41
    exact AllReadyIn.nil
  have s49 : wpAnyIn (Fence.wide.inRound l) nn Try.prog .any ops4 Q 12 #[true, false, false, false, false, false, false, false, false, false, false, false, false] { tmps := #[.pointer (some ⟨g, 0, none⟩), .pointer (some ⟨kS, 0, none⟩), .slice none 0 0, .pointer (some ⟨kO, 0, none⟩), .int .i64 n, a5, a6, a7, a8, a9, a10, v, undef, undef, undef, undef, undef, undef, undef, undef, undef, undef, undef, undef], defers := [] } W.drew := by
    refine wpAnyIn_ready (rs := [1, 2, 6]) (by decide +kernel) (by decide) ?_
    refine AllReadyIn.cons (o := { dst := some 12, op := Op.move (Operand.tmp 4), type := 3, pos := "slots.go:87", after := #[], guard := none }) rfl (fun K hK => ?_) ?_
    · go_simp
      exact hK _ _ s42
    refine AllReadyIn.cons (o := { dst := some 13, op := Op.load 59 (Operand.tmp 1), type := 59, pos := "slots.go:87", after := #[], guard := none }) rfl (fun K hK => ?_) ?_
    · go_simp
      exact hK _ _ s43
    refine AllReadyIn.cons (o := { dst := some 17, op := Op.move (Operand.tmp 4), type := 3, pos := "slots.go:87", after := #[], guard := none }) rfl (fun K hK => ?_) ?_
    · go_simp
      exact hK _ _ s44
    exact AllReadyIn.nil
  have s50 : wpAnyIn (Fence.wide.inRound l) nn Try.prog .any ops4 Q 12 #[false, true, false, false, false, false, false, false, false, false, false, false, false] { tmps := #[.pointer (some ⟨g, 0, none⟩), .pointer (some ⟨kS, 0, none⟩), .slice none 0 0, .pointer (some ⟨kO, 0, none⟩), .int .i64 n, a5, a6, a7, a8, a9, a10, undef, .int .i64 n, undef, undef, undef, undef, undef, undef, undef, undef, undef, undef, undef], defers := [] } W.drew := by
    refine wpAnyIn_ready (rs := [0, 2, 6]) (by decide +kernel) (by decide) ?_
    refine AllReadyIn.cons (o := { dst := some 11, op := Op.load 61 (Operand.tmp 3), type := 61, pos := "slots.go:87", after := #[], guard := none }) rfl (fun K hK => ?_) ?_
    · go_simp
      exact hK _ _ s42
    refine AllReadyIn.cons (o := { dst := some 13, op := Op.load 59 (Operand.tmp 1), type := 59, pos := "slots.go:87", after := #[], guard := none }) rfl (fun K hK => ?_) ?_
    · go_simp
      exact hK _ _ s45
    refine AllReadyIn.cons (o := { dst := some 17, op := Op.move (Operand.tmp 4), type := 3, pos := "slots.go:87", after := #[], guard := none }) rfl (fun K hK => ?_) ?_
    · go_simp
      exact hK _ _ s46
    exact AllReadyIn.nil
  have s51 : wpAnyIn (Fence.wide.inRound l) nn Try.prog .any ops4 Q 12 #[false, false, true, false, false, false, false, false, false, false, false, false, false] { tmps := #[.pointer (some ⟨g, 0, none⟩), .pointer (some ⟨kS, 0, none⟩), .slice none 0 0, .pointer (some ⟨kO, 0, none⟩), .int .i64 n, a5, a6, a7, a8, a9, a10, undef, undef, .pointer (some ⟨g, 0, none⟩), undef, undef, undef, undef, undef, undef, undef, undef, undef, undef], defers := [] } W.drew := by
    refine wpAnyIn_ready (rs := [0, 1, 3, 6]) (by decide +kernel) (by decide) ?_
    refine AllReadyIn.cons (o := { dst := some 11, op := Op.load 61 (Operand.tmp 3), type := 61, pos := "slots.go:87", after := #[], guard := none }) rfl (fun K hK => ?_) ?_
    · go_simp
      exact hK _ _ s43
    refine AllReadyIn.cons (o := { dst := some 12, op := Op.move (Operand.tmp 4), type := 3, pos := "slots.go:87", after := #[], guard := none }) rfl (fun K hK => ?_) ?_
    · go_simp
      exact hK _ _ s45
    refine AllReadyIn.cons (o := { dst := some 14, op := Op.nilCheck (Operand.tmp 13), type := 0, pos := "slots.go:87", after := #[{ on := 2, ground := Ground.data }], guard := none }) rfl (fun K hK => ?_) ?_
    · go_simp
      exact hK _ _ s47
    refine AllReadyIn.cons (o := { dst := some 17, op := Op.move (Operand.tmp 4), type := 3, pos := "slots.go:87", after := #[], guard := none }) rfl (fun K hK => ?_) ?_
    · go_simp
      exact hK _ _ s48
    exact AllReadyIn.nil
  have s52 : wpAnyIn (Fence.wide.inRound l) nn Try.prog .any ops4 Q 12 #[false, false, false, false, false, false, true, false, false, false, false, false, false] { tmps := #[.pointer (some ⟨g, 0, none⟩), .pointer (some ⟨kS, 0, none⟩), .slice none 0 0, .pointer (some ⟨kO, 0, none⟩), .int .i64 n, a5, a6, a7, a8, a9, a10, undef, undef, undef, undef, undef, undef, .int .i64 n, undef, undef, undef, undef, undef, undef], defers := [] } W.drew := by
    refine wpAnyIn_ready (rs := [0, 1, 2]) (by decide +kernel) (by decide) ?_
    refine AllReadyIn.cons (o := { dst := some 11, op := Op.load 61 (Operand.tmp 3), type := 61, pos := "slots.go:87", after := #[], guard := none }) rfl (fun K hK => ?_) ?_
    · go_simp
      exact hK _ _ s44
    refine AllReadyIn.cons (o := { dst := some 12, op := Op.move (Operand.tmp 4), type := 3, pos := "slots.go:87", after := #[], guard := none }) rfl (fun K hK => ?_) ?_
    · go_simp
      exact hK _ _ s46
    refine AllReadyIn.cons (o := { dst := some 13, op := Op.load 59 (Operand.tmp 1), type := 59, pos := "slots.go:87", after := #[], guard := none }) rfl (fun K hK => ?_) ?_
    · go_simp
      exact hK _ _ s48
    exact AllReadyIn.nil
  have s53 : wpAnyIn (Fence.wide.inRound l) nn Try.prog .any ops4 Q 13 #[false, false, false, false, false, false, false, false, false, false, false, false, false] { tmps := #[.pointer (some ⟨g, 0, none⟩), .pointer (some ⟨kS, 0, none⟩), .slice none 0 0, .pointer (some ⟨kO, 0, none⟩), .int .i64 n, a5, a6, a7, a8, a9, a10, undef, undef, undef, undef, undef, undef, undef, undef, undef, undef, undef, undef, undef], defers := [] } W.drew := by
    refine wpAnyIn_ready (rs := [0, 1, 2, 6]) (by decide +kernel) (by decide) ?_
    refine AllReadyIn.cons (o := { dst := some 11, op := Op.load 61 (Operand.tmp 3), type := 61, pos := "slots.go:87", after := #[], guard := none }) rfl (fun K hK => ?_) ?_
    · go_simp
      exact hK _ _ s49
    refine AllReadyIn.cons (o := { dst := some 12, op := Op.move (Operand.tmp 4), type := 3, pos := "slots.go:87", after := #[], guard := none }) rfl (fun K hK => ?_) ?_
    · go_simp
      exact hK _ _ s50
    refine AllReadyIn.cons (o := { dst := some 13, op := Op.load 59 (Operand.tmp 1), type := 59, pos := "slots.go:87", after := #[], guard := none }) rfl (fun K hK => ?_) ?_
    · go_simp
      exact hK _ _ s51
    refine AllReadyIn.cons (o := { dst := some 17, op := Op.move (Operand.tmp 4), type := 3, pos := "slots.go:87", after := #[], guard := none }) rfl (fun K hK => ?_) ?_
    · go_simp
      exact hK _ _ s52
    exact AllReadyIn.nil
  exact wpIn_region_any hmix s53
end Go.Proofs.Ytknmlikjmnhgkaa.P
