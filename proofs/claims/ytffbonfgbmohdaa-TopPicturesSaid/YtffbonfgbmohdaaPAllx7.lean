/- Functions of this seat in plain Lean and their contracts, written by a turned copy of the kit's print (turns: wip/pr/make.py of this session). No condition. Short rows. -/
import Derived.Test.YtffbonfgbmohdaaPAllx0
import Derived.Test.YtffbonfgbmohdaaPAllx6
namespace Go.Proofs.Ytffbonfgbmohdaa.P
open Go.RowKit Go.Proofs.YtffbonfgbmohdaaW.PrintWords Go.Proofs.YtffbonfgbmohdaaW.PrintLast Go.Proofs.YtffbonfgbmohdaaW.PrintMore
attribute [local go_sem] max2_int min2_int max_two min_two max_three min_three max_four min_four   -- for this text's walks alone
set_option linter.unusedVariables false
set_option linter.unusedSimpArgs false

/-! ### raster_covers: function 32 -/
theorem add0 (a : Addr) : a.add 0 = a := by
 obtain ⟨b, o, i⟩ := a
 cases i <;> simp [Addr.add]
theorem pts3 {w : World} {ad : Addr} {l : List S43} (h : Kd.C k43 w (some ad) l.length l) (hl : 3 ≤ l.length) : w.cell? ad = some (.int .i64 (rd_T43 l 0).f0) ∧ w.cell? ⟨ad.block, ad.off + 1, none⟩ = some (.int .i64 (rd_T43 l 0).f1) ∧ w.cell? ⟨ad.block, ad.off + 2, none⟩ = some (.int .i64 (rd_T43 l 1).f0) ∧ w.cell? ⟨ad.block, ad.off + 2 + 1, none⟩ = some (.int .i64 (rd_T43 l 1).f1) ∧ w.cell? ⟨ad.block, ad.off + 4, none⟩ = some (.int .i64 (rd_T43 l 2).f0) ∧ w.cell? ⟨ad.block, ad.off + 4 + 1, none⟩ = some (.int .i64 (rd_T43 l 2).f1) := by
 obtain ⟨x, e, a0, a1⟩ := at_T43 h 0 (by omega) (by omega)
 injection e with e
 subst e
 obtain ⟨x, e, b0, b1⟩ := at_T43 h 1 (by omega) (by omega)
 injection e with e
 subst e
 obtain ⟨x, e, c0, c1⟩ := at_T43 h 2 (by omega) (by omega)
 injection e with e
 subst e
 exact ⟨a0, a1, b0, b1, c0, c1⟩
theorem new2 {W : World} {o o' : Obj} : ((W.alloc o).alloc o').heap[W.heap.size + 1]? = some o' := by
 have h := blk_new (W.alloc o) o'
 rwa [show (W.alloc o).heap.size = W.heap.size + 1 from Array.size_push _] at h
theorem new3 {W : World} {a b o : Obj} : (((W.alloc a).alloc b).alloc o).heap[W.heap.size + 1 + 1]? = some o := by
 have h := blk_new ((W.alloc a).alloc b) o
 rwa [show ((W.alloc a).alloc b).heap.size = W.heap.size + 1 + 1 by rw [World.size_alloc, World.size_alloc]] at h
theorem cells2 {w : World} {g : Nat} {x y : Value} {t : TypeId} (h : w.heap[g]? = some (.cells #[x, y] t (0, 0))) : w.cell? ⟨g, 0, none⟩ = some x ∧ w.cell? ⟨g, 1, none⟩ = some y ∧ w.frozen? ⟨g, 0, none⟩ = false ∧ w.frozen? ⟨g, 1, none⟩ = false :=
 ⟨(blk_cell h 0).trans rfl, (blk_cell h 1).trans rfl, blk_frozen h 0, blk_frozen h 1⟩
theorem far1 {W : World} {g r j : Nat} {o : Obj} (h : W.heap[r]? = some o) (hne : r ≠ g) (x : Value) : (W.setCell ⟨g, j, none⟩ x).heap[r]? = some o := (Below.heap_setCell W ⟨g, j, none⟩ x r hne).trans h
theorem far2 {W : World} {g r : Nat} {o : Obj} (h : W.heap[r]? = some o) (hne : r ≠ g) (x y : Value) : ((W.setCell ⟨g, 0, none⟩ x).setCell ⟨g, 1, none⟩ y).heap[r]? = some o := far1 (far1 h hne x) hne y
theorem put2 {w : World} {g : Nat} {a b : Value} {t : TypeId} (h : w.heap[g]? = some (.cells #[a, b] t (0, 0))) (x y : Value) : ((w.setCell ⟨g, 0, none⟩ x).setCell ⟨g, 1, none⟩ y).heap[g]? = some (.cells #[x, y] t (0, 0)) :=
 blk_put (cs := #[x, b]) (blk_put (cs := #[a, b]) h 0 x rfl) 1 y rfl
theorem below2 {B : Nat} {w W : World} (h : Below B w W) {g : Nat} (hg : B ≤ g) (x y : Value) : Below B w ((W.setCell ⟨g, 0, none⟩ x).setCell ⟨g, 1, none⟩ y) := (h.setCell (p := ⟨g, 0, none⟩) hg x).setCell (p := ⟨g, 1, none⟩) hg y
theorem idx86_0 (v0 v1 v2 v3 v4 v5 v6 v7 v8 v9 v10 v11 : Value) (w : World) : Sem.run Try.prog (Instr.index 86 (Value.agg #[v0, v1, v2, v3, v4, v5, v6, v7, v8, v9, v10, v11]) (.int .i64 (0))) w = .ok (.agg #[v0, v1, v2, v3]) w := by kernel_rfl
theorem idx86_0c (v0 v1 v2 v3 v4 v5 v6 v7 v8 v9 v10 v11 : Value) (w : World) : Sem.run Try.prog (Instr.index 86 (Value.agg #[v0, v1, v2, v3, v4, v5, v6, v7, v8, v9, v10, v11]) (.int .i64 (((0 : Nat) : Int)))) w = .ok (.agg #[v0, v1, v2, v3]) w := by kernel_rfl
theorem idx86_1 (v0 v1 v2 v3 v4 v5 v6 v7 v8 v9 v10 v11 : Value) (w : World) : Sem.run Try.prog (Instr.index 86 (Value.agg #[v0, v1, v2, v3, v4, v5, v6, v7, v8, v9, v10, v11]) (.int .i64 (1))) w = .ok (.agg #[v4, v5, v6, v7]) w := by kernel_rfl
theorem idx86_1c (v0 v1 v2 v3 v4 v5 v6 v7 v8 v9 v10 v11 : Value) (w : World) : Sem.run Try.prog (Instr.index 86 (Value.agg #[v0, v1, v2, v3, v4, v5, v6, v7, v8, v9, v10, v11]) (.int .i64 (((1 : Nat) : Int)))) w = .ok (.agg #[v4, v5, v6, v7]) w := by kernel_rfl
theorem idx86_2 (v0 v1 v2 v3 v4 v5 v6 v7 v8 v9 v10 v11 : Value) (w : World) : Sem.run Try.prog (Instr.index 86 (Value.agg #[v0, v1, v2, v3, v4, v5, v6, v7, v8, v9, v10, v11]) (.int .i64 (2))) w = .ok (.agg #[v8, v9, v10, v11]) w := by kernel_rfl
theorem idx86_2c (v0 v1 v2 v3 v4 v5 v6 v7 v8 v9 v10 v11 : Value) (w : World) : Sem.run Try.prog (Instr.index 86 (Value.agg #[v0, v1, v2, v3, v4, v5, v6, v7, v8, v9, v10, v11]) (.int .i64 (((2 : Nat) : Int)))) w = .ok (.agg #[v8, v9, v10, v11]) w := by kernel_rfl
attribute [local go_sem] idx86_0 idx86_1 idx86_2 idx86_0c idx86_1c idx86_2c
theorem cells4 {w : World} {g : Nat} {x y z u : Value} {t : TypeId} (h : w.heap[g]? = some (.cells #[x, y, z, u] t (0, 0))) : w.cell? ⟨g, 0, none⟩ = some x ∧ w.cell? ⟨g, 1, none⟩ = some y ∧ w.cell? ⟨g, 2, none⟩ = some z ∧ w.cell? ⟨g, 3, none⟩ = some u :=
 ⟨(blk_cell h 0).trans rfl, (blk_cell h 1).trans rfl, (blk_cell h 2).trans rfl, (blk_cell h 3).trans rfl⟩
def sdI (a b c : S43) : Int := wrap64 (wrap64 (wrap64 (b.f0 - a.f0) * wrap64 (c.f1 - a.f1)) - wrap64 (wrap64 (b.f1 - a.f1) * wrap64 (c.f0 - a.f0)))
def owB (a b : S43) : Bool := if b.f1 < a.f1 then true else if b.f1 = a.f1 then decide (b.f0 > a.f0) else false
/-- an edge leaves the pixel out -/
def outB (a b p : S43) : Bool := decide (sdI a b p < 0) || (decide (sdI a b p = 0) && !(owB a b))
def midP (x y : Int) : S43 := ⟨wrap64 (wrap64 (x * 65536) + 32768), wrap64 (wrap64 (y * 65536) + 32768)⟩
def covB (a b c : S43) (x y : Int) : Bool := if sdI a b c = 0 then false else if sdI a b c < 0 then !(outB a c (midP x y)) && !(outB c b (midP x y)) && !(outB b a (midP x y)) else !(outB a b (midP x y)) && !(outB b c (midP x y)) && !(outB c a (midP x y))
theorem side42 (w : World) (a b c : S43) : Calls Try.prog 42 #[.agg #[.int .i64 a.f0, .int .i64 a.f1], .agg #[.int .i64 b.f0, .int .i64 b.f1], .agg #[.int .i64 c.f0, .int .i64 c.f1]] w fun e w' => e = .returned (.int .i64 (sdI a b c)) ∧ Below w.heap.size w w' :=
 raster_side.calls a.f0 a.f1 b.f0 b.f1 c.f0 c.f1 (sdI a b c) w rfl
theorem owns43 (w : World) (a b : S43) : Calls Try.prog 43 #[.agg #[.int .i64 a.f0, .int .i64 a.f1], .agg #[.int .i64 b.f0, .int .i64 b.f1]] w fun e w' => e = .returned (.bool (owB a b)) ∧ Below w.heap.size w w' :=
 raster_owns.calls a.f0 a.f1 b.f0 b.f1 (owB a b) w (by unfold raster_owns.f owB; split <;> (try rfl); split <;> rfl)
set_option maxHeartbeats 4000000 in
set_option maxRecDepth 100000 in
theorem T_covers (w : World) (A : Option Addr) (c : Nat) (l : List S43) (x y : Int) (hC : Kd.C k43 w A l.length l) (hl : l.length = 3) :
  Calls Try.prog 32 #[.slice A 3 c, .int .i64 x, .int .i64 y] w fun e w' => e = .returned (.bool (covB (rd_T43 l 0) (rd_T43 l 1) (rd_T43 l 2) x y)) ∧ Below w.heap.size w w' := by
 obtain ⟨ad, e, _, _⟩ := at_T43 hC 0 (by omega) (by omega)
 subst e
 obtain ⟨a0, a1, b0, b1, c0, c1⟩ := pts3 hC (by omega)
 have HKp := Aside0.mk (show ∀ W, Below w.heap.size w W → W.cell? ad = some (.int .i64 (rd_T43 l 0).f0) ∧ W.cell? ⟨ad.block, ad.off + 1, none⟩ = some (.int .i64 (rd_T43 l 0).f1) ∧ W.cell? ⟨ad.block, ad.off + 2, none⟩ = some (.int .i64 (rd_T43 l 1).f0) ∧ W.cell? ⟨ad.block, ad.off + 2 + 1, none⟩ = some (.int .i64 (rd_T43 l 1).f1) ∧ W.cell? ⟨ad.block, ad.off + 4, none⟩ = some (.int .i64 (rd_T43 l 2).f0) ∧ W.cell? ⟨ad.block, ad.off + 4 + 1, none⟩ = some (.int .i64 (rd_T43 l 2).f1) from fun W h =>
  have hl := World.block_lt_of_cell? w _ a0
  ⟨(h.cell (p := ad) hl).trans a0, (h.cell (p := ⟨ad.block, ad.off + 1, none⟩) hl).trans a1, (h.cell (p := ⟨ad.block, ad.off + 2, none⟩) hl).trans b0, (h.cell (p := ⟨ad.block, ad.off + 2 + 1, none⟩) hl).trans b1, (h.cell (p := ⟨ad.block, ad.off + 4, none⟩) hl).trans c0, (h.cell (p := ⟨ad.block, ad.off + 4 + 1, none⟩) hl).trans c1⟩)
 generalize rd_T43 l 0 = pa at a0 a1 HKp ⊢
 generalize rd_T43 l 1 = pb at b0 b1 HKp ⊢
 generalize rd_T43 l 2 = pc at c0 c1 HKp ⊢
 clear hC hl
 go_enter Try.func32, Try.ntmps32
 go_upto_region 1 with (fail)
 go_cut [7, 8, 9] (fun v7 v8 v9 wc => ∃ ga gb gc, v7 = .pointer (some ⟨ga, 0, none⟩) ∧ v8 = .pointer (some ⟨gb, 0, none⟩) ∧ v9 = .pointer (some ⟨gc, 0, none⟩) ∧ Aside0 (wc.heap[ga]? = some (.cells #[.int .i64 pa.f0, .int .i64 pa.f1] 43 (0, 0)) ∧ wc.heap[gb]? = some (.cells #[.int .i64 pb.f0, .int .i64 pb.f1] 43 (0, 0)) ∧ wc.heap[gc]? = some (.cells #[.int .i64 pc.f0, .int .i64 pc.f1] 43 (0, 0)) ∧ Below w.heap.size w wc ∧ w.heap.size ≤ ga ∧ w.heap.size ≤ gb ∧ w.heap.size ≤ gc ∧ ga ≠ gb ∧ gb ≠ gc ∧ ga ≠ gc))
 case first =>
  go_region_held3 (fun W => W.cell? ad = some (.int .i64 pa.f0) ∧ W.cell? ⟨ad.block, ad.off + 1, none⟩ = some (.int .i64 pa.f1) ∧ W.cell? ⟨ad.block, ad.off + 2, none⟩ = some (.int .i64 pb.f0) ∧ W.cell? ⟨ad.block, ad.off + 2 + 1, none⟩ = some (.int .i64 pb.f1) ∧ W.cell? ⟨ad.block, ad.off + 4, none⟩ = some (.int .i64 pc.f0) ∧ W.cell? ⟨ad.block, ad.off + 4 + 1, none⟩ = some (.int .i64 pc.f1))
   (exact HKp.out _ (by with_reducible repeat (first | exact Below.refl _ _ | apply below_alloc | apply below_drew1 | (refine Below.setCell ?_ (by first | exact Nat.le_refl _ | (simp only [World.size_alloc]; omega)) _))))
   (fail)
  all_goals
   go_wp2
   go_meet
   case rel =>
    refine ⟨_, _, _, rfl, rfl, rfl, ⟨?_, ?_, ?_, ?_, ?_, ?_, ?_, ?_, ?_, ?_⟩⟩
    ·
     with_reducible repeat (first | exact new3 | exact new2 | exact blk_new _ _ | apply blk_drew | apply blk_alloc)
    ·
     with_reducible repeat (first | exact new3 | exact new2 | exact blk_new _ _ | apply blk_drew | apply blk_alloc)
    ·
     with_reducible repeat (first | exact new3 | exact new2 | exact blk_new _ _ | apply blk_drew | apply blk_alloc)
    ·
     with_reducible repeat (first | exact Below.refl _ _ | apply below_alloc | apply below_drew1)
    all_goals omega
 case rest =>
  obtain ⟨ga, gb, gc, rfl, rfl, rfl, HC⟩ := hcut
  obtain ⟨h1, h2, h3, h4, h5, h6, h7, n1, n2, n3⟩ := HC.out
  have HB := Aside0.mk h4
  have HA := Aside0.mk h1
  have HG := Aside0.mk (And.intro h5 (And.intro h6 h7))
  have HN := Aside0.mk (And.intro n1 (And.intro n2 n3))
  obtain ⟨x0, x1, _, _⟩ := cells2 h1
  obtain ⟨y0, y1, y2, y3⟩ := cells2 h2
  obtain ⟨z0, z1, z2, z3⟩ := cells2 h3
  clear a0 a1 b0 b1 c0 c1 HKp h1 h4 h5 h6 h7
  have HBC := Aside0.mk (And.intro h2 h3)
  clear h2 h3 HC
  go_wp2_with (fail)
  refine (side42 wc pa pb pc).mono ?_
  rintro e w1 ⟨rfl, hb⟩
  have HA := Aside0.mk (blk_below HA.out hb)
  have HBC := Aside0.mk (And.intro (blk_below HBC.out.1 hb) (blk_below HBC.out.2 hb))
  have HB := Aside0.mk (below_step HB.out hb)
  clear hb x0 x1 y0 y1 y2 y3 z0 z1 z2 z3
  obtain ⟨x0, x1, _, _⟩ := cells2 HA.out
  obtain ⟨y0, y1, y2, y3⟩ := cells2 HBC.out.1
  obtain ⟨z0, z1, z2, z3⟩ := cells2 HBC.out.2
  obtain ⟨n, hn⟩ : ∃ n, sdI pa pb pc = n := ⟨_, rfl⟩
  have HS := Aside0.mk hn
  rw [hn]
  clear hn
  by_cases h0 : n = 0
  ·
   have d0 : (n == 0) = true := by simp [h0]
   go_wp2_with (fail)
   go_ret
   refine ⟨?_, HB.out⟩
   show Ending.returned (Value.bool false) = _
   unfold covB
   rw [HS.out, if_pos h0]
  ·
   have d0 : (n == 0) = false := by simpa using h0
   go_upto_if 29 with (fail)
   go_cut [10] (fun v10 wc => ∃ B C : S43, Aside0 (covB pa pb pc x y = (!(outB pa B (midP x y)) && !(outB B C (midP x y)) && !(outB C pa (midP x y))) ∧ wc.heap[ga]? = some (.cells #[.int .i64 pa.f0, .int .i64 pa.f1] 43 (0, 0)) ∧ wc.heap[gb]? = some (.cells #[.int .i64 B.f0, .int .i64 B.f1] 43 (0, 0)) ∧ wc.heap[gc]? = some (.cells #[.int .i64 C.f0, .int .i64 C.f1] 43 (0, 0)) ∧ Below w.heap.size w wc))
   case first =>
    by_cases h1 : n < 0
    ·
     have d1 : decide (n < 0) = true := decide_eq_true h1
     have hne := HN.out.2.1
     have hne' := Ne.symm hne
     have HZ := Aside0.mk (show (((((w1.setCell ⟨gb, 0, none⟩ (.int .i64 pc.f0)).setCell ⟨gb, 1, none⟩ (.int .i64 pc.f1)).setCell ⟨gc, 0, none⟩ (.int .i64 pb.f0)).setCell ⟨gc, 1, none⟩ (.int .i64 pb.f1)).heap[ga]? = some (.cells #[.int .i64 pa.f0, .int .i64 pa.f1] 43 (0, 0))) ∧
      (((((w1.setCell ⟨gb, 0, none⟩ (.int .i64 pc.f0)).setCell ⟨gb, 1, none⟩ (.int .i64 pc.f1)).setCell ⟨gc, 0, none⟩ (.int .i64 pb.f0)).setCell ⟨gc, 1, none⟩ (.int .i64 pb.f1)).heap[gb]? = some (.cells #[.int .i64 pc.f0, .int .i64 pc.f1] 43 (0, 0))) ∧
      (((((w1.setCell ⟨gb, 0, none⟩ (.int .i64 pc.f0)).setCell ⟨gb, 1, none⟩ (.int .i64 pc.f1)).setCell ⟨gc, 0, none⟩ (.int .i64 pb.f0)).setCell ⟨gc, 1, none⟩ (.int .i64 pb.f1)).heap[gc]? = some (.cells #[.int .i64 pb.f0, .int .i64 pb.f1] 43 (0, 0))) ∧
      Below w.heap.size w ((((w1.setCell ⟨gb, 0, none⟩ (.int .i64 pc.f0)).setCell ⟨gb, 1, none⟩ (.int .i64 pc.f1)).setCell ⟨gc, 0, none⟩ (.int .i64 pb.f0)).setCell ⟨gc, 1, none⟩ (.int .i64 pb.f1)) from
      ⟨far2 (far2 HA.out HN.out.1 _ _) HN.out.2.2 _ _, far2 (put2 HBC.out.1 _ _) hne _ _, put2 (far2 HBC.out.2 hne' _ _) _ _, below2 (below2 HB.out HG.out.2.1 _ _) HG.out.2.2 _ _⟩)
     go_wp2
     go_meet
     case rel => exact ⟨pc, pb, ⟨by unfold covB; rw [HS.out, if_neg h0, if_pos h1], HZ.out⟩⟩
    ·
     have d1 : decide (n < 0) = false := decide_eq_false h1
     go_wp2
     go_meet
     case rel => exact ⟨pb, pc, ⟨by unfold covB; rw [HS.out, if_neg h0, if_neg (by omega)], HA.out, HBC.out.1, HBC.out.2, HB.out⟩⟩
   case rest =>
    obtain ⟨B, C, HC⟩ := hcut
    clear x0 x1 y0 y1 y2 y3 z0 z1 z2 z3 HA HBC HB HN HG d0
    obtain ⟨x0, x1, _, _⟩ := cells2 HC.out.2.1
    obtain ⟨y0, y1, _, _⟩ := cells2 HC.out.2.2.1
    obtain ⟨z0, z1, _, _⟩ := cells2 HC.out.2.2.2.1
    go_upto_region 8 with (fail)
    have b1 := below_alloc (Below.refl wc.heap.size wc) (.cells #[.int .i64 (midP x y).f0, .int .i64 (midP x y).f1] 43)
    have HP := Aside0.mk (blk_new wc (.cells #[.int .i64 (midP x y).f0, .int .i64 (midP x y).f1] 43))
    have HX := Aside0.mk (And.intro (blk_below HC.out.2.1 b1) (And.intro (blk_below HC.out.2.2.1 b1) (And.intro (blk_below HC.out.2.2.2.1 b1) (below_step HC.out.2.2.2.2 b1))))
    have HV := Aside0.mk HC.out.1
    change Code.wp _ _ _ _ (wc.alloc (.cells #[.int .i64 (midP x y).f0, .int .i64 (midP x y).f1] 43))
    generalize wc.heap.size = g11 at HP ⊢
    generalize wc.alloc (.cells #[.int .i64 (midP x y).f0, .int .i64 (midP x y).f1] 43) = w2 at HP HX ⊢
    clear b1 HC x0 x1 y0 y1 z0 z1
    obtain ⟨x0, x1, _, _⟩ := cells2 HX.out.1
    obtain ⟨y0, y1, _, _⟩ := cells2 HX.out.2.1
    obtain ⟨z0, z1, _, _⟩ := cells2 HX.out.2.2.1
    generalize midP x y = p at HP HV
    go_wp2_with (fail)
    clear x0 x1 y0 y1 z0 z1
    have HB := Aside0.mk HX.out.2.2.2
    have HP := Aside0.mk (And.intro HP.out (Below.refl w2.heap.size w2))
    clear HX
    go_loopg [51] 3 (fun kq v51 w' => ∃ k : Nat, v51 = .int .i64 (k : Int) ∧ Aside0 (kq = 3 - k ∧ k ≤ 3 ∧ (1 ≤ k → outB pa B p = false) ∧ (2 ≤ k → outB B C p = false) ∧ (3 ≤ k → outB C pa p = false)) ∧ Aside0 (w'.heap[g11]? = some (.cells #[.int .i64 p.f0, .int .i64 p.f1] 43 (0, 0)) ∧ Below w.heap.size w w'))
    case atStart => exact ⟨0, rfl, ⟨by omega, by omega, fun h => by omega, fun h => by omega, fun h => by omega⟩, ⟨HP.out.1, HB.out⟩⟩
    case round =>
     clear HP HB
     obtain ⟨k, rfl, HK, HW⟩ := hrel
     have hk : k = 0 ∨ k = 1 ∨ k = 2 ∨ k = 3 := by have := HK.out.2.1; omega
     rcases hk with rfl | rfl | rfl | rfl
     ·
      go_upto_region 11 with (fail)
      have b1 := below_alloc (Below.refl wr.heap.size wr) (.cells #[.int .i64 pa.f0, .int .i64 pa.f1, .int .i64 B.f0, .int .i64 B.f1] 85)
      have HE := Aside0.mk (blk_new wr (.cells #[.int .i64 pa.f0, .int .i64 pa.f1, .int .i64 B.f0, .int .i64 B.f1] 85))
      have HW := Aside0.mk (And.intro (blk_below HW.out.1 b1) (below_step HW.out.2 b1))
      generalize wr.heap.size = g13 at HE ⊢
      generalize wr.alloc (.cells #[.int .i64 pa.f0, .int .i64 pa.f1, .int .i64 B.f0, .int .i64 B.f1] 85) = w3 at HE HW ⊢
      clear b1
      obtain ⟨x0, x1, x2, x3⟩ := cells4 HE.out
      obtain ⟨y0, y1, _, _⟩ := cells2 HW.out.1
      go_wp2_with (fail)
      refine (side42 w3 pa B p).mono ?_
      rintro e w4 ⟨rfl, hb⟩
      have HE := Aside0.mk (blk_below HE.out hb)
      have HW := Aside0.mk (And.intro (blk_below HW.out.1 hb) (below_step HW.out.2 hb))
      clear hb x0 x1 x2 x3 y0 y1
      obtain ⟨x0, x1, x2, x3⟩ := cells4 HE.out
      obtain ⟨n, hn⟩ : ∃ n, sdI pa B p = n := ⟨_, rfl⟩
      have HS := Aside0.mk hn
      rw [hn]
      clear hn
      by_cases h0 : n < 0
      ·
       have d0 : decide (n < 0) = true := decide_eq_true h0
       go_wp2_with (fail)
       go_ret
       refine ⟨?_, HW.out.2⟩
       show Ending.returned (Value.bool false) = _
       rw [HV.out, show outB pa B p = true from by unfold outB; rw [HS.out]; simp [h0]]
       simp
      ·
       have d0 : decide (n < 0) = false := decide_eq_false h0
       by_cases h1 : n = 0
       ·
        have d1 : (n == 0) = true := by simp [h1]
        go_wp2_with (fail)
        refine (owns43 w4 pa B).mono ?_
        rintro e w5 ⟨rfl, hb⟩
        have HW := Aside0.mk (And.intro (blk_below HW.out.1 hb) (below_step HW.out.2 hb))
        clear hb x0 x1 x2 x3
        cases ho : owB pa B
        ·
         have HO := Aside0.mk ho
         clear ho
         go_wp2_with (fail)
         go_ret
         refine ⟨?_, HW.out.2⟩
         show Ending.returned (Value.bool false) = _
         rw [HV.out, show outB pa B p = true from by unfold outB; rw [HS.out, HO.out]; simp [h1]]
         simp
        ·
         have HO := Aside0.mk ho
         clear ho
         go_wp2_with (fail)
         go_roundg 2
         case measure => have := HK.out.1; omega
         case rel => exact ⟨1, rfl, ⟨by omega, by omega, fun _ => by unfold outB; rw [HS.out, HO.out]; simp [h0], fun h => by omega, fun h => by omega⟩, HW⟩
       ·
        have d1 : (n == 0) = false := by simpa using h1
        go_wp2_with (fail)
        go_roundg 2
        case measure => have := HK.out.1; omega
        case rel => exact ⟨1, rfl, ⟨by omega, by omega, fun _ => by unfold outB; rw [HS.out]; simp [h0, h1], fun h => by omega, fun h => by omega⟩, HW⟩
     ·
      go_upto_region 11 with (fail)
      have b1 := below_alloc (Below.refl wr.heap.size wr) (.cells #[.int .i64 B.f0, .int .i64 B.f1, .int .i64 C.f0, .int .i64 C.f1] 85)
      have HE := Aside0.mk (blk_new wr (.cells #[.int .i64 B.f0, .int .i64 B.f1, .int .i64 C.f0, .int .i64 C.f1] 85))
      have HW := Aside0.mk (And.intro (blk_below HW.out.1 b1) (below_step HW.out.2 b1))
      generalize wr.heap.size = g13 at HE ⊢
      generalize wr.alloc (.cells #[.int .i64 B.f0, .int .i64 B.f1, .int .i64 C.f0, .int .i64 C.f1] 85) = w3 at HE HW ⊢
      clear b1
      obtain ⟨x0, x1, x2, x3⟩ := cells4 HE.out
      obtain ⟨y0, y1, _, _⟩ := cells2 HW.out.1
      go_wp2_with (fail)
      refine (side42 w3 B C p).mono ?_
      rintro e w4 ⟨rfl, hb⟩
      have HE := Aside0.mk (blk_below HE.out hb)
      have HW := Aside0.mk (And.intro (blk_below HW.out.1 hb) (below_step HW.out.2 hb))
      clear hb x0 x1 x2 x3 y0 y1
      obtain ⟨x0, x1, x2, x3⟩ := cells4 HE.out
      obtain ⟨n, hn⟩ : ∃ n, sdI B C p = n := ⟨_, rfl⟩
      have HS := Aside0.mk hn
      rw [hn]
      clear hn
      by_cases h0 : n < 0
      ·
       have d0 : decide (n < 0) = true := decide_eq_true h0
       go_wp2_with (fail)
       go_ret
       refine ⟨?_, HW.out.2⟩
       show Ending.returned (Value.bool false) = _
       rw [HV.out, show outB B C p = true from by unfold outB; rw [HS.out]; simp [h0]]
       simp
      ·
       have d0 : decide (n < 0) = false := decide_eq_false h0
       by_cases h1 : n = 0
       ·
        have d1 : (n == 0) = true := by simp [h1]
        go_wp2_with (fail)
        refine (owns43 w4 B C).mono ?_
        rintro e w5 ⟨rfl, hb⟩
        have HW := Aside0.mk (And.intro (blk_below HW.out.1 hb) (below_step HW.out.2 hb))
        clear hb x0 x1 x2 x3
        cases ho : owB B C
        ·
         have HO := Aside0.mk ho
         clear ho
         go_wp2_with (fail)
         go_ret
         refine ⟨?_, HW.out.2⟩
         show Ending.returned (Value.bool false) = _
         rw [HV.out, show outB B C p = true from by unfold outB; rw [HS.out, HO.out]; simp [h1]]
         simp
        ·
         have HO := Aside0.mk ho
         clear ho
         go_wp2_with (fail)
         go_roundg 1
         case measure => have := HK.out.1; omega
         case rel => exact ⟨2, rfl, ⟨by omega, by omega, fun _ => HK.out.2.2.1 (by omega), fun _ => by unfold outB; rw [HS.out, HO.out]; simp [h0], fun h => by omega⟩, HW⟩
       ·
        have d1 : (n == 0) = false := by simpa using h1
        go_wp2_with (fail)
        go_roundg 1
        case measure => have := HK.out.1; omega
        case rel => exact ⟨2, rfl, ⟨by omega, by omega, fun _ => HK.out.2.2.1 (by omega), fun _ => by unfold outB; rw [HS.out]; simp [h0, h1], fun h => by omega⟩, HW⟩
     ·
      go_upto_region 11 with (fail)
      have b1 := below_alloc (Below.refl wr.heap.size wr) (.cells #[.int .i64 C.f0, .int .i64 C.f1, .int .i64 pa.f0, .int .i64 pa.f1] 85)
      have HE := Aside0.mk (blk_new wr (.cells #[.int .i64 C.f0, .int .i64 C.f1, .int .i64 pa.f0, .int .i64 pa.f1] 85))
      have HW := Aside0.mk (And.intro (blk_below HW.out.1 b1) (below_step HW.out.2 b1))
      generalize wr.heap.size = g13 at HE ⊢
      generalize wr.alloc (.cells #[.int .i64 C.f0, .int .i64 C.f1, .int .i64 pa.f0, .int .i64 pa.f1] 85) = w3 at HE HW ⊢
      clear b1
      obtain ⟨x0, x1, x2, x3⟩ := cells4 HE.out
      obtain ⟨y0, y1, _, _⟩ := cells2 HW.out.1
      go_wp2_with (fail)
      refine (side42 w3 C pa p).mono ?_
      rintro e w4 ⟨rfl, hb⟩
      have HE := Aside0.mk (blk_below HE.out hb)
      have HW := Aside0.mk (And.intro (blk_below HW.out.1 hb) (below_step HW.out.2 hb))
      clear hb x0 x1 x2 x3 y0 y1
      obtain ⟨x0, x1, x2, x3⟩ := cells4 HE.out
      obtain ⟨n, hn⟩ : ∃ n, sdI C pa p = n := ⟨_, rfl⟩
      have HS := Aside0.mk hn
      rw [hn]
      clear hn
      by_cases h0 : n < 0
      ·
       have d0 : decide (n < 0) = true := decide_eq_true h0
       go_wp2_with (fail)
       go_ret
       refine ⟨?_, HW.out.2⟩
       show Ending.returned (Value.bool false) = _
       rw [HV.out, show outB C pa p = true from by unfold outB; rw [HS.out]; simp [h0]]
       simp
      ·
       have d0 : decide (n < 0) = false := decide_eq_false h0
       by_cases h1 : n = 0
       ·
        have d1 : (n == 0) = true := by simp [h1]
        go_wp2_with (fail)
        refine (owns43 w4 C pa).mono ?_
        rintro e w5 ⟨rfl, hb⟩
        have HW := Aside0.mk (And.intro (blk_below HW.out.1 hb) (below_step HW.out.2 hb))
        clear hb x0 x1 x2 x3
        cases ho : owB C pa
        ·
         have HO := Aside0.mk ho
         clear ho
         go_wp2_with (fail)
         go_ret
         refine ⟨?_, HW.out.2⟩
         show Ending.returned (Value.bool false) = _
         rw [HV.out, show outB C pa p = true from by unfold outB; rw [HS.out, HO.out]; simp [h1]]
         simp
        ·
         have HO := Aside0.mk ho
         clear ho
         go_wp2_with (fail)
         go_roundg 0
         case measure => have := HK.out.1; omega
         case rel => exact ⟨3, rfl, ⟨by omega, by omega, fun _ => HK.out.2.2.1 (by omega), fun _ => HK.out.2.2.2.1 (by omega), fun _ => by unfold outB; rw [HS.out, HO.out]; simp [h0]⟩, HW⟩
       ·
        have d1 : (n == 0) = false := by simpa using h1
        go_wp2_with (fail)
        go_roundg 0
        case measure => have := HK.out.1; omega
        case rel => exact ⟨3, rfl, ⟨by omega, by omega, fun _ => HK.out.2.2.1 (by omega), fun _ => HK.out.2.2.2.1 (by omega), fun _ => by unfold outB; rw [HS.out]; simp [h0, h1]⟩, HW⟩
     ·
      go_wp2_with (fail)
      go_ret
      refine ⟨?_, HW.out.2⟩
      show Ending.returned (Value.bool true) = _
      rw [HV.out, HK.out.2.2.1 (by omega), HK.out.2.2.2.1 (by omega), HK.out.2.2.2.2 (by omega)]
      rfl
def raster_covers.f (l0 : List S43) (a1 a2 : Int) : Option Bool := if l0.length = 3 then some (covB (rd_T43 l0 0) (rd_T43 l0 1) (rd_T43 l0 2) a1 a2) else none
theorem raster_covers.calls (A0 : Option Addr) (c0 : Nat) (l0 : List S43) (a1 : Int) (a2 : Int) (r : Bool) (w : World) (hr0 : Kd.C k43 w A0 l0.length l0) (hc0 : l0.length ≤ c0) (h : raster_covers.f l0 a1 a2 = some r) :
  Calls Try.prog 32 #[.slice A0 l0.length c0, .int .i64 a1, .int .i64 a2] w fun e w' => e = .returned (.bool r) ∧ Below w.heap.size w w' := by
 unfold raster_covers.f at h
 split at h
 case isFalse => cases h
 rename_i hl
 injection h with h
 subst h
 have := T_covers w A0 c0 l0 a1 a2 hr0 hl
 rwa [hl]

end Go.Proofs.Ytffbonfgbmohdaa.P
