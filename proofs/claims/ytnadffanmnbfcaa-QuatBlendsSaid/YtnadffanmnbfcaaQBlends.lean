/- The walk of QuatBlends: the answer of the law is that of its printed function. No condition. Lines of it were printed by a turned copy of the kit's print. -/
import Derived.Test.YtnadffanmnbfcaaQBf
import Derived.Deep.DeepCutAuto
import Derived.Deep.RegionHeld3
import Derived.Deep.DrawnRows
namespace Go.Proofs.Ytnadffanmnbfcaa.P
open Go.RowKit Go.Proofs.YtnadffanmnbfcaaW.PrintWords Go.Proofs.YtnadffanmnbfcaaW.PrintLast Go.Proofs.YtnadffanmnbfcaaW.PrintMore
attribute [local go_sem] max2_int min2_int max_two min_two max_three min_three max_four min_four   -- for this text's walks alone
attribute [local go_sem] slc46 bld46
set_option linter.unusedVariables false
set_option linter.unusedSimpArgs false
attribute [local go_sem high] eqA39
def tourkeep1_QuatBlends.T7 : Bool × List (List Nat × List Nat) := (true, [([], []), ([], []), ([0, 1], [0, 1]), ([], []), ([3, 2], [3]), ([2, 4], [2, 4]), ([5, 4], [5]), ([6], [6]), ([6], [6]), ([8, 6, 6], [6, 8]), ([7, 9, 6], [6, 7, 9]), ([10, 9, 6], [6, 10]), ([11], [11]), ([11], [11]), ([13, 11], [11, 13]), ([14, 11], [11, 14]), ([11], [11]), ([16, 11], [11, 16]), ([17, 11], [11, 17]), ([11], [11]), ([19, 11], [11, 19]), ([20, 11], [11, 20]), ([11], [11]), ([22, 11], [11, 22]), ([23, 11], [11, 23]), ([15, 18, 21, 24, 11], [11, 15, 18, 21, 24]), ([25, 11, 11], [11, 25]), ([12, 26, 11], [11, 12, 26]), ([11, 27, 6], [6, 11, 27]), ([6, 28], [6, 28]), ([29, 26], [29]), ([30], [30]), ([31, 30, 30], [30, 31]), ([32, 32, 30], [30, 32]), ([30, 33], [30, 33]), ([34, 33], [34]), ([35], [35]), ([36, 35], [35, 36]), ([35], [35]), ([38, 35], [35, 38]), ([37, 39, 35, 35], [35, 37, 39]), ([35, 40], [35, 40]), ([41, 40], [41]), ([42], [42]), ([43, 42], [42, 43]), ([42], [42]), ([45, 42], [42, 45]), ([44, 46, 42, 42], [42, 44, 46]), ([42, 47], [42, 47]), ([48, 47], [48]), ([49], [49]), ([50, 49], [49, 50]), ([49], [49]), ([52, 49], [49, 52]), ([51, 53, 49, 49], [49, 51, 53]), ([49, 54], [49, 54]), ([55, 54], [55]), ([56], [56]), ([57, 56], [56, 57]), ([56], [56]), ([59, 56], [56, 59]), ([58, 60, 56, 56], [56, 58, 60]), ([56, 61], [56, 61]), ([62, 61, 0, 1, 2, 3, 4, 5, 6, 7, 8, 9, 10, 11, 12, 13, 14, 15, 16, 17, 18, 19, 20, 21, 22, 23, 24, 25, 26, 27, 28, 29, 30, 31, 32, 33, 34, 35, 36, 37, 38, 39, 40, 41, 42, 43, 44, 45, 46, 47, 48, 49, 50, 51, 52, 53, 54, 55, 56, 57, 58, 59, 60, 61, 62], [62])])
def tourkeep1_QuatBlends.B7 : List Nat := [0, 0, 3, 0, 15, 31, 63, 127, 127, 383, 1023, 2047, 4095, 4095, 12287, 28671, 4095, 69631, 200703, 4095, 528383, 1576959, 4095, 4198399, 12587007, 33550335, 67104767, 134217727, 268435455, 536870911, 1073741823, 2147483647, 4294967295, 8589934591, 17179869183, 34359738367, 68719476735, 137438953471, 68719476735, 343597383679, 1099511627775, 2199023255551, 4398046511103, 8796093022207, 17592186044415, 8796093022207, 43980465111039, 140737488355327, 281474976710655, 562949953421311, 1125899906842623, 2251799813685247, 1125899906842623, 5629499534213119, 18014398509481983, 36028797018963967, 72057594037927935, 144115188075855871, 288230376151711743, 144115188075855871, 720575940379279359, 2305843009213693951, 4611686018427387903, 9223372036854775807]
theorem tourkeep1_QuatBlends.tab7 : rtab .any (opsOf Try.f10 7) = tourkeep1_QuatBlends.T7 := by kernel_rfl
theorem tourkeep1_QuatBlends.bits7 : waitsOk tourkeep1_QuatBlends.T7.2 tourkeep1_QuatBlends.B7 = true := by kernel_rfl
theorem QB_2b {W w1 : World} {o o' : Obj} (h : w1.heap[(W.alloc o).heap.size]? = some o') : w1.heap[W.heap.size + 1]? = some o' := by
  rwa [show (W.alloc o).heap.size = W.heap.size + 1 from Array.size_push _] at h
theorem QB_facts {w : World} {g : Nat} {x y z u : Value} {t : TypeId} (h : w.heap[g]? = some (.cells #[x, y, z, u] t (0, 0))) :
    w.cell? ⟨g, 0, none⟩ = some x ∧ w.cell? ⟨g, 1, none⟩ = some y ∧ w.cell? ⟨g, 2, none⟩ = some z ∧ w.cell? ⟨g, 3, none⟩ = some u ∧ w.frozen? ⟨g, 0, none⟩ = false ∧ w.frozen? ⟨g, 1, none⟩ = false ∧ w.frozen? ⟨g, 2, none⟩ = false ∧ w.frozen? ⟨g, 3, none⟩ = false :=
  ⟨(blk_cell h 0).trans rfl, (blk_cell h 1).trans rfl, (blk_cell h 2).trans rfl, (blk_cell h 3).trans rfl, blk_frozen h 0, blk_frozen h 1, blk_frozen h 2, blk_frozen h 3⟩
theorem QB_put4 {w : World} {g : Nat} {a b c d : Value} {t : TypeId} (h : w.heap[g]? = some (.cells #[.int .i64 0, .int .i64 0, .int .i64 0, .int .i64 0] t (0, 0))) :
    ((((w.setCell ⟨g, 0, none⟩ a).setCell ⟨g, 1, none⟩ b).setCell ⟨g, 2, none⟩ c).setCell ⟨g, 3, none⟩ d).heap[g]? = some (.cells #[a, b, c, d] t (0, 0)) :=
  blk_put (cs := #[a, b, c, .int .i64 0]) (blk_put (cs := #[a, b, .int .i64 0, .int .i64 0]) (blk_put (cs := #[a, .int .i64 0, .int .i64 0, .int .i64 0]) (blk_put (cs := #[.int .i64 0, .int .i64 0, .int .i64 0, .int .i64 0]) h 0 a rfl) 1 b rfl) 2 c rfl) 3 d rfl
theorem QB_far4 {w : World} {g k : Nat} {a b c d : Value} {cs : Array Value} {t : TypeId} (hne : g ≠ k) (h : w.heap[g]? = some (.cells cs t (0, 0))) :
    ((((w.setCell ⟨k, 0, none⟩ a).setCell ⟨k, 1, none⟩ b).setCell ⟨k, 2, none⟩ c).setCell ⟨k, 3, none⟩ d).heap[g]? = some (.cells cs t (0, 0)) :=
  blk_far (blk_far (blk_far (blk_far h hne a) hne b) hne c) hne d
theorem QB_new4 {w : World} {k : Nat} {a b c d : Value} {o : Obj} :
    (((((w.setCell ⟨k, 0, none⟩ a).setCell ⟨k, 1, none⟩ b).setCell ⟨k, 2, none⟩ c).setCell ⟨k, 3, none⟩ d).alloc o).heap[w.heap.size]? = some o := by
  have h := blk_new ((((w.setCell ⟨k, 0, none⟩ a).setCell ⟨k, 1, none⟩ b).setCell ⟨k, 2, none⟩ c).setCell ⟨k, 3, none⟩ d) o
  rwa [World.size_setCell, World.size_setCell, World.size_setCell, World.size_setCell] at h
theorem QB_new2 {W : World} {o o' : Obj} : ((W.alloc o).alloc o').heap[W.heap.size + 1]? = some o' := QB_2b (blk_new (W.alloc o) o')
theorem QB_far4a {w : World} {g : Nat} {a b c d : Value} {cs : Array Value} {t : TypeId} (h : w.heap[g]? = some (.cells cs t (0, 0))) :
    ((((w.setCell ⟨g + 1, 0, none⟩ a).setCell ⟨g + 1, 1, none⟩ b).setCell ⟨g + 1, 2, none⟩ c).setCell ⟨g + 1, 3, none⟩ d).heap[g]? = some (.cells cs t (0, 0)) := QB_far4 (Nat.ne_of_lt (Nat.lt_succ_self _)) h
theorem QB_far4b {w : World} {g : Nat} {a b c d : Value} {cs : Array Value} {t : TypeId} (h : w.heap[g + 1]? = some (.cells cs t (0, 0))) :
    ((((w.setCell ⟨g, 0, none⟩ a).setCell ⟨g, 1, none⟩ b).setCell ⟨g, 2, none⟩ c).setCell ⟨g, 3, none⟩ d).heap[g + 1]? = some (.cells cs t (0, 0)) := QB_far4 (Nat.ne_of_gt (Nat.lt_succ_self _)) h

set_option maxHeartbeats 8000000 in
set_option maxRecDepth 100000 in
theorem tourkeep1_QuatBlends.calls (k : Nat) (a0_0 : Int) (a0_1 : Int) (a0_2 : Int) (a0_3 : Int) (a1_0 : Int) (a1_1 : Int) (a1_2 : Int) (a1_3 : Int) (a2 : Int) (r : Bool) (w : World) (h : tourkeep1_QuatBlends.f k a0_0 a0_1 a0_2 a0_3 a1_0 a1_1 a1_2 a1_3 a2 = some r) :
  Calls Try.prog 10 #[.agg #[.int .i64 a0_0, .int .i64 a0_1, .int .i64 a0_2, .int .i64 a0_3], .agg #[.int .i64 a1_0, .int .i64 a1_1, .int .i64 a1_2, .int .i64 a1_3], .int .i64 a2] w fun e w' => e = .returned (.bool r) ∧ Below w.heap.size w w' := by
 have hu37 := Try.underlying37
 have hu39 := Try.underlying39
 have HB := Aside0.mk (Below.refl w.heap.size w)
 have H : ((tourkeep1_quatBegun.f k).bind fun t262 => (if t262 = true then ((tourkeep1_turner.f k a0_0 a0_1 a0_2 a0_3).bind fun bt263 => ((tourkeep1_turner.f k a1_0 a1_1 a1_2 a1_3).bind fun bt267 => ((quat_Blend.f k bt263.1 bt263.2.1 bt263.2.2.1 bt263.2.2.2 bt267.1 bt267.2.1 bt267.2.2.1 bt267.2.2.2 a2).bind fun bt273 => ((quat_Blend.f k bt263.1 bt263.2.1 bt263.2.2.1 bt263.2.2.2 bt267.1 bt267.2.1 bt267.2.2.1 bt267.2.2.2 65536).bind fun bt278 => ((quat_Blend.f k bt263.1 bt263.2.1 bt263.2.2.1 bt263.2.2.2 bt263.1 bt263.2.1 bt263.2.2.1 bt263.2.2.2 a2).bind fun bt283 => ((quat_Unit.f k bt263.1 bt263.2.1 bt263.2.2.1 bt263.2.2.2).bind fun bt287 => ((quat_Blend.f k bt263.1 bt263.2.1 bt263.2.2.1 bt263.2.2.2 bt267.1 bt267.2.1 bt267.2.2.1 bt267.2.2.2 0).bind fun bt293 => ((quat_Unit.f k bt263.1 bt263.2.1 bt263.2.2.1 bt263.2.2.2).bind fun bt297 => (if (bt293.1 == bt297.1 && (bt293.2.1 == bt297.2.1 && (bt293.2.2.1 == bt297.2.2.1 && (bt293.2.2.2 == bt297.2.2.2)))) = true then ((quat_Unit.f k bt267.1 bt267.2.1 bt267.2.2.1 bt267.2.2.2).bind fun bt301 => (if (bt278.1 == bt301.1 && (bt278.2.1 == bt301.2.1 && (bt278.2.2.1 == bt301.2.2.1 && (bt278.2.2.2 == bt301.2.2.2)))) = true then ((tourkeep1_square.f bt273.1 bt273.2.1 bt273.2.2.1 bt273.2.2.2).bind fun t305 => ((tourkeep1_near.f t305 65536 8).bind fun t306 => (if t306 = true then ((tourkeep1_near.f bt283.1 bt287.1 4).bind fun t307 => (if t307 = true then ((tourkeep1_near.f bt283.2.1 bt287.2.1 4).bind fun t308 => (if t308 = true then ((tourkeep1_near.f bt283.2.2.1 bt287.2.2.1 4).bind fun t309 => (if t309 = true then ((tourkeep1_near.f bt283.2.2.2 bt287.2.2.2 4).bind fun t310 => (some t310)) else (none))) else (none))) else (none))) else (none)))) else ((quat_Unit.f k (wrap64 (-bt267.1)) (wrap64 (-bt267.2.1)) (wrap64 (-bt267.2.2.1)) (wrap64 (-bt267.2.2.2))).bind fun bt311 => (if (bt278.1 == bt311.1 && (bt278.2.1 == bt311.2.1 && (bt278.2.2.1 == bt311.2.2.1 && (bt278.2.2.2 == bt311.2.2.2)))) = true then ((tourkeep1_square.f bt273.1 bt273.2.1 bt273.2.2.1 bt273.2.2.2).bind fun t315 => ((tourkeep1_near.f t315 65536 8).bind fun t316 => (if t316 = true then ((tourkeep1_near.f bt283.1 bt287.1 4).bind fun t317 => (if t317 = true then ((tourkeep1_near.f bt283.2.1 bt287.2.1 4).bind fun t318 => (if t318 = true then ((tourkeep1_near.f bt283.2.2.1 bt287.2.2.1 4).bind fun t319 => (if t319 = true then ((tourkeep1_near.f bt283.2.2.2 bt287.2.2.2 4).bind fun t320 => (some t320)) else (none))) else (none))) else (none))) else (none)))) else (none))))) else (none)))))))))) else (none))) = some r := h
 clear h
 replace H := Option.bind_eq_some_iff.mp H
 obtain ⟨t262, A40, H⟩ := H
 replace H : (if t262 = true then ((tourkeep1_turner.f k a0_0 a0_1 a0_2 a0_3).bind fun bt263 => ((tourkeep1_turner.f k a1_0 a1_1 a1_2 a1_3).bind fun bt267 => ((quat_Blend.f k bt263.1 bt263.2.1 bt263.2.2.1 bt263.2.2.2 bt267.1 bt267.2.1 bt267.2.2.1 bt267.2.2.2 a2).bind fun bt273 => ((quat_Blend.f k bt263.1 bt263.2.1 bt263.2.2.1 bt263.2.2.2 bt267.1 bt267.2.1 bt267.2.2.1 bt267.2.2.2 65536).bind fun bt278 => ((quat_Blend.f k bt263.1 bt263.2.1 bt263.2.2.1 bt263.2.2.2 bt263.1 bt263.2.1 bt263.2.2.1 bt263.2.2.2 a2).bind fun bt283 => ((quat_Unit.f k bt263.1 bt263.2.1 bt263.2.2.1 bt263.2.2.2).bind fun bt287 => ((quat_Blend.f k bt263.1 bt263.2.1 bt263.2.2.1 bt263.2.2.2 bt267.1 bt267.2.1 bt267.2.2.1 bt267.2.2.2 0).bind fun bt293 => ((quat_Unit.f k bt263.1 bt263.2.1 bt263.2.2.1 bt263.2.2.2).bind fun bt297 => (if (bt293.1 == bt297.1 && (bt293.2.1 == bt297.2.1 && (bt293.2.2.1 == bt297.2.2.1 && (bt293.2.2.2 == bt297.2.2.2)))) = true then ((quat_Unit.f k bt267.1 bt267.2.1 bt267.2.2.1 bt267.2.2.2).bind fun bt301 => (if (bt278.1 == bt301.1 && (bt278.2.1 == bt301.2.1 && (bt278.2.2.1 == bt301.2.2.1 && (bt278.2.2.2 == bt301.2.2.2)))) = true then ((tourkeep1_square.f bt273.1 bt273.2.1 bt273.2.2.1 bt273.2.2.2).bind fun t305 => ((tourkeep1_near.f t305 65536 8).bind fun t306 => (if t306 = true then ((tourkeep1_near.f bt283.1 bt287.1 4).bind fun t307 => (if t307 = true then ((tourkeep1_near.f bt283.2.1 bt287.2.1 4).bind fun t308 => (if t308 = true then ((tourkeep1_near.f bt283.2.2.1 bt287.2.2.1 4).bind fun t309 => (if t309 = true then ((tourkeep1_near.f bt283.2.2.2 bt287.2.2.2 4).bind fun t310 => (some t310)) else (none))) else (none))) else (none))) else (none)))) else ((quat_Unit.f k (wrap64 (-bt267.1)) (wrap64 (-bt267.2.1)) (wrap64 (-bt267.2.2.1)) (wrap64 (-bt267.2.2.2))).bind fun bt311 => (if (bt278.1 == bt311.1 && (bt278.2.1 == bt311.2.1 && (bt278.2.2.1 == bt311.2.2.1 && (bt278.2.2.2 == bt311.2.2.2)))) = true then ((tourkeep1_square.f bt273.1 bt273.2.1 bt273.2.2.1 bt273.2.2.2).bind fun t315 => ((tourkeep1_near.f t315 65536 8).bind fun t316 => (if t316 = true then ((tourkeep1_near.f bt283.1 bt287.1 4).bind fun t317 => (if t317 = true then ((tourkeep1_near.f bt283.2.1 bt287.2.1 4).bind fun t318 => (if t318 = true then ((tourkeep1_near.f bt283.2.2.1 bt287.2.2.1 4).bind fun t319 => (if t319 = true then ((tourkeep1_near.f bt283.2.2.2 bt287.2.2.2 4).bind fun t320 => (some t320)) else (none))) else (none))) else (none))) else (none)))) else (none))))) else (none)))))))))) else (none)) = some r := H
 have A4 := Aside0.mk A40
 clear A40
 by_cases c5 : t262 = true
 ·
  subst c5
  have H1 : ((tourkeep1_turner.f k a0_0 a0_1 a0_2 a0_3).bind fun bt263 => ((tourkeep1_turner.f k a1_0 a1_1 a1_2 a1_3).bind fun bt267 => ((quat_Blend.f k bt263.1 bt263.2.1 bt263.2.2.1 bt263.2.2.2 bt267.1 bt267.2.1 bt267.2.2.1 bt267.2.2.2 a2).bind fun bt273 => ((quat_Blend.f k bt263.1 bt263.2.1 bt263.2.2.1 bt263.2.2.2 bt267.1 bt267.2.1 bt267.2.2.1 bt267.2.2.2 65536).bind fun bt278 => ((quat_Blend.f k bt263.1 bt263.2.1 bt263.2.2.1 bt263.2.2.2 bt263.1 bt263.2.1 bt263.2.2.1 bt263.2.2.2 a2).bind fun bt283 => ((quat_Unit.f k bt263.1 bt263.2.1 bt263.2.2.1 bt263.2.2.2).bind fun bt287 => ((quat_Blend.f k bt263.1 bt263.2.1 bt263.2.2.1 bt263.2.2.2 bt267.1 bt267.2.1 bt267.2.2.1 bt267.2.2.2 0).bind fun bt293 => ((quat_Unit.f k bt263.1 bt263.2.1 bt263.2.2.1 bt263.2.2.2).bind fun bt297 => (if (bt293.1 == bt297.1 && (bt293.2.1 == bt297.2.1 && (bt293.2.2.1 == bt297.2.2.1 && (bt293.2.2.2 == bt297.2.2.2)))) = true then ((quat_Unit.f k bt267.1 bt267.2.1 bt267.2.2.1 bt267.2.2.2).bind fun bt301 => (if (bt278.1 == bt301.1 && (bt278.2.1 == bt301.2.1 && (bt278.2.2.1 == bt301.2.2.1 && (bt278.2.2.2 == bt301.2.2.2)))) = true then ((tourkeep1_square.f bt273.1 bt273.2.1 bt273.2.2.1 bt273.2.2.2).bind fun t305 => ((tourkeep1_near.f t305 65536 8).bind fun t306 => (if t306 = true then ((tourkeep1_near.f bt283.1 bt287.1 4).bind fun t307 => (if t307 = true then ((tourkeep1_near.f bt283.2.1 bt287.2.1 4).bind fun t308 => (if t308 = true then ((tourkeep1_near.f bt283.2.2.1 bt287.2.2.1 4).bind fun t309 => (if t309 = true then ((tourkeep1_near.f bt283.2.2.2 bt287.2.2.2 4).bind fun t310 => (some t310)) else (none))) else (none))) else (none))) else (none)))) else ((quat_Unit.f k (wrap64 (-bt267.1)) (wrap64 (-bt267.2.1)) (wrap64 (-bt267.2.2.1)) (wrap64 (-bt267.2.2.2))).bind fun bt311 => (if (bt278.1 == bt311.1 && (bt278.2.1 == bt311.2.1 && (bt278.2.2.1 == bt311.2.2.1 && (bt278.2.2.2 == bt311.2.2.2)))) = true then ((tourkeep1_square.f bt273.1 bt273.2.1 bt273.2.2.1 bt273.2.2.2).bind fun t315 => ((tourkeep1_near.f t315 65536 8).bind fun t316 => (if t316 = true then ((tourkeep1_near.f bt283.1 bt287.1 4).bind fun t317 => (if t317 = true then ((tourkeep1_near.f bt283.2.1 bt287.2.1 4).bind fun t318 => (if t318 = true then ((tourkeep1_near.f bt283.2.2.1 bt287.2.2.1 4).bind fun t319 => (if t319 = true then ((tourkeep1_near.f bt283.2.2.2 bt287.2.2.2 4).bind fun t320 => (some t320)) else (none))) else (none))) else (none))) else (none)))) else (none))))) else (none)))))))))) = some r := by rw [if_pos rfl] at H; exact H
  clear H
  have H := H1
  clear H1
  replace H := Option.bind_eq_some_iff.mp H
  obtain ⟨⟨t263, t264, t265, t266⟩, A60, H⟩ := H
  replace H : ((tourkeep1_turner.f k a1_0 a1_1 a1_2 a1_3).bind fun bt267 => ((quat_Blend.f k t263 t264 t265 t266 bt267.1 bt267.2.1 bt267.2.2.1 bt267.2.2.2 a2).bind fun bt273 => ((quat_Blend.f k t263 t264 t265 t266 bt267.1 bt267.2.1 bt267.2.2.1 bt267.2.2.2 65536).bind fun bt278 => ((quat_Blend.f k t263 t264 t265 t266 t263 t264 t265 t266 a2).bind fun bt283 => ((quat_Unit.f k t263 t264 t265 t266).bind fun bt287 => ((quat_Blend.f k t263 t264 t265 t266 bt267.1 bt267.2.1 bt267.2.2.1 bt267.2.2.2 0).bind fun bt293 => ((quat_Unit.f k t263 t264 t265 t266).bind fun bt297 => (if (bt293.1 == bt297.1 && (bt293.2.1 == bt297.2.1 && (bt293.2.2.1 == bt297.2.2.1 && (bt293.2.2.2 == bt297.2.2.2)))) = true then ((quat_Unit.f k bt267.1 bt267.2.1 bt267.2.2.1 bt267.2.2.2).bind fun bt301 => (if (bt278.1 == bt301.1 && (bt278.2.1 == bt301.2.1 && (bt278.2.2.1 == bt301.2.2.1 && (bt278.2.2.2 == bt301.2.2.2)))) = true then ((tourkeep1_square.f bt273.1 bt273.2.1 bt273.2.2.1 bt273.2.2.2).bind fun t305 => ((tourkeep1_near.f t305 65536 8).bind fun t306 => (if t306 = true then ((tourkeep1_near.f bt283.1 bt287.1 4).bind fun t307 => (if t307 = true then ((tourkeep1_near.f bt283.2.1 bt287.2.1 4).bind fun t308 => (if t308 = true then ((tourkeep1_near.f bt283.2.2.1 bt287.2.2.1 4).bind fun t309 => (if t309 = true then ((tourkeep1_near.f bt283.2.2.2 bt287.2.2.2 4).bind fun t310 => (some t310)) else (none))) else (none))) else (none))) else (none)))) else ((quat_Unit.f k (wrap64 (-bt267.1)) (wrap64 (-bt267.2.1)) (wrap64 (-bt267.2.2.1)) (wrap64 (-bt267.2.2.2))).bind fun bt311 => (if (bt278.1 == bt311.1 && (bt278.2.1 == bt311.2.1 && (bt278.2.2.1 == bt311.2.2.1 && (bt278.2.2.2 == bt311.2.2.2)))) = true then ((tourkeep1_square.f bt273.1 bt273.2.1 bt273.2.2.1 bt273.2.2.2).bind fun t315 => ((tourkeep1_near.f t315 65536 8).bind fun t316 => (if t316 = true then ((tourkeep1_near.f bt283.1 bt287.1 4).bind fun t317 => (if t317 = true then ((tourkeep1_near.f bt283.2.1 bt287.2.1 4).bind fun t318 => (if t318 = true then ((tourkeep1_near.f bt283.2.2.1 bt287.2.2.1 4).bind fun t319 => (if t319 = true then ((tourkeep1_near.f bt283.2.2.2 bt287.2.2.2 4).bind fun t320 => (some t320)) else (none))) else (none))) else (none))) else (none)))) else (none))))) else (none))))))))) = some r := H
  have A6 := Aside0.mk A60
  clear A60
  replace H := Option.bind_eq_some_iff.mp H
  obtain ⟨⟨t267, t268, t269, t270⟩, A70, H⟩ := H
  replace H : ((quat_Blend.f k t263 t264 t265 t266 t267 t268 t269 t270 a2).bind fun bt273 => ((quat_Blend.f k t263 t264 t265 t266 t267 t268 t269 t270 65536).bind fun bt278 => ((quat_Blend.f k t263 t264 t265 t266 t263 t264 t265 t266 a2).bind fun bt283 => ((quat_Unit.f k t263 t264 t265 t266).bind fun bt287 => ((quat_Blend.f k t263 t264 t265 t266 t267 t268 t269 t270 0).bind fun bt293 => ((quat_Unit.f k t263 t264 t265 t266).bind fun bt297 => (if (bt293.1 == bt297.1 && (bt293.2.1 == bt297.2.1 && (bt293.2.2.1 == bt297.2.2.1 && (bt293.2.2.2 == bt297.2.2.2)))) = true then ((quat_Unit.f k t267 t268 t269 t270).bind fun bt301 => (if (bt278.1 == bt301.1 && (bt278.2.1 == bt301.2.1 && (bt278.2.2.1 == bt301.2.2.1 && (bt278.2.2.2 == bt301.2.2.2)))) = true then ((tourkeep1_square.f bt273.1 bt273.2.1 bt273.2.2.1 bt273.2.2.2).bind fun t305 => ((tourkeep1_near.f t305 65536 8).bind fun t306 => (if t306 = true then ((tourkeep1_near.f bt283.1 bt287.1 4).bind fun t307 => (if t307 = true then ((tourkeep1_near.f bt283.2.1 bt287.2.1 4).bind fun t308 => (if t308 = true then ((tourkeep1_near.f bt283.2.2.1 bt287.2.2.1 4).bind fun t309 => (if t309 = true then ((tourkeep1_near.f bt283.2.2.2 bt287.2.2.2 4).bind fun t310 => (some t310)) else (none))) else (none))) else (none))) else (none)))) else ((quat_Unit.f k (wrap64 (-t267)) (wrap64 (-t268)) (wrap64 (-t269)) (wrap64 (-t270))).bind fun bt311 => (if (bt278.1 == bt311.1 && (bt278.2.1 == bt311.2.1 && (bt278.2.2.1 == bt311.2.2.1 && (bt278.2.2.2 == bt311.2.2.2)))) = true then ((tourkeep1_square.f bt273.1 bt273.2.1 bt273.2.2.1 bt273.2.2.2).bind fun t315 => ((tourkeep1_near.f t315 65536 8).bind fun t316 => (if t316 = true then ((tourkeep1_near.f bt283.1 bt287.1 4).bind fun t317 => (if t317 = true then ((tourkeep1_near.f bt283.2.1 bt287.2.1 4).bind fun t318 => (if t318 = true then ((tourkeep1_near.f bt283.2.2.1 bt287.2.2.1 4).bind fun t319 => (if t319 = true then ((tourkeep1_near.f bt283.2.2.2 bt287.2.2.2 4).bind fun t320 => (some t320)) else (none))) else (none))) else (none))) else (none)))) else (none))))) else (none)))))))) = some r := H
  have A7 := Aside0.mk A70
  clear A70
  replace H := Option.bind_eq_some_iff.mp H
  obtain ⟨⟨t273, t274, t275, t276⟩, A80, H⟩ := H
  replace H : ((quat_Blend.f k t263 t264 t265 t266 t267 t268 t269 t270 65536).bind fun bt278 => ((quat_Blend.f k t263 t264 t265 t266 t263 t264 t265 t266 a2).bind fun bt283 => ((quat_Unit.f k t263 t264 t265 t266).bind fun bt287 => ((quat_Blend.f k t263 t264 t265 t266 t267 t268 t269 t270 0).bind fun bt293 => ((quat_Unit.f k t263 t264 t265 t266).bind fun bt297 => (if (bt293.1 == bt297.1 && (bt293.2.1 == bt297.2.1 && (bt293.2.2.1 == bt297.2.2.1 && (bt293.2.2.2 == bt297.2.2.2)))) = true then ((quat_Unit.f k t267 t268 t269 t270).bind fun bt301 => (if (bt278.1 == bt301.1 && (bt278.2.1 == bt301.2.1 && (bt278.2.2.1 == bt301.2.2.1 && (bt278.2.2.2 == bt301.2.2.2)))) = true then ((tourkeep1_square.f t273 t274 t275 t276).bind fun t305 => ((tourkeep1_near.f t305 65536 8).bind fun t306 => (if t306 = true then ((tourkeep1_near.f bt283.1 bt287.1 4).bind fun t307 => (if t307 = true then ((tourkeep1_near.f bt283.2.1 bt287.2.1 4).bind fun t308 => (if t308 = true then ((tourkeep1_near.f bt283.2.2.1 bt287.2.2.1 4).bind fun t309 => (if t309 = true then ((tourkeep1_near.f bt283.2.2.2 bt287.2.2.2 4).bind fun t310 => (some t310)) else (none))) else (none))) else (none))) else (none)))) else ((quat_Unit.f k (wrap64 (-t267)) (wrap64 (-t268)) (wrap64 (-t269)) (wrap64 (-t270))).bind fun bt311 => (if (bt278.1 == bt311.1 && (bt278.2.1 == bt311.2.1 && (bt278.2.2.1 == bt311.2.2.1 && (bt278.2.2.2 == bt311.2.2.2)))) = true then ((tourkeep1_square.f t273 t274 t275 t276).bind fun t315 => ((tourkeep1_near.f t315 65536 8).bind fun t316 => (if t316 = true then ((tourkeep1_near.f bt283.1 bt287.1 4).bind fun t317 => (if t317 = true then ((tourkeep1_near.f bt283.2.1 bt287.2.1 4).bind fun t318 => (if t318 = true then ((tourkeep1_near.f bt283.2.2.1 bt287.2.2.1 4).bind fun t319 => (if t319 = true then ((tourkeep1_near.f bt283.2.2.2 bt287.2.2.2 4).bind fun t320 => (some t320)) else (none))) else (none))) else (none))) else (none)))) else (none))))) else (none))))))) = some r := H
  have A8 := Aside0.mk A80
  clear A80
  replace H := Option.bind_eq_some_iff.mp H
  obtain ⟨⟨t278, t279, t280, t281⟩, A90, H⟩ := H
  replace H : ((quat_Blend.f k t263 t264 t265 t266 t263 t264 t265 t266 a2).bind fun bt283 => ((quat_Unit.f k t263 t264 t265 t266).bind fun bt287 => ((quat_Blend.f k t263 t264 t265 t266 t267 t268 t269 t270 0).bind fun bt293 => ((quat_Unit.f k t263 t264 t265 t266).bind fun bt297 => (if (bt293.1 == bt297.1 && (bt293.2.1 == bt297.2.1 && (bt293.2.2.1 == bt297.2.2.1 && (bt293.2.2.2 == bt297.2.2.2)))) = true then ((quat_Unit.f k t267 t268 t269 t270).bind fun bt301 => (if (t278 == bt301.1 && (t279 == bt301.2.1 && (t280 == bt301.2.2.1 && (t281 == bt301.2.2.2)))) = true then ((tourkeep1_square.f t273 t274 t275 t276).bind fun t305 => ((tourkeep1_near.f t305 65536 8).bind fun t306 => (if t306 = true then ((tourkeep1_near.f bt283.1 bt287.1 4).bind fun t307 => (if t307 = true then ((tourkeep1_near.f bt283.2.1 bt287.2.1 4).bind fun t308 => (if t308 = true then ((tourkeep1_near.f bt283.2.2.1 bt287.2.2.1 4).bind fun t309 => (if t309 = true then ((tourkeep1_near.f bt283.2.2.2 bt287.2.2.2 4).bind fun t310 => (some t310)) else (none))) else (none))) else (none))) else (none)))) else ((quat_Unit.f k (wrap64 (-t267)) (wrap64 (-t268)) (wrap64 (-t269)) (wrap64 (-t270))).bind fun bt311 => (if (t278 == bt311.1 && (t279 == bt311.2.1 && (t280 == bt311.2.2.1 && (t281 == bt311.2.2.2)))) = true then ((tourkeep1_square.f t273 t274 t275 t276).bind fun t315 => ((tourkeep1_near.f t315 65536 8).bind fun t316 => (if t316 = true then ((tourkeep1_near.f bt283.1 bt287.1 4).bind fun t317 => (if t317 = true then ((tourkeep1_near.f bt283.2.1 bt287.2.1 4).bind fun t318 => (if t318 = true then ((tourkeep1_near.f bt283.2.2.1 bt287.2.2.1 4).bind fun t319 => (if t319 = true then ((tourkeep1_near.f bt283.2.2.2 bt287.2.2.2 4).bind fun t320 => (some t320)) else (none))) else (none))) else (none))) else (none)))) else (none))))) else (none)))))) = some r := H
  have A9 := Aside0.mk A90
  clear A90
  replace H := Option.bind_eq_some_iff.mp H
  obtain ⟨⟨t283, t284, t285, t286⟩, A100, H⟩ := H
  replace H : ((quat_Unit.f k t263 t264 t265 t266).bind fun bt287 => ((quat_Blend.f k t263 t264 t265 t266 t267 t268 t269 t270 0).bind fun bt293 => ((quat_Unit.f k t263 t264 t265 t266).bind fun bt297 => (if (bt293.1 == bt297.1 && (bt293.2.1 == bt297.2.1 && (bt293.2.2.1 == bt297.2.2.1 && (bt293.2.2.2 == bt297.2.2.2)))) = true then ((quat_Unit.f k t267 t268 t269 t270).bind fun bt301 => (if (t278 == bt301.1 && (t279 == bt301.2.1 && (t280 == bt301.2.2.1 && (t281 == bt301.2.2.2)))) = true then ((tourkeep1_square.f t273 t274 t275 t276).bind fun t305 => ((tourkeep1_near.f t305 65536 8).bind fun t306 => (if t306 = true then ((tourkeep1_near.f t283 bt287.1 4).bind fun t307 => (if t307 = true then ((tourkeep1_near.f t284 bt287.2.1 4).bind fun t308 => (if t308 = true then ((tourkeep1_near.f t285 bt287.2.2.1 4).bind fun t309 => (if t309 = true then ((tourkeep1_near.f t286 bt287.2.2.2 4).bind fun t310 => (some t310)) else (none))) else (none))) else (none))) else (none)))) else ((quat_Unit.f k (wrap64 (-t267)) (wrap64 (-t268)) (wrap64 (-t269)) (wrap64 (-t270))).bind fun bt311 => (if (t278 == bt311.1 && (t279 == bt311.2.1 && (t280 == bt311.2.2.1 && (t281 == bt311.2.2.2)))) = true then ((tourkeep1_square.f t273 t274 t275 t276).bind fun t315 => ((tourkeep1_near.f t315 65536 8).bind fun t316 => (if t316 = true then ((tourkeep1_near.f t283 bt287.1 4).bind fun t317 => (if t317 = true then ((tourkeep1_near.f t284 bt287.2.1 4).bind fun t318 => (if t318 = true then ((tourkeep1_near.f t285 bt287.2.2.1 4).bind fun t319 => (if t319 = true then ((tourkeep1_near.f t286 bt287.2.2.2 4).bind fun t320 => (some t320)) else (none))) else (none))) else (none))) else (none)))) else (none))))) else (none))))) = some r := H
  have A10 := Aside0.mk A100
  clear A100
  replace H := Option.bind_eq_some_iff.mp H
  obtain ⟨⟨t287, t288, t289, t290⟩, A110, H⟩ := H
  replace H : ((quat_Blend.f k t263 t264 t265 t266 t267 t268 t269 t270 0).bind fun bt293 => ((quat_Unit.f k t263 t264 t265 t266).bind fun bt297 => (if (bt293.1 == bt297.1 && (bt293.2.1 == bt297.2.1 && (bt293.2.2.1 == bt297.2.2.1 && (bt293.2.2.2 == bt297.2.2.2)))) = true then ((quat_Unit.f k t267 t268 t269 t270).bind fun bt301 => (if (t278 == bt301.1 && (t279 == bt301.2.1 && (t280 == bt301.2.2.1 && (t281 == bt301.2.2.2)))) = true then ((tourkeep1_square.f t273 t274 t275 t276).bind fun t305 => ((tourkeep1_near.f t305 65536 8).bind fun t306 => (if t306 = true then ((tourkeep1_near.f t283 t287 4).bind fun t307 => (if t307 = true then ((tourkeep1_near.f t284 t288 4).bind fun t308 => (if t308 = true then ((tourkeep1_near.f t285 t289 4).bind fun t309 => (if t309 = true then ((tourkeep1_near.f t286 t290 4).bind fun t310 => (some t310)) else (none))) else (none))) else (none))) else (none)))) else ((quat_Unit.f k (wrap64 (-t267)) (wrap64 (-t268)) (wrap64 (-t269)) (wrap64 (-t270))).bind fun bt311 => (if (t278 == bt311.1 && (t279 == bt311.2.1 && (t280 == bt311.2.2.1 && (t281 == bt311.2.2.2)))) = true then ((tourkeep1_square.f t273 t274 t275 t276).bind fun t315 => ((tourkeep1_near.f t315 65536 8).bind fun t316 => (if t316 = true then ((tourkeep1_near.f t283 t287 4).bind fun t317 => (if t317 = true then ((tourkeep1_near.f t284 t288 4).bind fun t318 => (if t318 = true then ((tourkeep1_near.f t285 t289 4).bind fun t319 => (if t319 = true then ((tourkeep1_near.f t286 t290 4).bind fun t320 => (some t320)) else (none))) else (none))) else (none))) else (none)))) else (none))))) else (none)))) = some r := H
  have A11 := Aside0.mk A110
  clear A110
  replace H := Option.bind_eq_some_iff.mp H
  obtain ⟨⟨t293, t294, t295, t296⟩, A120, H⟩ := H
  replace H : ((quat_Unit.f k t263 t264 t265 t266).bind fun bt297 => (if (t293 == bt297.1 && (t294 == bt297.2.1 && (t295 == bt297.2.2.1 && (t296 == bt297.2.2.2)))) = true then ((quat_Unit.f k t267 t268 t269 t270).bind fun bt301 => (if (t278 == bt301.1 && (t279 == bt301.2.1 && (t280 == bt301.2.2.1 && (t281 == bt301.2.2.2)))) = true then ((tourkeep1_square.f t273 t274 t275 t276).bind fun t305 => ((tourkeep1_near.f t305 65536 8).bind fun t306 => (if t306 = true then ((tourkeep1_near.f t283 t287 4).bind fun t307 => (if t307 = true then ((tourkeep1_near.f t284 t288 4).bind fun t308 => (if t308 = true then ((tourkeep1_near.f t285 t289 4).bind fun t309 => (if t309 = true then ((tourkeep1_near.f t286 t290 4).bind fun t310 => (some t310)) else (none))) else (none))) else (none))) else (none)))) else ((quat_Unit.f k (wrap64 (-t267)) (wrap64 (-t268)) (wrap64 (-t269)) (wrap64 (-t270))).bind fun bt311 => (if (t278 == bt311.1 && (t279 == bt311.2.1 && (t280 == bt311.2.2.1 && (t281 == bt311.2.2.2)))) = true then ((tourkeep1_square.f t273 t274 t275 t276).bind fun t315 => ((tourkeep1_near.f t315 65536 8).bind fun t316 => (if t316 = true then ((tourkeep1_near.f t283 t287 4).bind fun t317 => (if t317 = true then ((tourkeep1_near.f t284 t288 4).bind fun t318 => (if t318 = true then ((tourkeep1_near.f t285 t289 4).bind fun t319 => (if t319 = true then ((tourkeep1_near.f t286 t290 4).bind fun t320 => (some t320)) else (none))) else (none))) else (none))) else (none)))) else (none))))) else (none))) = some r := H
  have A12 := Aside0.mk A120
  clear A120
  replace H := Option.bind_eq_some_iff.mp H
  obtain ⟨⟨t297, t298, t299, t300⟩, A130, H⟩ := H
  replace H : (if (t293 == t297 && (t294 == t298 && (t295 == t299 && (t296 == t300)))) = true then ((quat_Unit.f k t267 t268 t269 t270).bind fun bt301 => (if (t278 == bt301.1 && (t279 == bt301.2.1 && (t280 == bt301.2.2.1 && (t281 == bt301.2.2.2)))) = true then ((tourkeep1_square.f t273 t274 t275 t276).bind fun t305 => ((tourkeep1_near.f t305 65536 8).bind fun t306 => (if t306 = true then ((tourkeep1_near.f t283 t287 4).bind fun t307 => (if t307 = true then ((tourkeep1_near.f t284 t288 4).bind fun t308 => (if t308 = true then ((tourkeep1_near.f t285 t289 4).bind fun t309 => (if t309 = true then ((tourkeep1_near.f t286 t290 4).bind fun t310 => (some t310)) else (none))) else (none))) else (none))) else (none)))) else ((quat_Unit.f k (wrap64 (-t267)) (wrap64 (-t268)) (wrap64 (-t269)) (wrap64 (-t270))).bind fun bt311 => (if (t278 == bt311.1 && (t279 == bt311.2.1 && (t280 == bt311.2.2.1 && (t281 == bt311.2.2.2)))) = true then ((tourkeep1_square.f t273 t274 t275 t276).bind fun t315 => ((tourkeep1_near.f t315 65536 8).bind fun t316 => (if t316 = true then ((tourkeep1_near.f t283 t287 4).bind fun t317 => (if t317 = true then ((tourkeep1_near.f t284 t288 4).bind fun t318 => (if t318 = true then ((tourkeep1_near.f t285 t289 4).bind fun t319 => (if t319 = true then ((tourkeep1_near.f t286 t290 4).bind fun t320 => (some t320)) else (none))) else (none))) else (none))) else (none)))) else (none))))) else (none)) = some r := H
  have A13 := Aside0.mk A130
  clear A130
  have HH := Aside0.mk H
  clear H
  go_enter Try.func10, Try.ntmps10
  try go_wp2_with (first | ((with_reducible refine gate_dst (N := 3) rfl ?_); refine box_event ?hg (N := 3) ?hd (cs := #[.int .i64 a0_0, .int .i64 a0_1, .int .i64 a0_2, .int .i64 a0_3]) (t := 37) ?hr ?_; (case hd => rfl); (case hg => rfl); (case hr => first | (go_simp; done) | (go_simp; rfl)); intro gb260 hg w27 hbox hb; have n0_ := Aside0.mk (below_step (by repeat (first | (with_reducible first | exact HB.out | apply below_alloc | apply pw_below_drewN | apply below_drew1) | exact HB.out)) hb); have n1_ := Aside0.mk (hbox); have n2_ := Aside0.mk ((by rw [hg]; exact (below_size (by repeat (first | (with_reducible first | exact HB.out | apply below_alloc | apply pw_below_drewN | apply below_drew1) | exact HB.out))) : w.heap.size ≤ gb260)); have n3_ := Aside0.mk ((by rw [hg]; exact (below_size (by repeat (first | (with_reducible first | exact HB.out | apply below_alloc | apply pw_below_drewN | apply below_drew1) | exact HB.out))) : w.heap.size ≤ gb260)); clear HB; have HB := n0_; have BK260 := n1_; have GW260 := n2_; have GE260 := n3_; clear n0_ n1_ n2_ n3_; clear hb hbox hg) | ((with_reducible refine gate_dst (N := 4) rfl ?_); refine box_event ?hg (N := 4) ?hd (cs := #[.int .i64 a1_0, .int .i64 a1_1, .int .i64 a1_2, .int .i64 a1_3]) (t := 37) ?hr ?_; (case hd => rfl); (case hg => rfl); (case hr => first | (go_simp; done) | (go_simp; rfl)); intro gb261 hg w28 hbox hb; have n0_ := Aside0.mk (blk_below (g := gb260) (o := .cells #[.int .i64 a0_0, .int .i64 a0_1, .int .i64 a0_2, .int .i64 a0_3] 37 (0, 0)) (by (with_reducible repeat (first | refine blk_drewN ?_ _ | refine blk_drew ?_ | refine blk_alloc ?_ _)); exact BK260.out) hb); have n1_ := Aside0.mk (below_step (by repeat (first | (with_reducible first | exact HB.out | apply below_alloc | apply pw_below_drewN | apply below_drew1 | refine below_set ?_ GE260.out) | exact HB.out)) hb); have n2_ := Aside0.mk (hbox); have n3_ := Aside0.mk ((by rw [hg]; exact (below_size (by repeat (first | (with_reducible first | exact HB.out | apply below_alloc | apply pw_below_drewN | apply below_drew1 | refine below_set ?_ GE260.out) | exact HB.out))) : w.heap.size ≤ gb261)); have n4_ := Aside0.mk ((by rw [hg]; exact (below_size (by repeat (first | (with_reducible first | exact HB.out | apply below_alloc | apply pw_below_drewN | apply below_drew1 | refine below_set ?_ GE260.out) | exact HB.out))) : w.heap.size ≤ gb261)); have n5_ := Aside0.mk ((by rw [hg]; exact Nat.ne_of_lt (blk_lt (g := gb260) (o := .cells #[.int .i64 a0_0, .int .i64 a0_1, .int .i64 a0_2, .int .i64 a0_3] 37 (0, 0)) (by (with_reducible repeat (first | refine blk_drewN ?_ _ | refine blk_drew ?_ | refine blk_alloc ?_ _)); exact BK260.out)) : gb260 ≠ gb261)); have n6_ := Aside0.mk ((by rw [hg]; exact Nat.ne_of_gt (blk_lt (g := gb260) (o := .cells #[.int .i64 a0_0, .int .i64 a0_1, .int .i64 a0_2, .int .i64 a0_3] 37 (0, 0)) (by (with_reducible repeat (first | refine blk_drewN ?_ _ | refine blk_drew ?_ | refine blk_alloc ?_ _)); exact BK260.out)) : gb261 ≠ gb260)); clear BK260; clear HB; have BK260 := n0_; have HB := n1_; have BK261 := n2_; have GW261 := n3_; have GE261 := n4_; have NB260_261 := n5_; have NB261_260 := n6_; clear n0_ n1_ n2_ n3_ n4_ n5_ n6_; clear hb hbox hg) | ((with_reducible refine gate_callee (f := 28) rfl ?_); refine goesL_ (some 13) rfl rfl Try.func28 (by kernel_rfl) rfl #[] rfl (by (try simp only [List.map_toArray, List.map_cons, List.map_nil]); first | done | rfl | (simp only [List.length_drop, List.length_take]; rfl)) ?_; (with_reducible refine (tourkeep1_quatBegun.calls k  true _ A4.out).mono ?_); rintro e w29 ⟨rfl, hb⟩; refine ⟨_, rfl, ?_⟩; have n0_ := Aside0.mk (blk_below (g := gb260) (o := .cells #[.int .i64 a0_0, .int .i64 a0_1, .int .i64 a0_2, .int .i64 a0_3] 37 (0, 0)) (by (with_reducible repeat (first | refine blk_drewN ?_ _ | refine blk_drew ?_ | refine blk_alloc ?_ _)); exact BK260.out) hb); have n1_ := Aside0.mk (blk_below (g := gb261) (o := .cells #[.int .i64 a1_0, .int .i64 a1_1, .int .i64 a1_2, .int .i64 a1_3] 37 (0, 0)) (by (with_reducible repeat (first | refine blk_drewN ?_ _ | refine blk_drew ?_ | refine blk_alloc ?_ _)); exact BK261.out) hb); have n2_ := Aside0.mk (below_step (by repeat (first | (with_reducible first | exact HB.out | apply below_alloc | apply pw_below_drewN | apply below_drew1 | refine below_set ?_ GE260.out | refine below_set ?_ GE261.out) | exact HB.out)) hb); clear BK260; clear BK261; clear HB; have BK260 := n0_; have BK261 := n1_; have HB := n2_; clear n0_ n1_ n2_; (try clear hb); (try clear hb2); (try clear hk); (try clear hi)))
  have HK := Aside0.mk (show ∀ w', Below w29.heap.size w29 w' → w'.cell? ⟨gb260, 0, none⟩ = some (.int .i64 a0_0) ∧ w'.cell? ⟨gb260, 1, none⟩ = some (.int .i64 a0_1) ∧ w'.cell? ⟨gb260, 2, none⟩ = some (.int .i64 a0_2) ∧ w'.cell? ⟨gb260, 3, none⟩ = some (.int .i64 a0_3) ∧ w'.cell? ⟨gb261, 0, none⟩ = some (.int .i64 a1_0) ∧ w'.cell? ⟨gb261, 1, none⟩ = some (.int .i64 a1_1) ∧ w'.cell? ⟨gb261, 2, none⟩ = some (.int .i64 a1_2) ∧ w'.cell? ⟨gb261, 3, none⟩ = some (.int .i64 a1_3) ∧ Below w29.heap.size w29 w' from fun w' hb => ⟨(blk_cell (blk_below BK260.out hb) 0).trans rfl, (blk_cell (blk_below BK260.out hb) 1).trans rfl, (blk_cell (blk_below BK260.out hb) 2).trans rfl, (blk_cell (blk_below BK260.out hb) 3).trans rfl, (blk_cell (blk_below BK261.out hb) 0).trans rfl, (blk_cell (blk_below BK261.out hb) 1).trans rfl, (blk_cell (blk_below BK261.out hb) 2).trans rfl, (blk_cell (blk_below BK261.out hb) 3).trans rfl, hb⟩)
  go_cut [7, 8] (fun v7 v8 wc => ∃ g7 g8 : Nat, v7 = .pointer (some ⟨g7, 0, none⟩) ∧ v8 = .pointer (some ⟨g8, 0, none⟩) ∧ Aside0 (wc.heap[g7]? = some (.cells #[.int .i64 t263, .int .i64 t264, .int .i64 t265, .int .i64 t266] 39 (0, 0)) ∧ wc.heap[g8]? = some (.cells #[.int .i64 t267, .int .i64 t268, .int .i64 t269, .int .i64 t270] 39 (0, 0)) ∧ Below w29.heap.size w29 wc))
  case first =>
    go_region_held3 (fun w' => w'.cell? ⟨gb260, 0, none⟩ = some (.int .i64 a0_0) ∧ w'.cell? ⟨gb260, 1, none⟩ = some (.int .i64 a0_1) ∧ w'.cell? ⟨gb260, 2, none⟩ = some (.int .i64 a0_2) ∧ w'.cell? ⟨gb260, 3, none⟩ = some (.int .i64 a0_3) ∧ w'.cell? ⟨gb261, 0, none⟩ = some (.int .i64 a1_0) ∧ w'.cell? ⟨gb261, 1, none⟩ = some (.int .i64 a1_1) ∧ w'.cell? ⟨gb261, 2, none⟩ = some (.int .i64 a1_2) ∧ w'.cell? ⟨gb261, 3, none⟩ = some (.int .i64 a1_3) ∧ Below w29.heap.size w29 w')
      (exact HK.out _ (by with_reducible repeat (first | assumption | exact Below.refl _ _ | apply below_drew1 | apply pw_below_drewN | apply below_alloc | refine below_set ?_ HBp.size | refine below_set ?_ (Nat.le_succ_of_le HBp.size) | refine below_set ?_ HBq.size | refine below_set ?_ (Nat.le_succ_of_le HBq.size) | refine below_set ?_ (Nat.le_refl _) | refine below_set ?_ (Nat.le_succ _))))
      (first
        | (go_at_call 29; (with_reducible refine (tourkeep1_turner.calls k a0_0 a0_1 a0_2 a0_3 t263 t264 t265 t266 _ A6.out).mono ?_); rintro e w31 ⟨rfl, hb⟩; (first | (have p1 : w31.heap[w29.heap.size]? = some (.cells #[.int .i64 0, .int .i64 0, .int .i64 0, .int .i64 0] 39 (0, 0)) := (by first | exact blk_below (blk_drew (blk_alloc (blk_new w29 _) _)) hb | exact blk_below (blk_alloc (blk_new w29 _) _) hb); have p2 : w31.heap[w29.heap.size + 1]? = some (.cells #[.int .i64 0, .int .i64 0, .int .i64 0, .int .i64 0] 39 (0, 0)) := (by first | exact QB_2b (blk_below (blk_drew (blk_new (w29.alloc _) _)) hb) | exact QB_2b (blk_below (blk_new (w29.alloc _) _) hb)); obtain ⟨p1c0, p1c1, p1c2, p1c3, p1f0, p1f1, p1f2, p1f3⟩ := QB_facts p1; have p1l := blk_lt p1; have p1n := Nat.ne_of_lt (blk_lt p1); have p1m := Nat.ne_of_gt (blk_lt p1); obtain ⟨p2c0, p2c1, p2c2, p2c3, p2f0, p2f1, p2f2, p2f3⟩ := QB_facts p2; have p2l := blk_lt p2; have p2n := Nat.ne_of_lt (blk_lt p2); have p2m := Nat.ne_of_gt (blk_lt p2)) | (have p1 : w31.heap[w29.heap.size]? = some (.cells #[.int .i64 0, .int .i64 0, .int .i64 0, .int .i64 0] 39 (0, 0)) := (by first | exact blk_below (blk_drew (blk_new w29 _)) hb | exact blk_below (blk_new w29 _) hb); obtain ⟨p1c0, p1c1, p1c2, p1c3, p1f0, p1f1, p1f2, p1f3⟩ := QB_facts p1; have p1l := blk_lt p1; have p1n := Nat.ne_of_lt (blk_lt p1); have p1m := Nat.ne_of_gt (blk_lt p1)) | skip); have HBp : Below w29.heap.size w29 w31 := below_step (by with_reducible repeat (first | assumption | exact Below.refl _ _ | apply below_drew1 | apply pw_below_drewN | apply below_alloc | refine below_set ?_ HBp.size | refine below_set ?_ (Nat.le_succ_of_le HBp.size) | refine below_set ?_ HBq.size | refine below_set ?_ (Nat.le_succ_of_le HBq.size) | refine below_set ?_ (Nat.le_refl _) | refine below_set ?_ (Nat.le_succ _))) hb; have HXp := Aside0.mk hb; clear hb)
        | (go_at_call 29; (with_reducible refine (tourkeep1_turner.calls k a1_0 a1_1 a1_2 a1_3 t267 t268 t269 t270 _ A7.out).mono ?_); rintro e w32 ⟨rfl, hb⟩; (first | (have q1 : w32.heap[w31.heap.size]? = some (.cells #[.int .i64 0, .int .i64 0, .int .i64 0, .int .i64 0] 39 (0, 0)) := (by first | exact blk_below (blk_drew (blk_alloc (blk_new w31 _) _)) hb | exact blk_below (blk_alloc (blk_new w31 _) _) hb); have q2 : w32.heap[w31.heap.size + 1]? = some (.cells #[.int .i64 0, .int .i64 0, .int .i64 0, .int .i64 0] 39 (0, 0)) := (by first | exact QB_2b (blk_below (blk_drew (blk_new (w31.alloc _) _)) hb) | exact QB_2b (blk_below (blk_new (w31.alloc _) _) hb)); obtain ⟨q1c0, q1c1, q1c2, q1c3, q1f0, q1f1, q1f2, q1f3⟩ := QB_facts q1; have q1l := blk_lt q1; have q1n := Nat.ne_of_lt (blk_lt q1); have q1m := Nat.ne_of_gt (blk_lt q1); obtain ⟨q2c0, q2c1, q2c2, q2c3, q2f0, q2f1, q2f2, q2f3⟩ := QB_facts q2; have q2l := blk_lt q2; have q2n := Nat.ne_of_lt (blk_lt q2); have q2m := Nat.ne_of_gt (blk_lt q2)) | (have q1 : w32.heap[w31.heap.size]? = some (.cells #[.int .i64 0, .int .i64 0, .int .i64 0, .int .i64 0] 39 (0, 0)) := (by first | exact blk_below (blk_drew (blk_new w31 _)) hb | exact blk_below (blk_new w31 _) hb); obtain ⟨q1c0, q1c1, q1c2, q1c3, q1f0, q1f1, q1f2, q1f3⟩ := QB_facts q1; have q1l := blk_lt q1; have q1n := Nat.ne_of_lt (blk_lt q1); have q1m := Nat.ne_of_gt (blk_lt q1)) | skip); (try (have q3 : w32.heap[w29.heap.size]? = some (.cells #[.int .i64 0, .int .i64 0, .int .i64 0, .int .i64 0] 39 (0, 0)) := (by first | exact blk_below p1 hb | exact blk_below (blk_alloc p1 _) hb | exact blk_below (blk_alloc (blk_alloc p1 _) _) hb); obtain ⟨q3c0, q3c1, q3c2, q3c3, q3f0, q3f1, q3f2, q3f3⟩ := QB_facts q3; have q3l := blk_lt q3; have q3n := Nat.ne_of_lt (blk_lt q3); have q3m := Nat.ne_of_gt (blk_lt q3))); (try (have q4 : w32.heap[w29.heap.size + 1]? = some (.cells #[.int .i64 0, .int .i64 0, .int .i64 0, .int .i64 0] 39 (0, 0)) := (by first | exact blk_below p2 hb | exact blk_below (blk_alloc p2 _) hb | exact blk_below (blk_alloc (blk_alloc p2 _) _) hb); obtain ⟨q4c0, q4c1, q4c2, q4c3, q4f0, q4f1, q4f2, q4f3⟩ := QB_facts q4; have q4l := blk_lt q4; have q4n := Nat.ne_of_lt (blk_lt q4); have q4m := Nat.ne_of_gt (blk_lt q4))); have HBq : Below w29.heap.size w29 w32 := below_step (by with_reducible repeat (first | assumption | exact Below.refl _ _ | apply below_drew1 | apply pw_below_drewN | apply below_alloc | refine below_set ?_ HBp.size | refine below_set ?_ (Nat.le_succ_of_le HBp.size) | refine below_set ?_ HBq.size | refine below_set ?_ (Nat.le_succ_of_le HBq.size) | refine below_set ?_ (Nat.le_refl _) | refine below_set ?_ (Nat.le_succ _))) hb; have HXq := Aside0.mk hb; clear hb))
    all_goals (go_wp2; go_meet)
    all_goals (refine ⟨_, _, rfl, rfl, ⟨?_, ?_, ?_⟩⟩)
    all_goals (try (with_reducible exact blk_new _ _))
    all_goals (try (with_reducible exact QB_new2))
    all_goals (try (with_reducible exact QB_new4))
    all_goals (try (with_reducible refine blk_alloc ?_ _))
    all_goals (try (with_reducible exact blk_new _ _))
    all_goals (try (with_reducible refine QB_put4 ?_))
    all_goals (try (with_reducible assumption))
    all_goals (try (with_reducible refine QB_far4a ?_))
    all_goals (try (with_reducible refine QB_far4b ?_))
    all_goals (try (with_reducible refine QB_far4 (by with_reducible assumption) ?_))
    all_goals (try (with_reducible refine QB_put4 ?_))
    all_goals (try (with_reducible assumption))
    all_goals (with_reducible repeat (first | exact HBq | exact Below.refl _ _ | apply below_drew1 | apply pw_below_drewN | apply below_alloc | refine below_set ?_ HBp.size | refine below_set ?_ (Nat.le_succ_of_le HBp.size) | refine below_set ?_ HBq.size | refine below_set ?_ (Nat.le_succ_of_le HBq.size) | refine below_set ?_ (Nat.le_refl _) | refine below_set ?_ (Nat.le_succ _)))
  obtain ⟨gb271, gb272, rfl, rfl, HC⟩ := hcut
  obtain ⟨w4, hw4⟩ : ∃ W, wc = W := ⟨_, rfl⟩
  subst hw4
  have BK271 := Aside0.mk HC.out.1
  have BK272 := Aside0.mk HC.out.2.1
  have HB := Aside0.mk (below_step HB.out HC.out.2.2)
  clear HC HK BK260 BK261
  obtain ⟨x0, x1, x2, x3, _, _, _, _⟩ := QB_facts BK271.out
  obtain ⟨y0, y1, y2, y3, _, _, _, _⟩ := QB_facts BK272.out
  go_wp2_with (fail)
  with_reducible refine (quat_Blend.calls k t263 t264 t265 t266 t267 t268 t269 t270 a2 t273 t274 t275 t276 _ A8.out).mono ?_
  rintro e w5 ⟨rfl, hb⟩
  clear x0 x1 x2 x3 y0 y1 y2 y3
  have BK271 := Aside0.mk (blk_below BK271.out hb)
  have BK272 := Aside0.mk (blk_below BK272.out hb)
  have HB := Aside0.mk (below_step HB.out hb)
  clear hb
  obtain ⟨x0, x1, x2, x3, _, _, _, _⟩ := QB_facts BK271.out
  obtain ⟨y0, y1, y2, y3, _, _, _, _⟩ := QB_facts BK272.out
  have xl := blk_lt BK271.out
  have yl := blk_lt BK272.out
  go_wp2_with (fail)
  with_reducible refine (quat_Blend.calls k t263 t264 t265 t266 t267 t268 t269 t270 65536 t278 t279 t280 t281 _ A9.out).mono ?_
  rintro e w6 ⟨rfl, hb⟩
  clear x0 x1 x2 x3 y0 y1 y2 y3 xl yl
  have BK271 := Aside0.mk (blk_below (blk_alloc BK271.out _) hb)
  have BK272 := Aside0.mk (blk_below (blk_alloc BK272.out _) hb)
  have BK277 := Aside0.mk (blk_below (blk_new w5 _) hb)
  have HB := Aside0.mk (below_step (below_alloc HB.out _) hb)
  clear hb
  obtain ⟨gb277, hg⟩ : ∃ g, w5.heap.size = g := ⟨_, rfl⟩
  rw [hg] at BK277 ⊢
  clear hg
  go_upto_region 6 with (fail)
  have BK271 := Aside0.mk (blk_alloc BK271.out (.cells #[.int .i64 t278, .int .i64 t279, .int .i64 t280, .int .i64 t281] 39))
  have BK272 := Aside0.mk (blk_alloc BK272.out (.cells #[.int .i64 t278, .int .i64 t279, .int .i64 t280, .int .i64 t281] 39))
  have BK277 := Aside0.mk (blk_alloc BK277.out (.cells #[.int .i64 t278, .int .i64 t279, .int .i64 t280, .int .i64 t281] 39))
  have BK282 := Aside0.mk (blk_new w6 (.cells #[.int .i64 t278, .int .i64 t279, .int .i64 t280, .int .i64 t281] 39))
  have HB := Aside0.mk (below_alloc HB.out (.cells #[.int .i64 t278, .int .i64 t279, .int .i64 t280, .int .i64 t281] 39))
  obtain ⟨gb282, hg⟩ : ∃ g, w6.heap.size = g := ⟨_, rfl⟩
  rw [hg] at BK282 ⊢
  clear hg
  obtain ⟨w7, hw⟩ : ∃ W, w6.alloc (.cells #[.int .i64 t278, .int .i64 t279, .int .i64 t280, .int .i64 t281] 39) = W := ⟨_, rfl⟩
  rw [hw] at BK271 BK272 BK277 BK282 HB ⊢
  clear hw
  have HK := Aside0.mk (show ∀ w', Below w7.heap.size w7 w' → w'.cell? ⟨gb271, 0, none⟩ = some (.int .i64 t263) ∧ w'.cell? ⟨gb271, 1, none⟩ = some (.int .i64 t264) ∧ w'.cell? ⟨gb271, 2, none⟩ = some (.int .i64 t265) ∧ w'.cell? ⟨gb271, 3, none⟩ = some (.int .i64 t266) ∧ Below w7.heap.size w7 w' from fun w' hb => ⟨(blk_cell (blk_below BK271.out hb) 0).trans rfl, (blk_cell (blk_below BK271.out hb) 1).trans rfl, (blk_cell (blk_below BK271.out hb) 2).trans rfl, (blk_cell (blk_below BK271.out hb) 3).trans rfl, hb⟩)
  go_cut [11, 12] (fun v11 v12 wc => ∃ g11 g12 : Nat, v11 = .pointer (some ⟨g11, 0, none⟩) ∧ v12 = .pointer (some ⟨g12, 0, none⟩) ∧ Aside0 (wc.heap[g11]? = some (.cells #[.int .i64 t283, .int .i64 t284, .int .i64 t285, .int .i64 t286] 39 (0, 0)) ∧ wc.heap[g12]? = some (.cells #[.int .i64 t287, .int .i64 t288, .int .i64 t289, .int .i64 t290] 39 (0, 0)) ∧ Below w7.heap.size w7 wc))
  case first =>
    go_region_held3 (fun w' => w'.cell? ⟨gb271, 0, none⟩ = some (.int .i64 t263) ∧ w'.cell? ⟨gb271, 1, none⟩ = some (.int .i64 t264) ∧ w'.cell? ⟨gb271, 2, none⟩ = some (.int .i64 t265) ∧ w'.cell? ⟨gb271, 3, none⟩ = some (.int .i64 t266) ∧ Below w7.heap.size w7 w')
      (exact HK.out _ (by with_reducible repeat (first | assumption | exact Below.refl _ _ | apply below_drew1 | apply pw_below_drewN | apply below_alloc | refine below_set ?_ HBp.size | refine below_set ?_ (Nat.le_succ_of_le HBp.size) | refine below_set ?_ HBq.size | refine below_set ?_ (Nat.le_succ_of_le HBq.size) | refine below_set ?_ (Nat.le_refl _) | refine below_set ?_ (Nat.le_succ _))))
      (first
        | (go_at_call 36; (with_reducible refine (quat_Blend.calls k t263 t264 t265 t266 t263 t264 t265 t266 a2 t283 t284 t285 t286 _ A10.out).mono ?_); rintro e w31 ⟨rfl, hb⟩; (first | (have p1 : w31.heap[w7.heap.size]? = some (.cells #[.int .i64 0, .int .i64 0, .int .i64 0, .int .i64 0] 39 (0, 0)) := (by first | exact blk_below (blk_drew (blk_alloc (blk_new w7 _) _)) hb | exact blk_below (blk_alloc (blk_new w7 _) _) hb); have p2 : w31.heap[w7.heap.size + 1]? = some (.cells #[.int .i64 0, .int .i64 0, .int .i64 0, .int .i64 0] 39 (0, 0)) := (by first | exact QB_2b (blk_below (blk_drew (blk_new (w7.alloc _) _)) hb) | exact QB_2b (blk_below (blk_new (w7.alloc _) _) hb)); obtain ⟨p1c0, p1c1, p1c2, p1c3, p1f0, p1f1, p1f2, p1f3⟩ := QB_facts p1; have p1l := blk_lt p1; have p1n := Nat.ne_of_lt (blk_lt p1); have p1m := Nat.ne_of_gt (blk_lt p1); obtain ⟨p2c0, p2c1, p2c2, p2c3, p2f0, p2f1, p2f2, p2f3⟩ := QB_facts p2; have p2l := blk_lt p2; have p2n := Nat.ne_of_lt (blk_lt p2); have p2m := Nat.ne_of_gt (blk_lt p2)) | (have p1 : w31.heap[w7.heap.size]? = some (.cells #[.int .i64 0, .int .i64 0, .int .i64 0, .int .i64 0] 39 (0, 0)) := (by first | exact blk_below (blk_drew (blk_new w7 _)) hb | exact blk_below (blk_new w7 _) hb); obtain ⟨p1c0, p1c1, p1c2, p1c3, p1f0, p1f1, p1f2, p1f3⟩ := QB_facts p1; have p1l := blk_lt p1; have p1n := Nat.ne_of_lt (blk_lt p1); have p1m := Nat.ne_of_gt (blk_lt p1)) | skip); have HBp : Below w7.heap.size w7 w31 := below_step (by with_reducible repeat (first | assumption | exact Below.refl _ _ | apply below_drew1 | apply pw_below_drewN | apply below_alloc | refine below_set ?_ HBp.size | refine below_set ?_ (Nat.le_succ_of_le HBp.size) | refine below_set ?_ HBq.size | refine below_set ?_ (Nat.le_succ_of_le HBq.size) | refine below_set ?_ (Nat.le_refl _) | refine below_set ?_ (Nat.le_succ _))) hb; have HXp := Aside0.mk hb; clear hb)
        | (go_at_call 37; (with_reducible refine (quat_Unit.calls k t263 t264 t265 t266 t287 t288 t289 t290 _ A11.out).mono ?_); rintro e w32 ⟨rfl, hb⟩; (first | (have q1 : w32.heap[w31.heap.size]? = some (.cells #[.int .i64 0, .int .i64 0, .int .i64 0, .int .i64 0] 39 (0, 0)) := (by first | exact blk_below (blk_drew (blk_alloc (blk_new w31 _) _)) hb | exact blk_below (blk_alloc (blk_new w31 _) _) hb); have q2 : w32.heap[w31.heap.size + 1]? = some (.cells #[.int .i64 0, .int .i64 0, .int .i64 0, .int .i64 0] 39 (0, 0)) := (by first | exact QB_2b (blk_below (blk_drew (blk_new (w31.alloc _) _)) hb) | exact QB_2b (blk_below (blk_new (w31.alloc _) _) hb)); obtain ⟨q1c0, q1c1, q1c2, q1c3, q1f0, q1f1, q1f2, q1f3⟩ := QB_facts q1; have q1l := blk_lt q1; have q1n := Nat.ne_of_lt (blk_lt q1); have q1m := Nat.ne_of_gt (blk_lt q1); obtain ⟨q2c0, q2c1, q2c2, q2c3, q2f0, q2f1, q2f2, q2f3⟩ := QB_facts q2; have q2l := blk_lt q2; have q2n := Nat.ne_of_lt (blk_lt q2); have q2m := Nat.ne_of_gt (blk_lt q2)) | (have q1 : w32.heap[w31.heap.size]? = some (.cells #[.int .i64 0, .int .i64 0, .int .i64 0, .int .i64 0] 39 (0, 0)) := (by first | exact blk_below (blk_drew (blk_new w31 _)) hb | exact blk_below (blk_new w31 _) hb); obtain ⟨q1c0, q1c1, q1c2, q1c3, q1f0, q1f1, q1f2, q1f3⟩ := QB_facts q1; have q1l := blk_lt q1; have q1n := Nat.ne_of_lt (blk_lt q1); have q1m := Nat.ne_of_gt (blk_lt q1)) | skip); (try (have q3 : w32.heap[w7.heap.size]? = some (.cells #[.int .i64 0, .int .i64 0, .int .i64 0, .int .i64 0] 39 (0, 0)) := (by first | exact blk_below p1 hb | exact blk_below (blk_alloc p1 _) hb | exact blk_below (blk_alloc (blk_alloc p1 _) _) hb); obtain ⟨q3c0, q3c1, q3c2, q3c3, q3f0, q3f1, q3f2, q3f3⟩ := QB_facts q3; have q3l := blk_lt q3; have q3n := Nat.ne_of_lt (blk_lt q3); have q3m := Nat.ne_of_gt (blk_lt q3))); (try (have q4 : w32.heap[w7.heap.size + 1]? = some (.cells #[.int .i64 0, .int .i64 0, .int .i64 0, .int .i64 0] 39 (0, 0)) := (by first | exact blk_below p2 hb | exact blk_below (blk_alloc p2 _) hb | exact blk_below (blk_alloc (blk_alloc p2 _) _) hb); obtain ⟨q4c0, q4c1, q4c2, q4c3, q4f0, q4f1, q4f2, q4f3⟩ := QB_facts q4; have q4l := blk_lt q4; have q4n := Nat.ne_of_lt (blk_lt q4); have q4m := Nat.ne_of_gt (blk_lt q4))); have HBq : Below w7.heap.size w7 w32 := below_step (by with_reducible repeat (first | assumption | exact Below.refl _ _ | apply below_drew1 | apply pw_below_drewN | apply below_alloc | refine below_set ?_ HBp.size | refine below_set ?_ (Nat.le_succ_of_le HBp.size) | refine below_set ?_ HBq.size | refine below_set ?_ (Nat.le_succ_of_le HBq.size) | refine below_set ?_ (Nat.le_refl _) | refine below_set ?_ (Nat.le_succ _))) hb; have HXq := Aside0.mk hb; clear hb))
    all_goals (go_wp2; go_meet)
    all_goals (refine ⟨_, _, rfl, rfl, ⟨?_, ?_, ?_⟩⟩)
    all_goals (try (with_reducible exact blk_new _ _))
    all_goals (try (with_reducible exact QB_new2))
    all_goals (try (with_reducible exact QB_new4))
    all_goals (try (with_reducible refine blk_alloc ?_ _))
    all_goals (try (with_reducible exact blk_new _ _))
    all_goals (try (with_reducible refine QB_put4 ?_))
    all_goals (try (with_reducible assumption))
    all_goals (try (with_reducible refine QB_far4a ?_))
    all_goals (try (with_reducible refine QB_far4b ?_))
    all_goals (try (with_reducible refine QB_far4 (by with_reducible assumption) ?_))
    all_goals (try (with_reducible refine QB_put4 ?_))
    all_goals (try (with_reducible assumption))
    all_goals (with_reducible repeat (first | exact HBq | exact Below.refl _ _ | apply below_drew1 | apply pw_below_drewN | apply below_alloc | refine below_set ?_ HBp.size | refine below_set ?_ (Nat.le_succ_of_le HBp.size) | refine below_set ?_ HBq.size | refine below_set ?_ (Nat.le_succ_of_le HBq.size) | refine below_set ?_ (Nat.le_refl _) | refine below_set ?_ (Nat.le_succ _)))
  obtain ⟨gb291, gb292, rfl, rfl, HC⟩ := hcut
  go_wp2
  have BK271 := Aside0.mk (blk_drew (blk_below BK271.out HC.out.2.2))
  have BK272 := Aside0.mk (blk_drew (blk_below BK272.out HC.out.2.2))
  have BK277 := Aside0.mk (blk_drew (blk_below BK277.out HC.out.2.2))
  have BK282 := Aside0.mk (blk_drew (blk_below BK282.out HC.out.2.2))
  have BK291 := Aside0.mk (blk_drew HC.out.1)
  have BK292 := Aside0.mk (blk_drew HC.out.2.1)
  have HB := Aside0.mk (below_drew1 (below_step HB.out HC.out.2.2))
  clear HC HK
  have H := HH.out
  clear HH
  by_cases c14 : (t293 == t297 && (t294 == t298 && (t295 == t299 && (t296 == t300)))) = true
  ·
   rw [if_pos c14] at H
   have c14b0 : (t293 == t297 && (t294 == t298 && (t295 == t299 && (t296 == t300)))) = true := c14
   (try (have c14b1 : decide (t293 = t297 && (t294 == t298 && (t295 == t299 && (t296 == t300)))) = true := by simpa using c14))
   (try (have c14b2 : (t293 == t297 && (t294 == t298 && (t295 == t299 && (t296 == t300)))) = true := by simpa using c14))
   clear c14
   replace H := Option.bind_eq_some_iff.mp H
   obtain ⟨⟨t301, t302, t303, t304⟩, A150, H⟩ := H
   replace H : (if (t278 == t301 && (t279 == t302 && (t280 == t303 && (t281 == t304)))) = true then ((tourkeep1_square.f t273 t274 t275 t276).bind fun t305 => ((tourkeep1_near.f t305 65536 8).bind fun t306 => (if t306 = true then ((tourkeep1_near.f t283 t287 4).bind fun t307 => (if t307 = true then ((tourkeep1_near.f t284 t288 4).bind fun t308 => (if t308 = true then ((tourkeep1_near.f t285 t289 4).bind fun t309 => (if t309 = true then ((tourkeep1_near.f t286 t290 4).bind fun t310 => (some t310)) else (none))) else (none))) else (none))) else (none)))) else ((quat_Unit.f k (wrap64 (-t267)) (wrap64 (-t268)) (wrap64 (-t269)) (wrap64 (-t270))).bind fun bt311 => (if (t278 == bt311.1 && (t279 == bt311.2.1 && (t280 == bt311.2.2.1 && (t281 == bt311.2.2.2)))) = true then ((tourkeep1_square.f t273 t274 t275 t276).bind fun t315 => ((tourkeep1_near.f t315 65536 8).bind fun t316 => (if t316 = true then ((tourkeep1_near.f t283 t287 4).bind fun t317 => (if t317 = true then ((tourkeep1_near.f t284 t288 4).bind fun t318 => (if t318 = true then ((tourkeep1_near.f t285 t289 4).bind fun t319 => (if t319 = true then ((tourkeep1_near.f t286 t290 4).bind fun t320 => (some t320)) else (none))) else (none))) else (none))) else (none)))) else (none)))) = some r := H
   have A15 := Aside0.mk A150
   clear A150
   by_cases c16 : (t278 == t301 && (t279 == t302 && (t280 == t303 && (t281 == t304)))) = true
   ·
    rw [if_pos c16] at H
    have c16b0 : (t278 == t301 && (t279 == t302 && (t280 == t303 && (t281 == t304)))) = true := c16
    (try (have c16b1 : decide (t278 = t301 && (t279 == t302 && (t280 == t303 && (t281 == t304)))) = true := by simpa using c16))
    (try (have c16b2 : (t278 == t301 && (t279 == t302 && (t280 == t303 && (t281 == t304)))) = true := by simpa using c16))
    clear c16
    replace H := Option.bind_eq_some_iff.mp H
    obtain ⟨t305, A170, H⟩ := H
    replace H : ((tourkeep1_near.f t305 65536 8).bind fun t306 => (if t306 = true then ((tourkeep1_near.f t283 t287 4).bind fun t307 => (if t307 = true then ((tourkeep1_near.f t284 t288 4).bind fun t308 => (if t308 = true then ((tourkeep1_near.f t285 t289 4).bind fun t309 => (if t309 = true then ((tourkeep1_near.f t286 t290 4).bind fun t310 => (some t310)) else (none))) else (none))) else (none))) else (none))) = some r := H
    have A17 := Aside0.mk A170
    clear A170
    replace H := Option.bind_eq_some_iff.mp H
    obtain ⟨t306, A180, H⟩ := H
    replace H : (if t306 = true then ((tourkeep1_near.f t283 t287 4).bind fun t307 => (if t307 = true then ((tourkeep1_near.f t284 t288 4).bind fun t308 => (if t308 = true then ((tourkeep1_near.f t285 t289 4).bind fun t309 => (if t309 = true then ((tourkeep1_near.f t286 t290 4).bind fun t310 => (some t310)) else (none))) else (none))) else (none))) else (none)) = some r := H
    have A18 := Aside0.mk A180
    clear A180
    by_cases c19 : t306 = true
    ·
     subst c19
     have H1 : ((tourkeep1_near.f t283 t287 4).bind fun t307 => (if t307 = true then ((tourkeep1_near.f t284 t288 4).bind fun t308 => (if t308 = true then ((tourkeep1_near.f t285 t289 4).bind fun t309 => (if t309 = true then ((tourkeep1_near.f t286 t290 4).bind fun t310 => (some t310)) else (none))) else (none))) else (none))) = some r := by rw [if_pos rfl] at H; exact H
     clear H
     have H := H1
     clear H1
     replace H := Option.bind_eq_some_iff.mp H
     obtain ⟨t307, A200, H⟩ := H
     replace H : (if t307 = true then ((tourkeep1_near.f t284 t288 4).bind fun t308 => (if t308 = true then ((tourkeep1_near.f t285 t289 4).bind fun t309 => (if t309 = true then ((tourkeep1_near.f t286 t290 4).bind fun t310 => (some t310)) else (none))) else (none))) else (none)) = some r := H
     have A20 := Aside0.mk A200
     clear A200
     by_cases c21 : t307 = true
     ·
      subst c21
      have H1 : ((tourkeep1_near.f t284 t288 4).bind fun t308 => (if t308 = true then ((tourkeep1_near.f t285 t289 4).bind fun t309 => (if t309 = true then ((tourkeep1_near.f t286 t290 4).bind fun t310 => (some t310)) else (none))) else (none))) = some r := by rw [if_pos rfl] at H; exact H
      clear H
      have H := H1
      clear H1
      replace H := Option.bind_eq_some_iff.mp H
      obtain ⟨t308, A220, H⟩ := H
      replace H : (if t308 = true then ((tourkeep1_near.f t285 t289 4).bind fun t309 => (if t309 = true then ((tourkeep1_near.f t286 t290 4).bind fun t310 => (some t310)) else (none))) else (none)) = some r := H
      have A22 := Aside0.mk A220
      clear A220
      by_cases c23 : t308 = true
      ·
       subst c23
       have H1 : ((tourkeep1_near.f t285 t289 4).bind fun t309 => (if t309 = true then ((tourkeep1_near.f t286 t290 4).bind fun t310 => (some t310)) else (none))) = some r := by rw [if_pos rfl] at H; exact H
       clear H
       have H := H1
       clear H1
       replace H := Option.bind_eq_some_iff.mp H
       obtain ⟨t309, A240, H⟩ := H
       replace H : (if t309 = true then ((tourkeep1_near.f t286 t290 4).bind fun t310 => (some t310)) else (none)) = some r := H
       have A24 := Aside0.mk A240
       clear A240
       by_cases c25 : t309 = true
       ·
        subst c25
        have H1 : ((tourkeep1_near.f t286 t290 4).bind fun t310 => (some t310)) = some r := by rw [if_pos rfl] at H; exact H
        clear H
        have H := H1
        clear H1
        replace H := Option.bind_eq_some_iff.mp H
        obtain ⟨t310, A260, H⟩ := H
        replace H : (some t310) = some r := H
        have A26 := Aside0.mk A260
        clear A260
        obtain rfl := Option.some.inj H
        refine start_ (n := 64) (S := fun w' => w'.cell? ⟨gb271, 0, none⟩ = some (.int .i64 t263) ∧ w'.cell? ⟨gb271, 1, none⟩ = some (.int .i64 t264) ∧ w'.cell? ⟨gb271, 2, none⟩ = some (.int .i64 t265) ∧ w'.cell? ⟨gb271, 3, none⟩ = some (.int .i64 t266) ∧ w'.cell? ⟨gb272, 0, none⟩ = some (.int .i64 t267) ∧ w'.cell? ⟨gb272, 1, none⟩ = some (.int .i64 t268) ∧ w'.cell? ⟨gb272, 2, none⟩ = some (.int .i64 t269) ∧ w'.cell? ⟨gb272, 3, none⟩ = some (.int .i64 t270) ∧ w'.cell? ⟨gb282, 0, none⟩ = some (.int .i64 t278) ∧ w'.cell? ⟨gb282, 1, none⟩ = some (.int .i64 t279) ∧ w'.cell? ⟨gb282, 2, none⟩ = some (.int .i64 t280) ∧ w'.cell? ⟨gb282, 3, none⟩ = some (.int .i64 t281) ∧ w'.cell? ⟨gb277, 0, none⟩ = some (.int .i64 t273) ∧ w'.cell? ⟨gb277, 1, none⟩ = some (.int .i64 t274) ∧ w'.cell? ⟨gb277, 2, none⟩ = some (.int .i64 t275) ∧ w'.cell? ⟨gb277, 3, none⟩ = some (.int .i64 t276) ∧ w'.cell? ⟨gb291, 0, none⟩ = some (.int .i64 t283) ∧ w'.cell? ⟨gb291, 1, none⟩ = some (.int .i64 t284) ∧ w'.cell? ⟨gb291, 2, none⟩ = some (.int .i64 t285) ∧ w'.cell? ⟨gb291, 3, none⟩ = some (.int .i64 t286) ∧ w'.cell? ⟨gb292, 0, none⟩ = some (.int .i64 t287) ∧ w'.cell? ⟨gb292, 1, none⟩ = some (.int .i64 t288) ∧ w'.cell? ⟨gb292, 2, none⟩ = some (.int .i64 t289) ∧ w'.cell? ⟨gb292, 3, none⟩ = some (.int .i64 t290)) (ds := []) (List.toArray (nq :: [nq,nq,nq,nq,nq,nq,nq,nq,nq,nq,nq,nq,nq,nq,nq,nq,nq,nq,nq,nq,nq,nq,nq,nq,nq,nq,nq,nq,nq,nq,nq,nq,nq,nq,nq,nq,nq,nq,nq,nq,nq,nq,nq,nq,nq,nq,nq,nq,nq,nq,nq,nq,nq,nq,nq,nq,nq,nq,nq,nq,nq,nq,nq])) (by kernel_rfl) rfl rfl ⟨(blk_cell BK271.out 0).trans rfl, (blk_cell BK271.out 1).trans rfl, (blk_cell BK271.out 2).trans rfl, (blk_cell BK271.out 3).trans rfl, (blk_cell BK272.out 0).trans rfl, (blk_cell BK272.out 1).trans rfl, (blk_cell BK272.out 2).trans rfl, (blk_cell BK272.out 3).trans rfl, (blk_cell BK282.out 0).trans rfl, (blk_cell BK282.out 1).trans rfl, (blk_cell BK282.out 2).trans rfl, (blk_cell BK282.out 3).trans rfl, (blk_cell BK277.out 0).trans rfl, (blk_cell BK277.out 1).trans rfl, (blk_cell BK277.out 2).trans rfl, (blk_cell BK277.out 3).trans rfl, (blk_cell BK291.out 0).trans rfl, (blk_cell BK291.out 1).trans rfl, (blk_cell BK291.out 2).trans rfl, (blk_cell BK291.out 3).trans rfl, (blk_cell BK292.out 0).trans rfl, (blk_cell BK292.out 1).trans rfl, (blk_cell BK292.out 2).trans rfl, (blk_cell BK292.out 3).trans rfl⟩ (fun hHeld => ?_); refine with_tabW tourkeep1_QuatBlends.tab7 tourkeep1_QuatBlends.bits7 (fun HT_ HW_ => ?_)
        generalize wc.drew = w84 at BK271 BK272 BK277 BK282 BK291 BK292 HB hHeld ⊢
        refine take_ (i := 0) (N := some 32) (v := ?_) (a' := ?_) (List.toArray (yq :: [nq,nq,nq,nq,nq,nq,nq,nq,nq,nq,nq,nq,nq,nq,nq,nq,nq,nq,nq,nq,nq,nq,nq,nq,nq,nq,nq,nq,nq,nq,nq,nq,nq,nq,nq,nq,nq,nq,nq,nq,nq,nq,nq,nq,nq,nq,nq,nq,nq,nq,nq,nq,nq,nq,nq,nq,nq,nq,nq,nq,nq,nq,nq])) rfl rfl (take_ofW HT_.out HW_.out (by kernel_rfl)) (fun _ _ _ h => h) (Or.inl ⟨by rfl, ?_⟩) hHeld ?_ ?_
        rotate_left
        ·
         rintro w' ⟨s0, s1, s2, s3, s4, s5, s6, s7, s8, s9, s10, s11, s12, s13, s14, s15, s16, s17, s18, s19, s20, s21, s22, s23⟩
         go_simp
         with_reducible rfl
        rotate_left
        ·
         simp only [Act.put, List.setIfInBounds_toArray, List.set_cons_zero, List.set_cons_succ, i64_w, i32_w]
         rfl
        refine take_ (i := 1) (N := some 33) (v := ?_) (a' := ?_) (List.toArray (yq :: [yq,nq,nq,nq,nq,nq,nq,nq,nq,nq,nq,nq,nq,nq,nq,nq,nq,nq,nq,nq,nq,nq,nq,nq,nq,nq,nq,nq,nq,nq,nq,nq,nq,nq,nq,nq,nq,nq,nq,nq,nq,nq,nq,nq,nq,nq,nq,nq,nq,nq,nq,nq,nq,nq,nq,nq,nq,nq,nq,nq,nq,nq,nq])) rfl rfl (take_ofW HT_.out HW_.out (by kernel_rfl)) (fun _ _ _ h => h) (Or.inl ⟨by rfl, ?_⟩) hHeld ?_ ?_
        rotate_left
        ·
         rintro w' ⟨s0, s1, s2, s3, s4, s5, s6, s7, s8, s9, s10, s11, s12, s13, s14, s15, s16, s17, s18, s19, s20, s21, s22, s23⟩
         go_simp
         with_reducible rfl
        rotate_left
        ·
         simp only [Act.put, List.setIfInBounds_toArray, List.set_cons_zero, List.set_cons_succ, i64_w, i32_w]
         rfl
        refine take_ (i := 3) (N := some 35) (v := ?_) (a' := ?_) (List.toArray (yq :: [yq,nq,yq,nq,nq,nq,nq,nq,nq,nq,nq,nq,nq,nq,nq,nq,nq,nq,nq,nq,nq,nq,nq,nq,nq,nq,nq,nq,nq,nq,nq,nq,nq,nq,nq,nq,nq,nq,nq,nq,nq,nq,nq,nq,nq,nq,nq,nq,nq,nq,nq,nq,nq,nq,nq,nq,nq,nq,nq,nq,nq,nq,nq])) rfl rfl (take_ofW HT_.out HW_.out (by kernel_rfl)) (fun _ _ _ h => h) (Or.inl ⟨by rfl, ?_⟩) hHeld ?_ ?_
        rotate_left
        ·
         rintro w' ⟨s0, s1, s2, s3, s4, s5, s6, s7, s8, s9, s10, s11, s12, s13, s14, s15, s16, s17, s18, s19, s20, s21, s22, s23⟩
         go_simp
         with_reducible rfl
        rotate_left
        ·
         simp only [Act.put, List.setIfInBounds_toArray, List.set_cons_zero, List.set_cons_succ, i64_w, i32_w]
         rfl
        refine one_ (i := 2) (N := some 34) (List.toArray (yq :: [yq,yq,yq,nq,nq,nq,nq,nq,nq,nq,nq,nq,nq,nq,nq,nq,nq,nq,nq,nq,nq,nq,nq,nq,nq,nq,nq,nq,nq,nq,nq,nq,nq,nq,nq,nq,nq,nq,nq,nq,nq,nq,nq,nq,nq,nq,nq,nq,nq,nq,nq,nq,nq,nq,nq,nq,nq,nq,nq,nq,nq,nq,nq])) rfl rfl (one_of HT_.out (by kernel_rfl)) (by decide) (fun K hK => ?_)
        refine goes_ Try.func36 (by kernel_rfl) rfl #[.agg #[.int .i64 t263, .int .i64 t264, .int .i64 t265, .int .i64 t266], .agg #[.int .i64 t267, .int .i64 t268, .int .i64 t269, .int .i64 t270], .int .i64 0] (by rfl) rfl rfl (by (try simp only [List.map_toArray, List.map_cons, List.map_nil]); first | done | rfl | (simp only [List.length_drop, List.length_take]; rfl)) ?_
        with_reducible refine (quat_Blend.calls k t263 t264 t265 t266 t267 t268 t269 t270 0 t293 t294 t295 t296 _ A12.out).mono ?_
        rintro e w85 ⟨rfl, hb⟩
        refine ⟨_, rfl, ?_⟩
        have n2_ := Aside0.mk (blk_below (g := gb271) (o := .cells #[.int .i64 t263, .int .i64 t264, .int .i64 t265, .int .i64 t266] 39 (0, 0)) (by (with_reducible repeat (first | refine blk_drewN ?_ _ | refine blk_drew ?_ | refine blk_alloc ?_ _)); exact BK271.out) hb)
        have n3_ := Aside0.mk (blk_below (g := gb272) (o := .cells #[.int .i64 t267, .int .i64 t268, .int .i64 t269, .int .i64 t270] 39 (0, 0)) (by (with_reducible repeat (first | refine blk_drewN ?_ _ | refine blk_drew ?_ | refine blk_alloc ?_ _)); exact BK272.out) hb)
        have n4_ := Aside0.mk (blk_below (g := gb277) (o := .cells #[.int .i64 t273, .int .i64 t274, .int .i64 t275, .int .i64 t276] 39 (0, 0)) (by (with_reducible repeat (first | refine blk_drewN ?_ _ | refine blk_drew ?_ | refine blk_alloc ?_ _)); exact BK277.out) hb)
        have n5_ := Aside0.mk (blk_below (g := gb282) (o := .cells #[.int .i64 t278, .int .i64 t279, .int .i64 t280, .int .i64 t281] 39 (0, 0)) (by (with_reducible repeat (first | refine blk_drewN ?_ _ | refine blk_drew ?_ | refine blk_alloc ?_ _)); exact BK282.out) hb)
        have n6_ := Aside0.mk (blk_below (g := gb291) (o := .cells #[.int .i64 t283, .int .i64 t284, .int .i64 t285, .int .i64 t286] 39 (0, 0)) (by (with_reducible repeat (first | refine blk_drewN ?_ _ | refine blk_drew ?_ | refine blk_alloc ?_ _)); exact BK291.out) hb)
        have n7_ := Aside0.mk (blk_below (g := gb292) (o := .cells #[.int .i64 t287, .int .i64 t288, .int .i64 t289, .int .i64 t290] 39 (0, 0)) (by (with_reducible repeat (first | refine blk_drewN ?_ _ | refine blk_drew ?_ | refine blk_alloc ?_ _)); exact BK292.out) hb)
        have n8_ := Aside0.mk (below_step (by repeat (first | (with_reducible first | exact HB.out | apply below_alloc | apply pw_below_drewN | apply below_drew1 | refine below_set ?_ GE260.out | refine below_set ?_ GE261.out | refine below_set ?_ GE271.out | refine below_set ?_ GE272.out | refine below_set ?_ GE277.out | refine below_set ?_ GE282.out | refine below_set ?_ GE291.out | refine below_set ?_ GE292.out) | exact HB.out)) hb)
        clear BK271
        clear BK272
        clear BK277
        clear BK282
        clear BK291
        clear BK292
        clear HB
        have BK271 := n2_
        have BK272 := n3_
        have BK277 := n4_
        have BK282 := n5_
        have BK291 := n6_
        have BK292 := n7_
        have HB := n8_
        clear n2_ n3_ n4_ n5_ n6_ n7_ n8_
        (try clear hb)
        (try clear hb2)
        (try clear hk)
        (try clear hi)
        refine hK.out _ _ ⟨(blk_cell BK271.out 0).trans rfl, (blk_cell BK271.out 1).trans rfl, (blk_cell BK271.out 2).trans rfl, (blk_cell BK271.out 3).trans rfl, (blk_cell BK272.out 0).trans rfl, (blk_cell BK272.out 1).trans rfl, (blk_cell BK272.out 2).trans rfl, (blk_cell BK272.out 3).trans rfl, (blk_cell BK282.out 0).trans rfl, (blk_cell BK282.out 1).trans rfl, (blk_cell BK282.out 2).trans rfl, (blk_cell BK282.out 3).trans rfl, (blk_cell BK277.out 0).trans rfl, (blk_cell BK277.out 1).trans rfl, (blk_cell BK277.out 2).trans rfl, (blk_cell BK277.out 3).trans rfl, (blk_cell BK291.out 0).trans rfl, (blk_cell BK291.out 1).trans rfl, (blk_cell BK291.out 2).trans rfl, (blk_cell BK291.out 3).trans rfl, (blk_cell BK292.out 0).trans rfl, (blk_cell BK292.out 1).trans rfl, (blk_cell BK292.out 2).trans rfl, (blk_cell BK292.out 3).trans rfl⟩ (fun hHeld => ?_)
        clear hK K
        refine norm_ (a' := ?_) ?_ ?_
        rotate_left
        ·
         show Act.put _ (some 34) _ = _
         simp only [Act.put, List.setIfInBounds_toArray, List.set_cons_zero, List.set_cons_succ, i64_w, i32_w]
         rfl
        refine one_ (i := 4) (N := some 36) (List.toArray (yq :: [yq,yq,yq,yq,nq,nq,nq,nq,nq,nq,nq,nq,nq,nq,nq,nq,nq,nq,nq,nq,nq,nq,nq,nq,nq,nq,nq,nq,nq,nq,nq,nq,nq,nq,nq,nq,nq,nq,nq,nq,nq,nq,nq,nq,nq,nq,nq,nq,nq,nq,nq,nq,nq,nq,nq,nq,nq,nq,nq,nq,nq,nq,nq])) rfl rfl (one_of HT_.out (by kernel_rfl)) (by decide) (fun K hK => ?_)
        refine goes_ Try.func37 (by kernel_rfl) rfl #[.agg #[.int .i64 t263, .int .i64 t264, .int .i64 t265, .int .i64 t266]] (by rfl) rfl rfl (by (try simp only [List.map_toArray, List.map_cons, List.map_nil]); first | done | rfl | (simp only [List.length_drop, List.length_take]; rfl)) ?_
        with_reducible refine (quat_Unit.calls k t263 t264 t265 t266 t297 t298 t299 t300 _ A13.out).mono ?_
        rintro e w86 ⟨rfl, hb⟩
        refine ⟨_, rfl, ?_⟩
        have n2_ := Aside0.mk (blk_below (g := gb271) (o := .cells #[.int .i64 t263, .int .i64 t264, .int .i64 t265, .int .i64 t266] 39 (0, 0)) (by (with_reducible repeat (first | refine blk_drewN ?_ _ | refine blk_drew ?_ | refine blk_alloc ?_ _)); exact BK271.out) hb)
        have n3_ := Aside0.mk (blk_below (g := gb272) (o := .cells #[.int .i64 t267, .int .i64 t268, .int .i64 t269, .int .i64 t270] 39 (0, 0)) (by (with_reducible repeat (first | refine blk_drewN ?_ _ | refine blk_drew ?_ | refine blk_alloc ?_ _)); exact BK272.out) hb)
        have n4_ := Aside0.mk (blk_below (g := gb277) (o := .cells #[.int .i64 t273, .int .i64 t274, .int .i64 t275, .int .i64 t276] 39 (0, 0)) (by (with_reducible repeat (first | refine blk_drewN ?_ _ | refine blk_drew ?_ | refine blk_alloc ?_ _)); exact BK277.out) hb)
        have n5_ := Aside0.mk (blk_below (g := gb282) (o := .cells #[.int .i64 t278, .int .i64 t279, .int .i64 t280, .int .i64 t281] 39 (0, 0)) (by (with_reducible repeat (first | refine blk_drewN ?_ _ | refine blk_drew ?_ | refine blk_alloc ?_ _)); exact BK282.out) hb)
        have n6_ := Aside0.mk (blk_below (g := gb291) (o := .cells #[.int .i64 t283, .int .i64 t284, .int .i64 t285, .int .i64 t286] 39 (0, 0)) (by (with_reducible repeat (first | refine blk_drewN ?_ _ | refine blk_drew ?_ | refine blk_alloc ?_ _)); exact BK291.out) hb)
        have n7_ := Aside0.mk (blk_below (g := gb292) (o := .cells #[.int .i64 t287, .int .i64 t288, .int .i64 t289, .int .i64 t290] 39 (0, 0)) (by (with_reducible repeat (first | refine blk_drewN ?_ _ | refine blk_drew ?_ | refine blk_alloc ?_ _)); exact BK292.out) hb)
        have n8_ := Aside0.mk (below_step (by repeat (first | (with_reducible first | exact HB.out | apply below_alloc | apply pw_below_drewN | apply below_drew1 | refine below_set ?_ GE260.out | refine below_set ?_ GE261.out | refine below_set ?_ GE271.out | refine below_set ?_ GE272.out | refine below_set ?_ GE277.out | refine below_set ?_ GE282.out | refine below_set ?_ GE291.out | refine below_set ?_ GE292.out) | exact HB.out)) hb)
        clear BK271
        clear BK272
        clear BK277
        clear BK282
        clear BK291
        clear BK292
        clear HB
        have BK271 := n2_
        have BK272 := n3_
        have BK277 := n4_
        have BK282 := n5_
        have BK291 := n6_
        have BK292 := n7_
        have HB := n8_
        clear n2_ n3_ n4_ n5_ n6_ n7_ n8_
        (try clear hb)
        (try clear hb2)
        (try clear hk)
        (try clear hi)
        refine hK.out _ _ ⟨(blk_cell BK271.out 0).trans rfl, (blk_cell BK271.out 1).trans rfl, (blk_cell BK271.out 2).trans rfl, (blk_cell BK271.out 3).trans rfl, (blk_cell BK272.out 0).trans rfl, (blk_cell BK272.out 1).trans rfl, (blk_cell BK272.out 2).trans rfl, (blk_cell BK272.out 3).trans rfl, (blk_cell BK282.out 0).trans rfl, (blk_cell BK282.out 1).trans rfl, (blk_cell BK282.out 2).trans rfl, (blk_cell BK282.out 3).trans rfl, (blk_cell BK277.out 0).trans rfl, (blk_cell BK277.out 1).trans rfl, (blk_cell BK277.out 2).trans rfl, (blk_cell BK277.out 3).trans rfl, (blk_cell BK291.out 0).trans rfl, (blk_cell BK291.out 1).trans rfl, (blk_cell BK291.out 2).trans rfl, (blk_cell BK291.out 3).trans rfl, (blk_cell BK292.out 0).trans rfl, (blk_cell BK292.out 1).trans rfl, (blk_cell BK292.out 2).trans rfl, (blk_cell BK292.out 3).trans rfl⟩ (fun hHeld => ?_)
        clear hK K
        refine norm_ (a' := ?_) ?_ ?_
        rotate_left
        ·
         show Act.put _ (some 36) _ = _
         simp only [Act.put, List.setIfInBounds_toArray, List.set_cons_zero, List.set_cons_succ, i64_w, i32_w]
         rfl
        refine pure_ (i := 5) (N := some 37) (v := ?_) (a' := ?_) (List.toArray (yq :: [yq,yq,yq,yq,yq,nq,nq,nq,nq,nq,nq,nq,nq,nq,nq,nq,nq,nq,nq,nq,nq,nq,nq,nq,nq,nq,nq,nq,nq,nq,nq,nq,nq,nq,nq,nq,nq,nq,nq,nq,nq,nq,nq,nq,nq,nq,nq,nq,nq,nq,nq,nq,nq,nq,nq,nq,nq,nq,nq,nq,nq,nq,nq])) rfl rfl (any_of HT_.out (by kernel_rfl)) (fun _ _ _ h => h) (Or.inl ⟨by rfl, ?_⟩) ?_ ?_
        rotate_left
        ·
         intro w'
         go_simp
         with_reducible rfl
        rotate_left
        ·
         simp only [Act.put, List.setIfInBounds_toArray, List.set_cons_zero, List.set_cons_succ, i64_w, i32_w]
         rfl
        refine pure_ (i := 6) (N := some 38) (v := ?_) (a' := ?_) (List.toArray (yq :: [yq,yq,yq,yq,yq,yq,nq,nq,nq,nq,nq,nq,nq,nq,nq,nq,nq,nq,nq,nq,nq,nq,nq,nq,nq,nq,nq,nq,nq,nq,nq,nq,nq,nq,nq,nq,nq,nq,nq,nq,nq,nq,nq,nq,nq,nq,nq,nq,nq,nq,nq,nq,nq,nq,nq,nq,nq,nq,nq,nq,nq,nq,nq])) rfl rfl (any_of HT_.out (by kernel_rfl)) (fun _ _ _ h => h) (Or.inl ⟨by rfl, ?_⟩) ?_ ?_
        rotate_left
        ·
         intro w'
         go_simp
         with_reducible rfl
        rotate_left
        ·
         simp only [Act.put, List.setIfInBounds_toArray, List.set_cons_zero, List.set_cons_succ, i64_w, i32_w]
         rfl
        refine take_ (i := 7) (N := some 39) (v := ?_) (a' := ?_) (List.toArray (yq :: [yq,yq,yq,yq,yq,yq,yq,nq,nq,nq,nq,nq,nq,nq,nq,nq,nq,nq,nq,nq,nq,nq,nq,nq,nq,nq,nq,nq,nq,nq,nq,nq,nq,nq,nq,nq,nq,nq,nq,nq,nq,nq,nq,nq,nq,nq,nq,nq,nq,nq,nq,nq,nq,nq,nq,nq,nq,nq,nq,nq,nq,nq,nq])) rfl rfl (take_ofW HT_.out HW_.out (by kernel_rfl)) (fun _ _ _ h => h) (Or.inl ⟨by rfl, ?_⟩) hHeld ?_ ?_
        rotate_left
        ·
         rintro w' ⟨s0, s1, s2, s3, s4, s5, s6, s7, s8, s9, s10, s11, s12, s13, s14, s15, s16, s17, s18, s19, s20, s21, s22, s23⟩
         go_simp
         with_reducible rfl
        rotate_left
        ·
         simp only [Act.put, List.setIfInBounds_toArray, List.set_cons_zero, List.set_cons_succ, i64_w, i32_w]
         rfl
        refine take_ (i := 8) (N := some 40) (v := ?_) (a' := ?_) (List.toArray (yq :: [yq,yq,yq,yq,yq,yq,yq,yq,nq,nq,nq,nq,nq,nq,nq,nq,nq,nq,nq,nq,nq,nq,nq,nq,nq,nq,nq,nq,nq,nq,nq,nq,nq,nq,nq,nq,nq,nq,nq,nq,nq,nq,nq,nq,nq,nq,nq,nq,nq,nq,nq,nq,nq,nq,nq,nq,nq,nq,nq,nq,nq,nq,nq])) rfl rfl (take_ofW HT_.out HW_.out (by kernel_rfl)) (fun _ _ _ h => h) (Or.inl ⟨by rfl, ?_⟩) hHeld ?_ ?_
        rotate_left
        ·
         rintro w' ⟨s0, s1, s2, s3, s4, s5, s6, s7, s8, s9, s10, s11, s12, s13, s14, s15, s16, s17, s18, s19, s20, s21, s22, s23⟩
         go_simp
         with_reducible rfl
        rotate_left
        ·
         simp only [Act.put, List.setIfInBounds_toArray, List.set_cons_zero, List.set_cons_succ, i64_w, i32_w]
         rfl
        refine one_ (i := 9) (N := some 41) (List.toArray (yq :: [yq,yq,yq,yq,yq,yq,yq,yq,yq,nq,nq,nq,nq,nq,nq,nq,nq,nq,nq,nq,nq,nq,nq,nq,nq,nq,nq,nq,nq,nq,nq,nq,nq,nq,nq,nq,nq,nq,nq,nq,nq,nq,nq,nq,nq,nq,nq,nq,nq,nq,nq,nq,nq,nq,nq,nq,nq,nq,nq,nq,nq,nq,nq])) rfl rfl (one_of HT_.out (by kernel_rfl)) (by decide) (fun K hK => ?_)
        refine goes_ Try.func37 (by kernel_rfl) rfl #[.agg #[.int .i64 t267, .int .i64 t268, .int .i64 t269, .int .i64 t270]] (by rfl) rfl rfl (by (try simp only [List.map_toArray, List.map_cons, List.map_nil]); first | done | rfl | (simp only [List.length_drop, List.length_take]; rfl)) ?_
        with_reducible refine (quat_Unit.calls k t267 t268 t269 t270 t301 t302 t303 t304 _ A15.out).mono ?_
        rintro e w87 ⟨rfl, hb⟩
        refine ⟨_, rfl, ?_⟩
        have n2_ := Aside0.mk (blk_below (g := gb271) (o := .cells #[.int .i64 t263, .int .i64 t264, .int .i64 t265, .int .i64 t266] 39 (0, 0)) (by (with_reducible repeat (first | refine blk_drewN ?_ _ | refine blk_drew ?_ | refine blk_alloc ?_ _)); exact BK271.out) hb)
        have n3_ := Aside0.mk (blk_below (g := gb272) (o := .cells #[.int .i64 t267, .int .i64 t268, .int .i64 t269, .int .i64 t270] 39 (0, 0)) (by (with_reducible repeat (first | refine blk_drewN ?_ _ | refine blk_drew ?_ | refine blk_alloc ?_ _)); exact BK272.out) hb)
        have n4_ := Aside0.mk (blk_below (g := gb277) (o := .cells #[.int .i64 t273, .int .i64 t274, .int .i64 t275, .int .i64 t276] 39 (0, 0)) (by (with_reducible repeat (first | refine blk_drewN ?_ _ | refine blk_drew ?_ | refine blk_alloc ?_ _)); exact BK277.out) hb)
        have n5_ := Aside0.mk (blk_below (g := gb282) (o := .cells #[.int .i64 t278, .int .i64 t279, .int .i64 t280, .int .i64 t281] 39 (0, 0)) (by (with_reducible repeat (first | refine blk_drewN ?_ _ | refine blk_drew ?_ | refine blk_alloc ?_ _)); exact BK282.out) hb)
        have n6_ := Aside0.mk (blk_below (g := gb291) (o := .cells #[.int .i64 t283, .int .i64 t284, .int .i64 t285, .int .i64 t286] 39 (0, 0)) (by (with_reducible repeat (first | refine blk_drewN ?_ _ | refine blk_drew ?_ | refine blk_alloc ?_ _)); exact BK291.out) hb)
        have n7_ := Aside0.mk (blk_below (g := gb292) (o := .cells #[.int .i64 t287, .int .i64 t288, .int .i64 t289, .int .i64 t290] 39 (0, 0)) (by (with_reducible repeat (first | refine blk_drewN ?_ _ | refine blk_drew ?_ | refine blk_alloc ?_ _)); exact BK292.out) hb)
        have n8_ := Aside0.mk (below_step (by repeat (first | (with_reducible first | exact HB.out | apply below_alloc | apply pw_below_drewN | apply below_drew1 | refine below_set ?_ GE260.out | refine below_set ?_ GE261.out | refine below_set ?_ GE271.out | refine below_set ?_ GE272.out | refine below_set ?_ GE277.out | refine below_set ?_ GE282.out | refine below_set ?_ GE291.out | refine below_set ?_ GE292.out) | exact HB.out)) hb)
        clear BK271
        clear BK272
        clear BK277
        clear BK282
        clear BK291
        clear BK292
        clear HB
        have BK271 := n2_
        have BK272 := n3_
        have BK277 := n4_
        have BK282 := n5_
        have BK291 := n6_
        have BK292 := n7_
        have HB := n8_
        clear n2_ n3_ n4_ n5_ n6_ n7_ n8_
        (try clear hb)
        (try clear hb2)
        (try clear hk)
        (try clear hi)
        refine hK.out _ _ ⟨(blk_cell BK271.out 0).trans rfl, (blk_cell BK271.out 1).trans rfl, (blk_cell BK271.out 2).trans rfl, (blk_cell BK271.out 3).trans rfl, (blk_cell BK272.out 0).trans rfl, (blk_cell BK272.out 1).trans rfl, (blk_cell BK272.out 2).trans rfl, (blk_cell BK272.out 3).trans rfl, (blk_cell BK282.out 0).trans rfl, (blk_cell BK282.out 1).trans rfl, (blk_cell BK282.out 2).trans rfl, (blk_cell BK282.out 3).trans rfl, (blk_cell BK277.out 0).trans rfl, (blk_cell BK277.out 1).trans rfl, (blk_cell BK277.out 2).trans rfl, (blk_cell BK277.out 3).trans rfl, (blk_cell BK291.out 0).trans rfl, (blk_cell BK291.out 1).trans rfl, (blk_cell BK291.out 2).trans rfl, (blk_cell BK291.out 3).trans rfl, (blk_cell BK292.out 0).trans rfl, (blk_cell BK292.out 1).trans rfl, (blk_cell BK292.out 2).trans rfl, (blk_cell BK292.out 3).trans rfl⟩ (fun hHeld => ?_)
        clear hK K
        refine norm_ (a' := ?_) ?_ ?_
        rotate_left
        ·
         show Act.put _ (some 41) _ = _
         simp only [Act.put, List.setIfInBounds_toArray, List.set_cons_zero, List.set_cons_succ, i64_w, i32_w]
         rfl
        refine pure_ (i := 10) (N := some 42) (v := ?_) (a' := ?_) (List.toArray (yq :: [yq,yq,yq,yq,yq,yq,yq,yq,yq,yq,nq,nq,nq,nq,nq,nq,nq,nq,nq,nq,nq,nq,nq,nq,nq,nq,nq,nq,nq,nq,nq,nq,nq,nq,nq,nq,nq,nq,nq,nq,nq,nq,nq,nq,nq,nq,nq,nq,nq,nq,nq,nq,nq,nq,nq,nq,nq,nq,nq,nq,nq,nq,nq])) rfl rfl (any_of HT_.out (by kernel_rfl)) (fun _ _ _ h => h) (Or.inl ⟨by rfl, ?_⟩) ?_ ?_
        rotate_left
        ·
         intro w'
         go_simp
         with_reducible rfl
        rotate_left
        ·
         simp only [Act.put, List.setIfInBounds_toArray, List.set_cons_zero, List.set_cons_succ, i64_w, i32_w]
         rfl
        refine pure_ (i := 11) (N := some 43) (v := ?_) (a' := ?_) (List.toArray (yq :: [yq,yq,yq,yq,yq,yq,yq,yq,yq,yq,yq,nq,nq,nq,nq,nq,nq,nq,nq,nq,nq,nq,nq,nq,nq,nq,nq,nq,nq,nq,nq,nq,nq,nq,nq,nq,nq,nq,nq,nq,nq,nq,nq,nq,nq,nq,nq,nq,nq,nq,nq,nq,nq,nq,nq,nq,nq,nq,nq,nq,nq,nq,nq])) rfl rfl (any_of HT_.out (by kernel_rfl)) (fun _ _ _ h => h) (Or.inl ⟨by rfl, ?_⟩) ?_ ?_
        rotate_left
        ·
         intro w'
         go_simp
         with_reducible rfl
        rotate_left
        ·
         simp only [Act.put, List.setIfInBounds_toArray, List.set_cons_zero, List.set_cons_succ, i64_w, i32_w]
         rfl
        refine pure_ (i := 12) (N := some 44) (v := undef) (a' := ?_) (List.toArray (yq :: [yq,yq,yq,yq,yq,yq,yq,yq,yq,yq,yq,yq,nq,nq,nq,nq,nq,nq,nq,nq,nq,nq,nq,nq,nq,nq,nq,nq,nq,nq,nq,nq,nq,nq,nq,nq,nq,nq,nq,nq,nq,nq,nq,nq,nq,nq,nq,nq,nq,nq,nq,nq,nq,nq,nq,nq,nq,nq,nq,nq,nq,nq,nq])) rfl rfl (any_of HT_.out (by kernel_rfl)) (fun _ _ _ h => h) (Or.inr ⟨by rfl, rfl⟩) ?_ ?_
        rotate_left
        ·
         simp only [Act.put, List.setIfInBounds_toArray, List.set_cons_zero, List.set_cons_succ, i64_w, i32_w]
         rfl
        refine pure_ (i := 13) (N := some 45) (v := undef) (a' := ?_) (List.toArray (yq :: [yq,yq,yq,yq,yq,yq,yq,yq,yq,yq,yq,yq,yq,nq,nq,nq,nq,nq,nq,nq,nq,nq,nq,nq,nq,nq,nq,nq,nq,nq,nq,nq,nq,nq,nq,nq,nq,nq,nq,nq,nq,nq,nq,nq,nq,nq,nq,nq,nq,nq,nq,nq,nq,nq,nq,nq,nq,nq,nq,nq,nq,nq,nq])) rfl rfl (any_of HT_.out (by kernel_rfl)) (fun _ _ _ h => h) (Or.inr ⟨by rfl, rfl⟩) ?_ ?_
        rotate_left
        ·
         simp only [Act.put, List.setIfInBounds_toArray, List.set_cons_zero, List.set_cons_succ, i64_w, i32_w]
         rfl
        refine pure_ (i := 14) (N := some 46) (v := undef) (a' := ?_) (List.toArray (yq :: [yq,yq,yq,yq,yq,yq,yq,yq,yq,yq,yq,yq,yq,yq,nq,nq,nq,nq,nq,nq,nq,nq,nq,nq,nq,nq,nq,nq,nq,nq,nq,nq,nq,nq,nq,nq,nq,nq,nq,nq,nq,nq,nq,nq,nq,nq,nq,nq,nq,nq,nq,nq,nq,nq,nq,nq,nq,nq,nq,nq,nq,nq,nq])) rfl rfl (any_of HT_.out (by kernel_rfl)) (fun _ _ _ h => h) (Or.inr ⟨by rfl, rfl⟩) ?_ ?_
        rotate_left
        ·
         simp only [Act.put, List.setIfInBounds_toArray, List.set_cons_zero, List.set_cons_succ, i64_w, i32_w]
         rfl
        refine pure_ (i := 15) (N := some 47) (v := undef) (a' := ?_) (List.toArray (yq :: [yq,yq,yq,yq,yq,yq,yq,yq,yq,yq,yq,yq,yq,yq,yq,nq,nq,nq,nq,nq,nq,nq,nq,nq,nq,nq,nq,nq,nq,nq,nq,nq,nq,nq,nq,nq,nq,nq,nq,nq,nq,nq,nq,nq,nq,nq,nq,nq,nq,nq,nq,nq,nq,nq,nq,nq,nq,nq,nq,nq,nq,nq,nq])) rfl rfl (any_of HT_.out (by kernel_rfl)) (fun _ _ _ h => h) (Or.inr ⟨by rfl, rfl⟩) ?_ ?_
        rotate_left
        ·
         simp only [Act.put, List.setIfInBounds_toArray, List.set_cons_zero, List.set_cons_succ, i64_w, i32_w]
         rfl
        refine pure_ (i := 16) (N := some 48) (v := undef) (a' := ?_) (List.toArray (yq :: [yq,yq,yq,yq,yq,yq,yq,yq,yq,yq,yq,yq,yq,yq,yq,yq,nq,nq,nq,nq,nq,nq,nq,nq,nq,nq,nq,nq,nq,nq,nq,nq,nq,nq,nq,nq,nq,nq,nq,nq,nq,nq,nq,nq,nq,nq,nq,nq,nq,nq,nq,nq,nq,nq,nq,nq,nq,nq,nq,nq,nq,nq,nq])) rfl rfl (any_of HT_.out (by kernel_rfl)) (fun _ _ _ h => h) (Or.inr ⟨by rfl, rfl⟩) ?_ ?_
        rotate_left
        ·
         simp only [Act.put, List.setIfInBounds_toArray, List.set_cons_zero, List.set_cons_succ, i64_w, i32_w]
         rfl
        refine pure_ (i := 17) (N := some 49) (v := undef) (a' := ?_) (List.toArray (yq :: [yq,yq,yq,yq,yq,yq,yq,yq,yq,yq,yq,yq,yq,yq,yq,yq,yq,nq,nq,nq,nq,nq,nq,nq,nq,nq,nq,nq,nq,nq,nq,nq,nq,nq,nq,nq,nq,nq,nq,nq,nq,nq,nq,nq,nq,nq,nq,nq,nq,nq,nq,nq,nq,nq,nq,nq,nq,nq,nq,nq,nq,nq,nq])) rfl rfl (any_of HT_.out (by kernel_rfl)) (fun _ _ _ h => h) (Or.inr ⟨by rfl, rfl⟩) ?_ ?_
        rotate_left
        ·
         simp only [Act.put, List.setIfInBounds_toArray, List.set_cons_zero, List.set_cons_succ, i64_w, i32_w]
         rfl
        refine pure_ (i := 18) (N := some 50) (v := undef) (a' := ?_) (List.toArray (yq :: [yq,yq,yq,yq,yq,yq,yq,yq,yq,yq,yq,yq,yq,yq,yq,yq,yq,yq,nq,nq,nq,nq,nq,nq,nq,nq,nq,nq,nq,nq,nq,nq,nq,nq,nq,nq,nq,nq,nq,nq,nq,nq,nq,nq,nq,nq,nq,nq,nq,nq,nq,nq,nq,nq,nq,nq,nq,nq,nq,nq,nq,nq,nq])) rfl rfl (any_of HT_.out (by kernel_rfl)) (fun _ _ _ h => h) (Or.inr ⟨by rfl, rfl⟩) ?_ ?_
        rotate_left
        ·
         simp only [Act.put, List.setIfInBounds_toArray, List.set_cons_zero, List.set_cons_succ, i64_w, i32_w]
         rfl
        refine pure_ (i := 19) (N := some 51) (v := undef) (a' := ?_) (List.toArray (yq :: [yq,yq,yq,yq,yq,yq,yq,yq,yq,yq,yq,yq,yq,yq,yq,yq,yq,yq,yq,nq,nq,nq,nq,nq,nq,nq,nq,nq,nq,nq,nq,nq,nq,nq,nq,nq,nq,nq,nq,nq,nq,nq,nq,nq,nq,nq,nq,nq,nq,nq,nq,nq,nq,nq,nq,nq,nq,nq,nq,nq,nq,nq,nq])) rfl rfl (any_of HT_.out (by kernel_rfl)) (fun _ _ _ h => h) (Or.inr ⟨by rfl, rfl⟩) ?_ ?_
        rotate_left
        ·
         simp only [Act.put, List.setIfInBounds_toArray, List.set_cons_zero, List.set_cons_succ, i64_w, i32_w]
         rfl
        refine pure_ (i := 20) (N := some 52) (v := undef) (a' := ?_) (List.toArray (yq :: [yq,yq,yq,yq,yq,yq,yq,yq,yq,yq,yq,yq,yq,yq,yq,yq,yq,yq,yq,yq,nq,nq,nq,nq,nq,nq,nq,nq,nq,nq,nq,nq,nq,nq,nq,nq,nq,nq,nq,nq,nq,nq,nq,nq,nq,nq,nq,nq,nq,nq,nq,nq,nq,nq,nq,nq,nq,nq,nq,nq,nq,nq,nq])) rfl rfl (any_of HT_.out (by kernel_rfl)) (fun _ _ _ h => h) (Or.inr ⟨by rfl, rfl⟩) ?_ ?_
        rotate_left
        ·
         simp only [Act.put, List.setIfInBounds_toArray, List.set_cons_zero, List.set_cons_succ, i64_w, i32_w]
         rfl
        refine pure_ (i := 21) (N := some 53) (v := undef) (a' := ?_) (List.toArray (yq :: [yq,yq,yq,yq,yq,yq,yq,yq,yq,yq,yq,yq,yq,yq,yq,yq,yq,yq,yq,yq,yq,nq,nq,nq,nq,nq,nq,nq,nq,nq,nq,nq,nq,nq,nq,nq,nq,nq,nq,nq,nq,nq,nq,nq,nq,nq,nq,nq,nq,nq,nq,nq,nq,nq,nq,nq,nq,nq,nq,nq,nq,nq,nq])) rfl rfl (any_of HT_.out (by kernel_rfl)) (fun _ _ _ h => h) (Or.inr ⟨by rfl, rfl⟩) ?_ ?_
        rotate_left
        ·
         simp only [Act.put, List.setIfInBounds_toArray, List.set_cons_zero, List.set_cons_succ, i64_w, i32_w]
         rfl
        refine pure_ (i := 22) (N := some 54) (v := undef) (a' := ?_) (List.toArray (yq :: [yq,yq,yq,yq,yq,yq,yq,yq,yq,yq,yq,yq,yq,yq,yq,yq,yq,yq,yq,yq,yq,yq,nq,nq,nq,nq,nq,nq,nq,nq,nq,nq,nq,nq,nq,nq,nq,nq,nq,nq,nq,nq,nq,nq,nq,nq,nq,nq,nq,nq,nq,nq,nq,nq,nq,nq,nq,nq,nq,nq,nq,nq,nq])) rfl rfl (any_of HT_.out (by kernel_rfl)) (fun _ _ _ h => h) (Or.inr ⟨by rfl, rfl⟩) ?_ ?_
        rotate_left
        ·
         simp only [Act.put, List.setIfInBounds_toArray, List.set_cons_zero, List.set_cons_succ, i64_w, i32_w]
         rfl
        refine pure_ (i := 23) (N := some 55) (v := undef) (a' := ?_) (List.toArray (yq :: [yq,yq,yq,yq,yq,yq,yq,yq,yq,yq,yq,yq,yq,yq,yq,yq,yq,yq,yq,yq,yq,yq,yq,nq,nq,nq,nq,nq,nq,nq,nq,nq,nq,nq,nq,nq,nq,nq,nq,nq,nq,nq,nq,nq,nq,nq,nq,nq,nq,nq,nq,nq,nq,nq,nq,nq,nq,nq,nq,nq,nq,nq,nq])) rfl rfl (any_of HT_.out (by kernel_rfl)) (fun _ _ _ h => h) (Or.inr ⟨by rfl, rfl⟩) ?_ ?_
        rotate_left
        ·
         simp only [Act.put, List.setIfInBounds_toArray, List.set_cons_zero, List.set_cons_succ, i64_w, i32_w]
         rfl
        refine pure_ (i := 24) (N := some 56) (v := undef) (a' := ?_) (List.toArray (yq :: [yq,yq,yq,yq,yq,yq,yq,yq,yq,yq,yq,yq,yq,yq,yq,yq,yq,yq,yq,yq,yq,yq,yq,yq,nq,nq,nq,nq,nq,nq,nq,nq,nq,nq,nq,nq,nq,nq,nq,nq,nq,nq,nq,nq,nq,nq,nq,nq,nq,nq,nq,nq,nq,nq,nq,nq,nq,nq,nq,nq,nq,nq,nq])) rfl rfl (any_of HT_.out (by kernel_rfl)) (fun _ _ _ h => h) (Or.inr ⟨by rfl, rfl⟩) ?_ ?_
        rotate_left
        ·
         simp only [Act.put, List.setIfInBounds_toArray, List.set_cons_zero, List.set_cons_succ, i64_w, i32_w]
         rfl
        refine pure_ (i := 25) (N := some 57) (v := undef) (a' := ?_) (List.toArray (yq :: [yq,yq,yq,yq,yq,yq,yq,yq,yq,yq,yq,yq,yq,yq,yq,yq,yq,yq,yq,yq,yq,yq,yq,yq,yq,nq,nq,nq,nq,nq,nq,nq,nq,nq,nq,nq,nq,nq,nq,nq,nq,nq,nq,nq,nq,nq,nq,nq,nq,nq,nq,nq,nq,nq,nq,nq,nq,nq,nq,nq,nq,nq,nq])) rfl rfl (any_of HT_.out (by kernel_rfl)) (fun _ _ _ h => h) (Or.inr ⟨by rfl, rfl⟩) ?_ ?_
        rotate_left
        ·
         simp only [Act.put, List.setIfInBounds_toArray, List.set_cons_zero, List.set_cons_succ, i64_w, i32_w]
         rfl
        refine pure_ (i := 26) (N := some 58) (v := undef) (a' := ?_) (List.toArray (yq :: [yq,yq,yq,yq,yq,yq,yq,yq,yq,yq,yq,yq,yq,yq,yq,yq,yq,yq,yq,yq,yq,yq,yq,yq,yq,yq,nq,nq,nq,nq,nq,nq,nq,nq,nq,nq,nq,nq,nq,nq,nq,nq,nq,nq,nq,nq,nq,nq,nq,nq,nq,nq,nq,nq,nq,nq,nq,nq,nq,nq,nq,nq,nq])) rfl rfl (any_of HT_.out (by kernel_rfl)) (fun _ _ _ h => h) (Or.inr ⟨by rfl, rfl⟩) ?_ ?_
        rotate_left
        ·
         simp only [Act.put, List.setIfInBounds_toArray, List.set_cons_zero, List.set_cons_succ, i64_w, i32_w]
         rfl
        refine pure_ (i := 27) (N := some 59) (v := undef) (a' := ?_) (List.toArray (yq :: [yq,yq,yq,yq,yq,yq,yq,yq,yq,yq,yq,yq,yq,yq,yq,yq,yq,yq,yq,yq,yq,yq,yq,yq,yq,yq,yq,nq,nq,nq,nq,nq,nq,nq,nq,nq,nq,nq,nq,nq,nq,nq,nq,nq,nq,nq,nq,nq,nq,nq,nq,nq,nq,nq,nq,nq,nq,nq,nq,nq,nq,nq,nq])) rfl rfl (any_of HT_.out (by kernel_rfl)) (fun _ _ _ h => h) (Or.inr ⟨by rfl, rfl⟩) ?_ ?_
        rotate_left
        ·
         simp only [Act.put, List.setIfInBounds_toArray, List.set_cons_zero, List.set_cons_succ, i64_w, i32_w]
         rfl
        refine pure_ (i := 28) (N := some 60) (v := ?_) (a' := ?_) (List.toArray (yq :: [yq,yq,yq,yq,yq,yq,yq,yq,yq,yq,yq,yq,yq,yq,yq,yq,yq,yq,yq,yq,yq,yq,yq,yq,yq,yq,yq,yq,nq,nq,nq,nq,nq,nq,nq,nq,nq,nq,nq,nq,nq,nq,nq,nq,nq,nq,nq,nq,nq,nq,nq,nq,nq,nq,nq,nq,nq,nq,nq,nq,nq,nq,nq])) rfl rfl (any_of HT_.out (by kernel_rfl)) (fun _ _ _ h => h) (Or.inl ⟨by rfl, ?_⟩) ?_ ?_
        rotate_left
        ·
         intro w'
         go_simp
         with_reducible rfl
        rotate_left
        ·
         simp only [Act.put, List.setIfInBounds_toArray, List.set_cons_zero, List.set_cons_succ, i64_w, i32_w]
         rfl
        refine pure_ (i := 29) (N := some 61) (v := ?_) (a' := ?_) (List.toArray (yq :: [yq,yq,yq,yq,yq,yq,yq,yq,yq,yq,yq,yq,yq,yq,yq,yq,yq,yq,yq,yq,yq,yq,yq,yq,yq,yq,yq,yq,yq,nq,nq,nq,nq,nq,nq,nq,nq,nq,nq,nq,nq,nq,nq,nq,nq,nq,nq,nq,nq,nq,nq,nq,nq,nq,nq,nq,nq,nq,nq,nq,nq,nq,nq])) rfl rfl (any_of HT_.out (by kernel_rfl)) (fun _ _ _ h => h) (Or.inl ⟨by rfl, ?_⟩) ?_ ?_
        rotate_left
        ·
         intro w'
         go_simp
         with_reducible rfl
        rotate_left
        ·
         simp only [Act.put, List.setIfInBounds_toArray, List.set_cons_zero, List.set_cons_succ, i64_w, i32_w]
         rfl
        refine pure_ (i := 30) (N := some 62) (v := ?_) (a' := ?_) (List.toArray (yq :: [yq,yq,yq,yq,yq,yq,yq,yq,yq,yq,yq,yq,yq,yq,yq,yq,yq,yq,yq,yq,yq,yq,yq,yq,yq,yq,yq,yq,yq,yq,nq,nq,nq,nq,nq,nq,nq,nq,nq,nq,nq,nq,nq,nq,nq,nq,nq,nq,nq,nq,nq,nq,nq,nq,nq,nq,nq,nq,nq,nq,nq,nq,nq])) rfl rfl (any_of HT_.out (by kernel_rfl)) (fun _ _ _ h => h) (Or.inl ⟨by rfl, ?_⟩) ?_ ?_
        rotate_left
        ·
         intro w'
         go_simp
         with_reducible rfl
        rotate_left
        ·
         simp only [Act.put, List.setIfInBounds_toArray, List.set_cons_zero, List.set_cons_succ, i64_w, i32_w]
         rfl
        refine take_ (i := 31) (N := some 63) (v := ?_) (a' := ?_) (List.toArray (yq :: [yq,yq,yq,yq,yq,yq,yq,yq,yq,yq,yq,yq,yq,yq,yq,yq,yq,yq,yq,yq,yq,yq,yq,yq,yq,yq,yq,yq,yq,yq,yq,nq,nq,nq,nq,nq,nq,nq,nq,nq,nq,nq,nq,nq,nq,nq,nq,nq,nq,nq,nq,nq,nq,nq,nq,nq,nq,nq,nq,nq,nq,nq,nq])) rfl rfl (take_ofW HT_.out HW_.out (by kernel_rfl)) (fun _ _ _ h => h) (Or.inl ⟨by rfl, ?_⟩) hHeld ?_ ?_
        rotate_left
        ·
         rintro w' ⟨s0, s1, s2, s3, s4, s5, s6, s7, s8, s9, s10, s11, s12, s13, s14, s15, s16, s17, s18, s19, s20, s21, s22, s23⟩
         go_simp
         with_reducible rfl
        rotate_left
        ·
         simp only [Act.put, List.setIfInBounds_toArray, List.set_cons_zero, List.set_cons_succ, i64_w, i32_w]
         rfl
        refine one_ (i := 32) (N := some 64) (List.toArray (yq :: [yq,yq,yq,yq,yq,yq,yq,yq,yq,yq,yq,yq,yq,yq,yq,yq,yq,yq,yq,yq,yq,yq,yq,yq,yq,yq,yq,yq,yq,yq,yq,yq,nq,nq,nq,nq,nq,nq,nq,nq,nq,nq,nq,nq,nq,nq,nq,nq,nq,nq,nq,nq,nq,nq,nq,nq,nq,nq,nq,nq,nq,nq,nq])) rfl rfl (one_of HT_.out (by kernel_rfl)) (by decide) (fun K hK => ?_)
        refine goes_ Try.func32 (by kernel_rfl) rfl #[.agg #[.int .i64 t273, .int .i64 t274, .int .i64 t275, .int .i64 t276]] (by rfl) rfl rfl (by (try simp only [List.map_toArray, List.map_cons, List.map_nil]); first | done | rfl | (simp only [List.length_drop, List.length_take]; rfl)) ?_
        with_reducible refine (tourkeep1_square.calls t273 t274 t275 t276 t305 _ A17.out).mono ?_
        rintro e w88 ⟨rfl, hb⟩
        refine ⟨_, rfl, ?_⟩
        have n2_ := Aside0.mk (blk_below (g := gb271) (o := .cells #[.int .i64 t263, .int .i64 t264, .int .i64 t265, .int .i64 t266] 39 (0, 0)) (by (with_reducible repeat (first | refine blk_drewN ?_ _ | refine blk_drew ?_ | refine blk_alloc ?_ _)); exact BK271.out) hb)
        have n3_ := Aside0.mk (blk_below (g := gb272) (o := .cells #[.int .i64 t267, .int .i64 t268, .int .i64 t269, .int .i64 t270] 39 (0, 0)) (by (with_reducible repeat (first | refine blk_drewN ?_ _ | refine blk_drew ?_ | refine blk_alloc ?_ _)); exact BK272.out) hb)
        have n4_ := Aside0.mk (blk_below (g := gb277) (o := .cells #[.int .i64 t273, .int .i64 t274, .int .i64 t275, .int .i64 t276] 39 (0, 0)) (by (with_reducible repeat (first | refine blk_drewN ?_ _ | refine blk_drew ?_ | refine blk_alloc ?_ _)); exact BK277.out) hb)
        have n5_ := Aside0.mk (blk_below (g := gb282) (o := .cells #[.int .i64 t278, .int .i64 t279, .int .i64 t280, .int .i64 t281] 39 (0, 0)) (by (with_reducible repeat (first | refine blk_drewN ?_ _ | refine blk_drew ?_ | refine blk_alloc ?_ _)); exact BK282.out) hb)
        have n6_ := Aside0.mk (blk_below (g := gb291) (o := .cells #[.int .i64 t283, .int .i64 t284, .int .i64 t285, .int .i64 t286] 39 (0, 0)) (by (with_reducible repeat (first | refine blk_drewN ?_ _ | refine blk_drew ?_ | refine blk_alloc ?_ _)); exact BK291.out) hb)
        have n7_ := Aside0.mk (blk_below (g := gb292) (o := .cells #[.int .i64 t287, .int .i64 t288, .int .i64 t289, .int .i64 t290] 39 (0, 0)) (by (with_reducible repeat (first | refine blk_drewN ?_ _ | refine blk_drew ?_ | refine blk_alloc ?_ _)); exact BK292.out) hb)
        have n8_ := Aside0.mk (below_step (by repeat (first | (with_reducible first | exact HB.out | apply below_alloc | apply pw_below_drewN | apply below_drew1 | refine below_set ?_ GE260.out | refine below_set ?_ GE261.out | refine below_set ?_ GE271.out | refine below_set ?_ GE272.out | refine below_set ?_ GE277.out | refine below_set ?_ GE282.out | refine below_set ?_ GE291.out | refine below_set ?_ GE292.out) | exact HB.out)) hb)
        clear BK271
        clear BK272
        clear BK277
        clear BK282
        clear BK291
        clear BK292
        clear HB
        have BK271 := n2_
        have BK272 := n3_
        have BK277 := n4_
        have BK282 := n5_
        have BK291 := n6_
        have BK292 := n7_
        have HB := n8_
        clear n2_ n3_ n4_ n5_ n6_ n7_ n8_
        (try clear hb)
        (try clear hb2)
        (try clear hk)
        (try clear hi)
        refine hK.out _ _ ⟨(blk_cell BK271.out 0).trans rfl, (blk_cell BK271.out 1).trans rfl, (blk_cell BK271.out 2).trans rfl, (blk_cell BK271.out 3).trans rfl, (blk_cell BK272.out 0).trans rfl, (blk_cell BK272.out 1).trans rfl, (blk_cell BK272.out 2).trans rfl, (blk_cell BK272.out 3).trans rfl, (blk_cell BK282.out 0).trans rfl, (blk_cell BK282.out 1).trans rfl, (blk_cell BK282.out 2).trans rfl, (blk_cell BK282.out 3).trans rfl, (blk_cell BK277.out 0).trans rfl, (blk_cell BK277.out 1).trans rfl, (blk_cell BK277.out 2).trans rfl, (blk_cell BK277.out 3).trans rfl, (blk_cell BK291.out 0).trans rfl, (blk_cell BK291.out 1).trans rfl, (blk_cell BK291.out 2).trans rfl, (blk_cell BK291.out 3).trans rfl, (blk_cell BK292.out 0).trans rfl, (blk_cell BK292.out 1).trans rfl, (blk_cell BK292.out 2).trans rfl, (blk_cell BK292.out 3).trans rfl⟩ (fun hHeld => ?_)
        clear hK K
        refine norm_ (a' := ?_) ?_ ?_
        rotate_left
        ·
         show Act.put _ (some 64) _ = _
         simp only [Act.put, List.setIfInBounds_toArray, List.set_cons_zero, List.set_cons_succ, i64_w, i32_w]
         rfl
        refine one_ (i := 33) (N := some 65) (List.toArray (yq :: [yq,yq,yq,yq,yq,yq,yq,yq,yq,yq,yq,yq,yq,yq,yq,yq,yq,yq,yq,yq,yq,yq,yq,yq,yq,yq,yq,yq,yq,yq,yq,yq,yq,nq,nq,nq,nq,nq,nq,nq,nq,nq,nq,nq,nq,nq,nq,nq,nq,nq,nq,nq,nq,nq,nq,nq,nq,nq,nq,nq,nq,nq,nq])) rfl rfl (one_of HT_.out (by kernel_rfl)) (by decide) (fun K hK => ?_)
        refine goes_ Try.func18 (by kernel_rfl) rfl #[.int .i64 t305, .int .i64 65536, .int .i64 8] (by rfl) rfl rfl (by (try simp only [List.map_toArray, List.map_cons, List.map_nil]); first | done | rfl | (simp only [List.length_drop, List.length_take]; rfl)) ?_
        with_reducible refine (tourkeep1_near.calls t305 65536 8 true _ A18.out).mono ?_
        rintro e w' ⟨rfl, ⟨nd, rfl⟩⟩
        refine ⟨_, rfl, ?_⟩
        refine hK.out _ _ ⟨(blk_cell BK271.out 0).trans rfl, (blk_cell BK271.out 1).trans rfl, (blk_cell BK271.out 2).trans rfl, (blk_cell BK271.out 3).trans rfl, (blk_cell BK272.out 0).trans rfl, (blk_cell BK272.out 1).trans rfl, (blk_cell BK272.out 2).trans rfl, (blk_cell BK272.out 3).trans rfl, (blk_cell BK282.out 0).trans rfl, (blk_cell BK282.out 1).trans rfl, (blk_cell BK282.out 2).trans rfl, (blk_cell BK282.out 3).trans rfl, (blk_cell BK277.out 0).trans rfl, (blk_cell BK277.out 1).trans rfl, (blk_cell BK277.out 2).trans rfl, (blk_cell BK277.out 3).trans rfl, (blk_cell BK291.out 0).trans rfl, (blk_cell BK291.out 1).trans rfl, (blk_cell BK291.out 2).trans rfl, (blk_cell BK291.out 3).trans rfl, (blk_cell BK292.out 0).trans rfl, (blk_cell BK292.out 1).trans rfl, (blk_cell BK292.out 2).trans rfl, (blk_cell BK292.out 3).trans rfl⟩ (fun hHeld => ?_)
        clear hK K
        refine norm_ (a' := ?_) ?_ ?_
        rotate_left
        ·
         show Act.put _ (some 65) _ = _
         simp only [Act.put, List.setIfInBounds_toArray, List.set_cons_zero, List.set_cons_succ, i64_w, i32_w]
         rfl
        refine pure_ (i := 34) (N := some 66) (v := ?_) (a' := ?_) (List.toArray (yq :: [yq,yq,yq,yq,yq,yq,yq,yq,yq,yq,yq,yq,yq,yq,yq,yq,yq,yq,yq,yq,yq,yq,yq,yq,yq,yq,yq,yq,yq,yq,yq,yq,yq,yq,nq,nq,nq,nq,nq,nq,nq,nq,nq,nq,nq,nq,nq,nq,nq,nq,nq,nq,nq,nq,nq,nq,nq,nq,nq,nq,nq,nq,nq])) rfl rfl (any_of HT_.out (by kernel_rfl)) (fun _ _ _ h => h) (Or.inl ⟨by rfl, ?_⟩) ?_ ?_
        rotate_left
        ·
         intro w'
         go_simp
         with_reducible rfl
        rotate_left
        ·
         simp only [Act.put, List.setIfInBounds_toArray, List.set_cons_zero, List.set_cons_succ, i64_w, i32_w]
         rfl
        refine pure_ (i := 35) (N := some 67) (v := ?_) (a' := ?_) (List.toArray (yq :: [yq,yq,yq,yq,yq,yq,yq,yq,yq,yq,yq,yq,yq,yq,yq,yq,yq,yq,yq,yq,yq,yq,yq,yq,yq,yq,yq,yq,yq,yq,yq,yq,yq,yq,yq,nq,nq,nq,nq,nq,nq,nq,nq,nq,nq,nq,nq,nq,nq,nq,nq,nq,nq,nq,nq,nq,nq,nq,nq,nq,nq,nq,nq])) rfl rfl (any_of HT_.out (by kernel_rfl)) (fun _ _ _ h => h) (Or.inl ⟨by rfl, ?_⟩) ?_ ?_
        rotate_left
        ·
         intro w'
         go_simp
         with_reducible rfl
        rotate_left
        ·
         simp only [Act.put, List.setIfInBounds_toArray, List.set_cons_zero, List.set_cons_succ, i64_w, i32_w]
         rfl
        refine pure_ (i := 36) (N := some 68) (v := ?_) (a' := ?_) (List.toArray (yq :: [yq,yq,yq,yq,yq,yq,yq,yq,yq,yq,yq,yq,yq,yq,yq,yq,yq,yq,yq,yq,yq,yq,yq,yq,yq,yq,yq,yq,yq,yq,yq,yq,yq,yq,yq,yq,nq,nq,nq,nq,nq,nq,nq,nq,nq,nq,nq,nq,nq,nq,nq,nq,nq,nq,nq,nq,nq,nq,nq,nq,nq,nq,nq])) rfl rfl (any_of HT_.out (by kernel_rfl)) (fun _ _ _ h => h) (Or.inl ⟨by rfl, ?_⟩) ?_ ?_
        rotate_left
        ·
         intro w'
         go_simp
         with_reducible rfl
        rotate_left
        ·
         simp only [Act.put, List.setIfInBounds_toArray, List.set_cons_zero, List.set_cons_succ, i64_w, i32_w]
         rfl
        refine pure_ (i := 38) (N := some 70) (v := ?_) (a' := ?_) (List.toArray (yq :: [yq,yq,yq,yq,yq,yq,yq,yq,yq,yq,yq,yq,yq,yq,yq,yq,yq,yq,yq,yq,yq,yq,yq,yq,yq,yq,yq,yq,yq,yq,yq,yq,yq,yq,yq,yq,nq,yq,nq,nq,nq,nq,nq,nq,nq,nq,nq,nq,nq,nq,nq,nq,nq,nq,nq,nq,nq,nq,nq,nq,nq,nq,nq])) rfl rfl (any_of HT_.out (by kernel_rfl)) (fun _ _ _ h => h) (Or.inl ⟨by rfl, ?_⟩) ?_ ?_
        rotate_left
        ·
         intro w'
         go_simp
         with_reducible rfl
        rotate_left
        ·
         simp only [Act.put, List.setIfInBounds_toArray, List.set_cons_zero, List.set_cons_succ, i64_w, i32_w]
         rfl
        refine take_ (i := 37) (N := some 69) (v := ?_) (a' := ?_) (List.toArray (yq :: [yq,yq,yq,yq,yq,yq,yq,yq,yq,yq,yq,yq,yq,yq,yq,yq,yq,yq,yq,yq,yq,yq,yq,yq,yq,yq,yq,yq,yq,yq,yq,yq,yq,yq,yq,yq,yq,yq,nq,nq,nq,nq,nq,nq,nq,nq,nq,nq,nq,nq,nq,nq,nq,nq,nq,nq,nq,nq,nq,nq,nq,nq,nq])) rfl rfl (take_ofW HT_.out HW_.out (by kernel_rfl)) (fun _ _ _ h => h) (Or.inl ⟨by rfl, ?_⟩) hHeld ?_ ?_
        rotate_left
        ·
         rintro w' ⟨s0, s1, s2, s3, s4, s5, s6, s7, s8, s9, s10, s11, s12, s13, s14, s15, s16, s17, s18, s19, s20, s21, s22, s23⟩
         go_simp
         with_reducible rfl
        rotate_left
        ·
         simp only [Act.put, List.setIfInBounds_toArray, List.set_cons_zero, List.set_cons_succ, i64_w, i32_w]
         rfl
        refine take_ (i := 39) (N := some 71) (v := ?_) (a' := ?_) (List.toArray (yq :: [yq,yq,yq,yq,yq,yq,yq,yq,yq,yq,yq,yq,yq,yq,yq,yq,yq,yq,yq,yq,yq,yq,yq,yq,yq,yq,yq,yq,yq,yq,yq,yq,yq,yq,yq,yq,yq,yq,yq,nq,nq,nq,nq,nq,nq,nq,nq,nq,nq,nq,nq,nq,nq,nq,nq,nq,nq,nq,nq,nq,nq,nq,nq])) rfl rfl (take_ofW HT_.out HW_.out (by kernel_rfl)) (fun _ _ _ h => h) (Or.inl ⟨by rfl, ?_⟩) hHeld ?_ ?_
        rotate_left
        ·
         rintro w' ⟨s0, s1, s2, s3, s4, s5, s6, s7, s8, s9, s10, s11, s12, s13, s14, s15, s16, s17, s18, s19, s20, s21, s22, s23⟩
         go_simp
         with_reducible rfl
        rotate_left
        ·
         simp only [Act.put, List.setIfInBounds_toArray, List.set_cons_zero, List.set_cons_succ, i64_w, i32_w]
         rfl
        refine one_ (i := 40) (N := some 72) (List.toArray (yq :: [yq,yq,yq,yq,yq,yq,yq,yq,yq,yq,yq,yq,yq,yq,yq,yq,yq,yq,yq,yq,yq,yq,yq,yq,yq,yq,yq,yq,yq,yq,yq,yq,yq,yq,yq,yq,yq,yq,yq,yq,nq,nq,nq,nq,nq,nq,nq,nq,nq,nq,nq,nq,nq,nq,nq,nq,nq,nq,nq,nq,nq,nq,nq])) rfl rfl (one_of HT_.out (by kernel_rfl)) (by decide) (fun K hK => ?_)
        refine goes_ Try.func18 (by kernel_rfl) rfl #[.int .i64 t283, .int .i64 t287, .int .i64 4] (by rfl) rfl rfl (by (try simp only [List.map_toArray, List.map_cons, List.map_nil]); first | done | rfl | (simp only [List.length_drop, List.length_take]; rfl)) ?_
        with_reducible refine (tourkeep1_near.calls t283 t287 4 true _ A20.out).mono ?_
        rintro e w' ⟨rfl, ⟨nd, rfl⟩⟩
        refine ⟨_, rfl, ?_⟩
        refine hK.out _ _ ⟨(blk_cell BK271.out 0).trans rfl, (blk_cell BK271.out 1).trans rfl, (blk_cell BK271.out 2).trans rfl, (blk_cell BK271.out 3).trans rfl, (blk_cell BK272.out 0).trans rfl, (blk_cell BK272.out 1).trans rfl, (blk_cell BK272.out 2).trans rfl, (blk_cell BK272.out 3).trans rfl, (blk_cell BK282.out 0).trans rfl, (blk_cell BK282.out 1).trans rfl, (blk_cell BK282.out 2).trans rfl, (blk_cell BK282.out 3).trans rfl, (blk_cell BK277.out 0).trans rfl, (blk_cell BK277.out 1).trans rfl, (blk_cell BK277.out 2).trans rfl, (blk_cell BK277.out 3).trans rfl, (blk_cell BK291.out 0).trans rfl, (blk_cell BK291.out 1).trans rfl, (blk_cell BK291.out 2).trans rfl, (blk_cell BK291.out 3).trans rfl, (blk_cell BK292.out 0).trans rfl, (blk_cell BK292.out 1).trans rfl, (blk_cell BK292.out 2).trans rfl, (blk_cell BK292.out 3).trans rfl⟩ (fun hHeld => ?_)
        clear hK K
        refine norm_ (a' := ?_) ?_ ?_
        rotate_left
        ·
         show Act.put _ (some 72) _ = _
         simp only [Act.put, List.setIfInBounds_toArray, List.set_cons_zero, List.set_cons_succ, i64_w, i32_w]
         rfl
        refine pure_ (i := 41) (N := some 73) (v := ?_) (a' := ?_) (List.toArray (yq :: [yq,yq,yq,yq,yq,yq,yq,yq,yq,yq,yq,yq,yq,yq,yq,yq,yq,yq,yq,yq,yq,yq,yq,yq,yq,yq,yq,yq,yq,yq,yq,yq,yq,yq,yq,yq,yq,yq,yq,yq,yq,nq,nq,nq,nq,nq,nq,nq,nq,nq,nq,nq,nq,nq,nq,nq,nq,nq,nq,nq,nq,nq,nq])) rfl rfl (any_of HT_.out (by kernel_rfl)) (fun _ _ _ h => h) (Or.inl ⟨by rfl, ?_⟩) ?_ ?_
        rotate_left
        ·
         intro w'
         go_simp
         with_reducible rfl
        rotate_left
        ·
         simp only [Act.put, List.setIfInBounds_toArray, List.set_cons_zero, List.set_cons_succ, i64_w, i32_w]
         rfl
        refine pure_ (i := 42) (N := some 74) (v := ?_) (a' := ?_) (List.toArray (yq :: [yq,yq,yq,yq,yq,yq,yq,yq,yq,yq,yq,yq,yq,yq,yq,yq,yq,yq,yq,yq,yq,yq,yq,yq,yq,yq,yq,yq,yq,yq,yq,yq,yq,yq,yq,yq,yq,yq,yq,yq,yq,yq,nq,nq,nq,nq,nq,nq,nq,nq,nq,nq,nq,nq,nq,nq,nq,nq,nq,nq,nq,nq,nq])) rfl rfl (any_of HT_.out (by kernel_rfl)) (fun _ _ _ h => h) (Or.inl ⟨by rfl, ?_⟩) ?_ ?_
        rotate_left
        ·
         intro w'
         go_simp
         with_reducible rfl
        rotate_left
        ·
         simp only [Act.put, List.setIfInBounds_toArray, List.set_cons_zero, List.set_cons_succ, i64_w, i32_w]
         rfl
        refine pure_ (i := 43) (N := some 75) (v := ?_) (a' := ?_) (List.toArray (yq :: [yq,yq,yq,yq,yq,yq,yq,yq,yq,yq,yq,yq,yq,yq,yq,yq,yq,yq,yq,yq,yq,yq,yq,yq,yq,yq,yq,yq,yq,yq,yq,yq,yq,yq,yq,yq,yq,yq,yq,yq,yq,yq,yq,nq,nq,nq,nq,nq,nq,nq,nq,nq,nq,nq,nq,nq,nq,nq,nq,nq,nq,nq,nq])) rfl rfl (any_of HT_.out (by kernel_rfl)) (fun _ _ _ h => h) (Or.inl ⟨by rfl, ?_⟩) ?_ ?_
        rotate_left
        ·
         intro w'
         go_simp
         with_reducible rfl
        rotate_left
        ·
         simp only [Act.put, List.setIfInBounds_toArray, List.set_cons_zero, List.set_cons_succ, i64_w, i32_w]
         rfl
        refine pure_ (i := 45) (N := some 77) (v := ?_) (a' := ?_) (List.toArray (yq :: [yq,yq,yq,yq,yq,yq,yq,yq,yq,yq,yq,yq,yq,yq,yq,yq,yq,yq,yq,yq,yq,yq,yq,yq,yq,yq,yq,yq,yq,yq,yq,yq,yq,yq,yq,yq,yq,yq,yq,yq,yq,yq,yq,nq,yq,nq,nq,nq,nq,nq,nq,nq,nq,nq,nq,nq,nq,nq,nq,nq,nq,nq,nq])) rfl rfl (any_of HT_.out (by kernel_rfl)) (fun _ _ _ h => h) (Or.inl ⟨by rfl, ?_⟩) ?_ ?_
        rotate_left
        ·
         intro w'
         go_simp
         with_reducible rfl
        rotate_left
        ·
         simp only [Act.put, List.setIfInBounds_toArray, List.set_cons_zero, List.set_cons_succ, i64_w, i32_w]
         rfl
        refine take_ (i := 44) (N := some 76) (v := ?_) (a' := ?_) (List.toArray (yq :: [yq,yq,yq,yq,yq,yq,yq,yq,yq,yq,yq,yq,yq,yq,yq,yq,yq,yq,yq,yq,yq,yq,yq,yq,yq,yq,yq,yq,yq,yq,yq,yq,yq,yq,yq,yq,yq,yq,yq,yq,yq,yq,yq,yq,yq,nq,nq,nq,nq,nq,nq,nq,nq,nq,nq,nq,nq,nq,nq,nq,nq,nq,nq])) rfl rfl (take_ofW HT_.out HW_.out (by kernel_rfl)) (fun _ _ _ h => h) (Or.inl ⟨by rfl, ?_⟩) hHeld ?_ ?_
        rotate_left
        ·
         rintro w' ⟨s0, s1, s2, s3, s4, s5, s6, s7, s8, s9, s10, s11, s12, s13, s14, s15, s16, s17, s18, s19, s20, s21, s22, s23⟩
         go_simp
         with_reducible rfl
        rotate_left
        ·
         simp only [Act.put, List.setIfInBounds_toArray, List.set_cons_zero, List.set_cons_succ, i64_w, i32_w]
         rfl
        refine take_ (i := 46) (N := some 78) (v := ?_) (a' := ?_) (List.toArray (yq :: [yq,yq,yq,yq,yq,yq,yq,yq,yq,yq,yq,yq,yq,yq,yq,yq,yq,yq,yq,yq,yq,yq,yq,yq,yq,yq,yq,yq,yq,yq,yq,yq,yq,yq,yq,yq,yq,yq,yq,yq,yq,yq,yq,yq,yq,yq,nq,nq,nq,nq,nq,nq,nq,nq,nq,nq,nq,nq,nq,nq,nq,nq,nq])) rfl rfl (take_ofW HT_.out HW_.out (by kernel_rfl)) (fun _ _ _ h => h) (Or.inl ⟨by rfl, ?_⟩) hHeld ?_ ?_
        rotate_left
        ·
         rintro w' ⟨s0, s1, s2, s3, s4, s5, s6, s7, s8, s9, s10, s11, s12, s13, s14, s15, s16, s17, s18, s19, s20, s21, s22, s23⟩
         go_simp
         with_reducible rfl
        rotate_left
        ·
         simp only [Act.put, List.setIfInBounds_toArray, List.set_cons_zero, List.set_cons_succ, i64_w, i32_w]
         rfl
        refine one_ (i := 47) (N := some 79) (List.toArray (yq :: [yq,yq,yq,yq,yq,yq,yq,yq,yq,yq,yq,yq,yq,yq,yq,yq,yq,yq,yq,yq,yq,yq,yq,yq,yq,yq,yq,yq,yq,yq,yq,yq,yq,yq,yq,yq,yq,yq,yq,yq,yq,yq,yq,yq,yq,yq,yq,nq,nq,nq,nq,nq,nq,nq,nq,nq,nq,nq,nq,nq,nq,nq,nq])) rfl rfl (one_of HT_.out (by kernel_rfl)) (by decide) (fun K hK => ?_)
        refine goes_ Try.func18 (by kernel_rfl) rfl #[.int .i64 t284, .int .i64 t288, .int .i64 4] (by rfl) rfl rfl (by (try simp only [List.map_toArray, List.map_cons, List.map_nil]); first | done | rfl | (simp only [List.length_drop, List.length_take]; rfl)) ?_
        with_reducible refine (tourkeep1_near.calls t284 t288 4 true _ A22.out).mono ?_
        rintro e w' ⟨rfl, ⟨nd, rfl⟩⟩
        refine ⟨_, rfl, ?_⟩
        refine hK.out _ _ ⟨(blk_cell BK271.out 0).trans rfl, (blk_cell BK271.out 1).trans rfl, (blk_cell BK271.out 2).trans rfl, (blk_cell BK271.out 3).trans rfl, (blk_cell BK272.out 0).trans rfl, (blk_cell BK272.out 1).trans rfl, (blk_cell BK272.out 2).trans rfl, (blk_cell BK272.out 3).trans rfl, (blk_cell BK282.out 0).trans rfl, (blk_cell BK282.out 1).trans rfl, (blk_cell BK282.out 2).trans rfl, (blk_cell BK282.out 3).trans rfl, (blk_cell BK277.out 0).trans rfl, (blk_cell BK277.out 1).trans rfl, (blk_cell BK277.out 2).trans rfl, (blk_cell BK277.out 3).trans rfl, (blk_cell BK291.out 0).trans rfl, (blk_cell BK291.out 1).trans rfl, (blk_cell BK291.out 2).trans rfl, (blk_cell BK291.out 3).trans rfl, (blk_cell BK292.out 0).trans rfl, (blk_cell BK292.out 1).trans rfl, (blk_cell BK292.out 2).trans rfl, (blk_cell BK292.out 3).trans rfl⟩ (fun hHeld => ?_)
        clear hK K
        refine norm_ (a' := ?_) ?_ ?_
        rotate_left
        ·
         show Act.put _ (some 79) _ = _
         simp only [Act.put, List.setIfInBounds_toArray, List.set_cons_zero, List.set_cons_succ, i64_w, i32_w]
         rfl
        refine pure_ (i := 48) (N := some 80) (v := ?_) (a' := ?_) (List.toArray (yq :: [yq,yq,yq,yq,yq,yq,yq,yq,yq,yq,yq,yq,yq,yq,yq,yq,yq,yq,yq,yq,yq,yq,yq,yq,yq,yq,yq,yq,yq,yq,yq,yq,yq,yq,yq,yq,yq,yq,yq,yq,yq,yq,yq,yq,yq,yq,yq,yq,nq,nq,nq,nq,nq,nq,nq,nq,nq,nq,nq,nq,nq,nq,nq])) rfl rfl (any_of HT_.out (by kernel_rfl)) (fun _ _ _ h => h) (Or.inl ⟨by rfl, ?_⟩) ?_ ?_
        rotate_left
        ·
         intro w'
         go_simp
         with_reducible rfl
        rotate_left
        ·
         simp only [Act.put, List.setIfInBounds_toArray, List.set_cons_zero, List.set_cons_succ, i64_w, i32_w]
         rfl
        refine pure_ (i := 49) (N := some 81) (v := ?_) (a' := ?_) (List.toArray (yq :: [yq,yq,yq,yq,yq,yq,yq,yq,yq,yq,yq,yq,yq,yq,yq,yq,yq,yq,yq,yq,yq,yq,yq,yq,yq,yq,yq,yq,yq,yq,yq,yq,yq,yq,yq,yq,yq,yq,yq,yq,yq,yq,yq,yq,yq,yq,yq,yq,yq,nq,nq,nq,nq,nq,nq,nq,nq,nq,nq,nq,nq,nq,nq])) rfl rfl (any_of HT_.out (by kernel_rfl)) (fun _ _ _ h => h) (Or.inl ⟨by rfl, ?_⟩) ?_ ?_
        rotate_left
        ·
         intro w'
         go_simp
         with_reducible rfl
        rotate_left
        ·
         simp only [Act.put, List.setIfInBounds_toArray, List.set_cons_zero, List.set_cons_succ, i64_w, i32_w]
         rfl
        refine pure_ (i := 50) (N := some 82) (v := ?_) (a' := ?_) (List.toArray (yq :: [yq,yq,yq,yq,yq,yq,yq,yq,yq,yq,yq,yq,yq,yq,yq,yq,yq,yq,yq,yq,yq,yq,yq,yq,yq,yq,yq,yq,yq,yq,yq,yq,yq,yq,yq,yq,yq,yq,yq,yq,yq,yq,yq,yq,yq,yq,yq,yq,yq,yq,nq,nq,nq,nq,nq,nq,nq,nq,nq,nq,nq,nq,nq])) rfl rfl (any_of HT_.out (by kernel_rfl)) (fun _ _ _ h => h) (Or.inl ⟨by rfl, ?_⟩) ?_ ?_
        rotate_left
        ·
         intro w'
         go_simp
         with_reducible rfl
        rotate_left
        ·
         simp only [Act.put, List.setIfInBounds_toArray, List.set_cons_zero, List.set_cons_succ, i64_w, i32_w]
         rfl
        refine pure_ (i := 52) (N := some 84) (v := ?_) (a' := ?_) (List.toArray (yq :: [yq,yq,yq,yq,yq,yq,yq,yq,yq,yq,yq,yq,yq,yq,yq,yq,yq,yq,yq,yq,yq,yq,yq,yq,yq,yq,yq,yq,yq,yq,yq,yq,yq,yq,yq,yq,yq,yq,yq,yq,yq,yq,yq,yq,yq,yq,yq,yq,yq,yq,nq,yq,nq,nq,nq,nq,nq,nq,nq,nq,nq,nq,nq])) rfl rfl (any_of HT_.out (by kernel_rfl)) (fun _ _ _ h => h) (Or.inl ⟨by rfl, ?_⟩) ?_ ?_
        rotate_left
        ·
         intro w'
         go_simp
         with_reducible rfl
        rotate_left
        ·
         simp only [Act.put, List.setIfInBounds_toArray, List.set_cons_zero, List.set_cons_succ, i64_w, i32_w]
         rfl
        refine take_ (i := 51) (N := some 83) (v := ?_) (a' := ?_) (List.toArray (yq :: [yq,yq,yq,yq,yq,yq,yq,yq,yq,yq,yq,yq,yq,yq,yq,yq,yq,yq,yq,yq,yq,yq,yq,yq,yq,yq,yq,yq,yq,yq,yq,yq,yq,yq,yq,yq,yq,yq,yq,yq,yq,yq,yq,yq,yq,yq,yq,yq,yq,yq,yq,yq,nq,nq,nq,nq,nq,nq,nq,nq,nq,nq,nq])) rfl rfl (take_ofW HT_.out HW_.out (by kernel_rfl)) (fun _ _ _ h => h) (Or.inl ⟨by rfl, ?_⟩) hHeld ?_ ?_
        rotate_left
        ·
         rintro w' ⟨s0, s1, s2, s3, s4, s5, s6, s7, s8, s9, s10, s11, s12, s13, s14, s15, s16, s17, s18, s19, s20, s21, s22, s23⟩
         go_simp
         with_reducible rfl
        rotate_left
        ·
         simp only [Act.put, List.setIfInBounds_toArray, List.set_cons_zero, List.set_cons_succ, i64_w, i32_w]
         rfl
        refine take_ (i := 53) (N := some 85) (v := ?_) (a' := ?_) (List.toArray (yq :: [yq,yq,yq,yq,yq,yq,yq,yq,yq,yq,yq,yq,yq,yq,yq,yq,yq,yq,yq,yq,yq,yq,yq,yq,yq,yq,yq,yq,yq,yq,yq,yq,yq,yq,yq,yq,yq,yq,yq,yq,yq,yq,yq,yq,yq,yq,yq,yq,yq,yq,yq,yq,yq,nq,nq,nq,nq,nq,nq,nq,nq,nq,nq])) rfl rfl (take_ofW HT_.out HW_.out (by kernel_rfl)) (fun _ _ _ h => h) (Or.inl ⟨by rfl, ?_⟩) hHeld ?_ ?_
        rotate_left
        ·
         rintro w' ⟨s0, s1, s2, s3, s4, s5, s6, s7, s8, s9, s10, s11, s12, s13, s14, s15, s16, s17, s18, s19, s20, s21, s22, s23⟩
         go_simp
         with_reducible rfl
        rotate_left
        ·
         simp only [Act.put, List.setIfInBounds_toArray, List.set_cons_zero, List.set_cons_succ, i64_w, i32_w]
         rfl
        refine one_ (i := 54) (N := some 86) (List.toArray (yq :: [yq,yq,yq,yq,yq,yq,yq,yq,yq,yq,yq,yq,yq,yq,yq,yq,yq,yq,yq,yq,yq,yq,yq,yq,yq,yq,yq,yq,yq,yq,yq,yq,yq,yq,yq,yq,yq,yq,yq,yq,yq,yq,yq,yq,yq,yq,yq,yq,yq,yq,yq,yq,yq,yq,nq,nq,nq,nq,nq,nq,nq,nq,nq])) rfl rfl (one_of HT_.out (by kernel_rfl)) (by decide) (fun K hK => ?_)
        refine goes_ Try.func18 (by kernel_rfl) rfl #[.int .i64 t285, .int .i64 t289, .int .i64 4] (by rfl) rfl rfl (by (try simp only [List.map_toArray, List.map_cons, List.map_nil]); first | done | rfl | (simp only [List.length_drop, List.length_take]; rfl)) ?_
        with_reducible refine (tourkeep1_near.calls t285 t289 4 true _ A24.out).mono ?_
        rintro e w' ⟨rfl, ⟨nd, rfl⟩⟩
        refine ⟨_, rfl, ?_⟩
        refine hK.out _ _ ⟨(blk_cell BK271.out 0).trans rfl, (blk_cell BK271.out 1).trans rfl, (blk_cell BK271.out 2).trans rfl, (blk_cell BK271.out 3).trans rfl, (blk_cell BK272.out 0).trans rfl, (blk_cell BK272.out 1).trans rfl, (blk_cell BK272.out 2).trans rfl, (blk_cell BK272.out 3).trans rfl, (blk_cell BK282.out 0).trans rfl, (blk_cell BK282.out 1).trans rfl, (blk_cell BK282.out 2).trans rfl, (blk_cell BK282.out 3).trans rfl, (blk_cell BK277.out 0).trans rfl, (blk_cell BK277.out 1).trans rfl, (blk_cell BK277.out 2).trans rfl, (blk_cell BK277.out 3).trans rfl, (blk_cell BK291.out 0).trans rfl, (blk_cell BK291.out 1).trans rfl, (blk_cell BK291.out 2).trans rfl, (blk_cell BK291.out 3).trans rfl, (blk_cell BK292.out 0).trans rfl, (blk_cell BK292.out 1).trans rfl, (blk_cell BK292.out 2).trans rfl, (blk_cell BK292.out 3).trans rfl⟩ (fun hHeld => ?_)
        clear hK K
        refine norm_ (a' := ?_) ?_ ?_
        rotate_left
        ·
         show Act.put _ (some 86) _ = _
         simp only [Act.put, List.setIfInBounds_toArray, List.set_cons_zero, List.set_cons_succ, i64_w, i32_w]
         rfl
        refine pure_ (i := 55) (N := some 87) (v := ?_) (a' := ?_) (List.toArray (yq :: [yq,yq,yq,yq,yq,yq,yq,yq,yq,yq,yq,yq,yq,yq,yq,yq,yq,yq,yq,yq,yq,yq,yq,yq,yq,yq,yq,yq,yq,yq,yq,yq,yq,yq,yq,yq,yq,yq,yq,yq,yq,yq,yq,yq,yq,yq,yq,yq,yq,yq,yq,yq,yq,yq,yq,nq,nq,nq,nq,nq,nq,nq,nq])) rfl rfl (any_of HT_.out (by kernel_rfl)) (fun _ _ _ h => h) (Or.inl ⟨by rfl, ?_⟩) ?_ ?_
        rotate_left
        ·
         intro w'
         go_simp
         with_reducible rfl
        rotate_left
        ·
         simp only [Act.put, List.setIfInBounds_toArray, List.set_cons_zero, List.set_cons_succ, i64_w, i32_w]
         rfl
        refine pure_ (i := 56) (N := some 88) (v := ?_) (a' := ?_) (List.toArray (yq :: [yq,yq,yq,yq,yq,yq,yq,yq,yq,yq,yq,yq,yq,yq,yq,yq,yq,yq,yq,yq,yq,yq,yq,yq,yq,yq,yq,yq,yq,yq,yq,yq,yq,yq,yq,yq,yq,yq,yq,yq,yq,yq,yq,yq,yq,yq,yq,yq,yq,yq,yq,yq,yq,yq,yq,yq,nq,nq,nq,nq,nq,nq,nq])) rfl rfl (any_of HT_.out (by kernel_rfl)) (fun _ _ _ h => h) (Or.inl ⟨by rfl, ?_⟩) ?_ ?_
        rotate_left
        ·
         intro w'
         go_simp
         with_reducible rfl
        rotate_left
        ·
         simp only [Act.put, List.setIfInBounds_toArray, List.set_cons_zero, List.set_cons_succ, i64_w, i32_w]
         rfl
        refine pure_ (i := 57) (N := some 89) (v := ?_) (a' := ?_) (List.toArray (yq :: [yq,yq,yq,yq,yq,yq,yq,yq,yq,yq,yq,yq,yq,yq,yq,yq,yq,yq,yq,yq,yq,yq,yq,yq,yq,yq,yq,yq,yq,yq,yq,yq,yq,yq,yq,yq,yq,yq,yq,yq,yq,yq,yq,yq,yq,yq,yq,yq,yq,yq,yq,yq,yq,yq,yq,yq,yq,nq,nq,nq,nq,nq,nq])) rfl rfl (any_of HT_.out (by kernel_rfl)) (fun _ _ _ h => h) (Or.inl ⟨by rfl, ?_⟩) ?_ ?_
        rotate_left
        ·
         intro w'
         go_simp
         with_reducible rfl
        rotate_left
        ·
         simp only [Act.put, List.setIfInBounds_toArray, List.set_cons_zero, List.set_cons_succ, i64_w, i32_w]
         rfl
        refine pure_ (i := 59) (N := some 91) (v := ?_) (a' := ?_) (List.toArray (yq :: [yq,yq,yq,yq,yq,yq,yq,yq,yq,yq,yq,yq,yq,yq,yq,yq,yq,yq,yq,yq,yq,yq,yq,yq,yq,yq,yq,yq,yq,yq,yq,yq,yq,yq,yq,yq,yq,yq,yq,yq,yq,yq,yq,yq,yq,yq,yq,yq,yq,yq,yq,yq,yq,yq,yq,yq,yq,nq,yq,nq,nq,nq,nq])) rfl rfl (any_of HT_.out (by kernel_rfl)) (fun _ _ _ h => h) (Or.inl ⟨by rfl, ?_⟩) ?_ ?_
        rotate_left
        ·
         intro w'
         go_simp
         with_reducible rfl
        rotate_left
        ·
         simp only [Act.put, List.setIfInBounds_toArray, List.set_cons_zero, List.set_cons_succ, i64_w, i32_w]
         rfl
        refine take_ (i := 58) (N := some 90) (v := ?_) (a' := ?_) (List.toArray (yq :: [yq,yq,yq,yq,yq,yq,yq,yq,yq,yq,yq,yq,yq,yq,yq,yq,yq,yq,yq,yq,yq,yq,yq,yq,yq,yq,yq,yq,yq,yq,yq,yq,yq,yq,yq,yq,yq,yq,yq,yq,yq,yq,yq,yq,yq,yq,yq,yq,yq,yq,yq,yq,yq,yq,yq,yq,yq,yq,yq,nq,nq,nq,nq])) rfl rfl (take_ofW HT_.out HW_.out (by kernel_rfl)) (fun _ _ _ h => h) (Or.inl ⟨by rfl, ?_⟩) hHeld ?_ ?_
        rotate_left
        ·
         rintro w' ⟨s0, s1, s2, s3, s4, s5, s6, s7, s8, s9, s10, s11, s12, s13, s14, s15, s16, s17, s18, s19, s20, s21, s22, s23⟩
         go_simp
         with_reducible rfl
        rotate_left
        ·
         simp only [Act.put, List.setIfInBounds_toArray, List.set_cons_zero, List.set_cons_succ, i64_w, i32_w]
         rfl
        refine take_ (i := 60) (N := some 92) (v := ?_) (a' := ?_) (List.toArray (yq :: [yq,yq,yq,yq,yq,yq,yq,yq,yq,yq,yq,yq,yq,yq,yq,yq,yq,yq,yq,yq,yq,yq,yq,yq,yq,yq,yq,yq,yq,yq,yq,yq,yq,yq,yq,yq,yq,yq,yq,yq,yq,yq,yq,yq,yq,yq,yq,yq,yq,yq,yq,yq,yq,yq,yq,yq,yq,yq,yq,yq,nq,nq,nq])) rfl rfl (take_ofW HT_.out HW_.out (by kernel_rfl)) (fun _ _ _ h => h) (Or.inl ⟨by rfl, ?_⟩) hHeld ?_ ?_
        rotate_left
        ·
         rintro w' ⟨s0, s1, s2, s3, s4, s5, s6, s7, s8, s9, s10, s11, s12, s13, s14, s15, s16, s17, s18, s19, s20, s21, s22, s23⟩
         go_simp
         with_reducible rfl
        rotate_left
        ·
         simp only [Act.put, List.setIfInBounds_toArray, List.set_cons_zero, List.set_cons_succ, i64_w, i32_w]
         rfl
        refine one_ (i := 61) (N := some 93) (List.toArray (yq :: [yq,yq,yq,yq,yq,yq,yq,yq,yq,yq,yq,yq,yq,yq,yq,yq,yq,yq,yq,yq,yq,yq,yq,yq,yq,yq,yq,yq,yq,yq,yq,yq,yq,yq,yq,yq,yq,yq,yq,yq,yq,yq,yq,yq,yq,yq,yq,yq,yq,yq,yq,yq,yq,yq,yq,yq,yq,yq,yq,yq,yq,nq,nq])) rfl rfl (one_of HT_.out (by kernel_rfl)) (by decide) (fun K hK => ?_)
        refine goes_ Try.func18 (by kernel_rfl) rfl #[.int .i64 t286, .int .i64 t290, .int .i64 4] (by rfl) rfl rfl (by (try simp only [List.map_toArray, List.map_cons, List.map_nil]); first | done | rfl | (simp only [List.length_drop, List.length_take]; rfl)) ?_
        with_reducible refine (tourkeep1_near.calls t286 t290 4 t310 _ A26.out).mono ?_
        rintro e w' ⟨rfl, ⟨nd, rfl⟩⟩
        refine ⟨_, rfl, ?_⟩
        refine hK.out _ _ ⟨(blk_cell BK271.out 0).trans rfl, (blk_cell BK271.out 1).trans rfl, (blk_cell BK271.out 2).trans rfl, (blk_cell BK271.out 3).trans rfl, (blk_cell BK272.out 0).trans rfl, (blk_cell BK272.out 1).trans rfl, (blk_cell BK272.out 2).trans rfl, (blk_cell BK272.out 3).trans rfl, (blk_cell BK282.out 0).trans rfl, (blk_cell BK282.out 1).trans rfl, (blk_cell BK282.out 2).trans rfl, (blk_cell BK282.out 3).trans rfl, (blk_cell BK277.out 0).trans rfl, (blk_cell BK277.out 1).trans rfl, (blk_cell BK277.out 2).trans rfl, (blk_cell BK277.out 3).trans rfl, (blk_cell BK291.out 0).trans rfl, (blk_cell BK291.out 1).trans rfl, (blk_cell BK291.out 2).trans rfl, (blk_cell BK291.out 3).trans rfl, (blk_cell BK292.out 0).trans rfl, (blk_cell BK292.out 1).trans rfl, (blk_cell BK292.out 2).trans rfl, (blk_cell BK292.out 3).trans rfl⟩ (fun hHeld => ?_)
        clear hK K
        refine norm_ (a' := ?_) ?_ ?_
        rotate_left
        ·
         show Act.put _ (some 93) _ = _
         simp only [Act.put, List.setIfInBounds_toArray, List.set_cons_zero, List.set_cons_succ, i64_w, i32_w]
         rfl
        refine pure_ (i := 62) (N := some 94) (v := ?_) (a' := ?_) (List.toArray (yq :: [yq,yq,yq,yq,yq,yq,yq,yq,yq,yq,yq,yq,yq,yq,yq,yq,yq,yq,yq,yq,yq,yq,yq,yq,yq,yq,yq,yq,yq,yq,yq,yq,yq,yq,yq,yq,yq,yq,yq,yq,yq,yq,yq,yq,yq,yq,yq,yq,yq,yq,yq,yq,yq,yq,yq,yq,yq,yq,yq,yq,yq,yq,nq])) rfl rfl (any_of HT_.out (by kernel_rfl)) (fun _ _ _ h => h) (Or.inl ⟨by rfl, ?_⟩) ?_ ?_
        rotate_left
        ·
         intro w'
         go_simp
         with_reducible rfl
        rotate_left
        ·
         simp only [Act.put, List.setIfInBounds_toArray, List.set_cons_zero, List.set_cons_succ, i64_w, i32_w]
         rfl
        refine pure_ (i := 63) (N := some 6) (v := ?_) (a' := ?_) (List.toArray (yq :: [yq,yq,yq,yq,yq,yq,yq,yq,yq,yq,yq,yq,yq,yq,yq,yq,yq,yq,yq,yq,yq,yq,yq,yq,yq,yq,yq,yq,yq,yq,yq,yq,yq,yq,yq,yq,yq,yq,yq,yq,yq,yq,yq,yq,yq,yq,yq,yq,yq,yq,yq,yq,yq,yq,yq,yq,yq,yq,yq,yq,yq,yq,yq])) rfl rfl (any_of HT_.out (by kernel_rfl)) (fun _ _ _ h => h) (Or.inl ⟨by rfl, ?_⟩) ?_ ?_
        rotate_left
        ·
         intro w'
         go_simp
         with_reducible rfl
        rotate_left
        ·
         simp only [Act.put, List.setIfInBounds_toArray, List.set_cons_zero, List.set_cons_succ, i64_w, i32_w]
         rfl
        refine done_ (done_of HT_.out (by kernel_rfl)) ?_
        try go_wp2
        go_ret
        exact ⟨by first | rfl | (simp [errW_none, errW_some] <;> rfl) | (simp [*, errW_none, errW_some] <;> rfl), by repeat (first | (with_reducible first | exact HB.out | apply below_alloc | apply pw_below_drewN | apply below_drew1 | refine below_set ?_ GE260.out | refine below_set ?_ GE261.out | refine below_set ?_ GE271.out | refine below_set ?_ GE272.out | refine below_set ?_ GE277.out | refine below_set ?_ GE282.out | refine below_set ?_ GE291.out | refine below_set ?_ GE292.out) | exact HB.out)⟩
       ·
        replace c25 := Bool.eq_false_iff.mpr c25
        subst c25
        have H1 : (none) = some r := by rw [if_neg (show ¬ (false = true) by decide)] at H; exact H
        clear H
        have H := H1
        clear H1
        exact absurd H (by simp)
      ·
       replace c23 := Bool.eq_false_iff.mpr c23
       subst c23
       have H1 : (none) = some r := by rw [if_neg (show ¬ (false = true) by decide)] at H; exact H
       clear H
       have H := H1
       clear H1
       exact absurd H (by simp)
     ·
      replace c21 := Bool.eq_false_iff.mpr c21
      subst c21
      have H1 : (none) = some r := by rw [if_neg (show ¬ (false = true) by decide)] at H; exact H
      clear H
      have H := H1
      clear H1
      exact absurd H (by simp)
    ·
     replace c19 := Bool.eq_false_iff.mpr c19
     subst c19
     have H1 : (none) = some r := by rw [if_neg (show ¬ (false = true) by decide)] at H; exact H
     clear H
     have H := H1
     clear H1
     exact absurd H (by simp)
   ·
    rw [if_neg c16] at H
    have c16b0 : (t278 == t301 && (t279 == t302 && (t280 == t303 && (t281 == t304)))) = false := by simpa using c16
    (try (have c16b1 : decide (t278 = t301 && (t279 == t302 && (t280 == t303 && (t281 == t304)))) = false := by simpa using c16))
    (try (have c16b2 : (t278 == t301 && (t279 == t302 && (t280 == t303 && (t281 == t304)))) = false := by simpa using c16))
    (try (have c16b3 : ¬ (t278 = t301 && (t279 == t302 && (t280 == t303 && (t281 == t304)))) := by simpa using c16))
    clear c16
    replace H := Option.bind_eq_some_iff.mp H
    obtain ⟨⟨t311, t312, t313, t314⟩, A890, H⟩ := H
    replace H : (if (t278 == t311 && (t279 == t312 && (t280 == t313 && (t281 == t314)))) = true then ((tourkeep1_square.f t273 t274 t275 t276).bind fun t315 => ((tourkeep1_near.f t315 65536 8).bind fun t316 => (if t316 = true then ((tourkeep1_near.f t283 t287 4).bind fun t317 => (if t317 = true then ((tourkeep1_near.f t284 t288 4).bind fun t318 => (if t318 = true then ((tourkeep1_near.f t285 t289 4).bind fun t319 => (if t319 = true then ((tourkeep1_near.f t286 t290 4).bind fun t320 => (some t320)) else (none))) else (none))) else (none))) else (none)))) else (none)) = some r := H
    have A89 := Aside0.mk A890
    clear A890
    by_cases c90 : (t278 == t311 && (t279 == t312 && (t280 == t313 && (t281 == t314)))) = true
    ·
     rw [if_pos c90] at H
     have c90b0 : (t278 == t311 && (t279 == t312 && (t280 == t313 && (t281 == t314)))) = true := c90
     (try (have c90b1 : decide (t278 = t311 && (t279 == t312 && (t280 == t313 && (t281 == t314)))) = true := by simpa using c90))
     (try (have c90b2 : (t278 == t311 && (t279 == t312 && (t280 == t313 && (t281 == t314)))) = true := by simpa using c90))
     clear c90
     replace H := Option.bind_eq_some_iff.mp H
     obtain ⟨t315, A910, H⟩ := H
     replace H : ((tourkeep1_near.f t315 65536 8).bind fun t316 => (if t316 = true then ((tourkeep1_near.f t283 t287 4).bind fun t317 => (if t317 = true then ((tourkeep1_near.f t284 t288 4).bind fun t318 => (if t318 = true then ((tourkeep1_near.f t285 t289 4).bind fun t319 => (if t319 = true then ((tourkeep1_near.f t286 t290 4).bind fun t320 => (some t320)) else (none))) else (none))) else (none))) else (none))) = some r := H
     have A91 := Aside0.mk A910
     clear A910
     replace H := Option.bind_eq_some_iff.mp H
     obtain ⟨t316, A920, H⟩ := H
     replace H : (if t316 = true then ((tourkeep1_near.f t283 t287 4).bind fun t317 => (if t317 = true then ((tourkeep1_near.f t284 t288 4).bind fun t318 => (if t318 = true then ((tourkeep1_near.f t285 t289 4).bind fun t319 => (if t319 = true then ((tourkeep1_near.f t286 t290 4).bind fun t320 => (some t320)) else (none))) else (none))) else (none))) else (none)) = some r := H
     have A92 := Aside0.mk A920
     clear A920
     by_cases c93 : t316 = true
     ·
      subst c93
      have H1 : ((tourkeep1_near.f t283 t287 4).bind fun t317 => (if t317 = true then ((tourkeep1_near.f t284 t288 4).bind fun t318 => (if t318 = true then ((tourkeep1_near.f t285 t289 4).bind fun t319 => (if t319 = true then ((tourkeep1_near.f t286 t290 4).bind fun t320 => (some t320)) else (none))) else (none))) else (none))) = some r := by rw [if_pos rfl] at H; exact H
      clear H
      have H := H1
      clear H1
      replace H := Option.bind_eq_some_iff.mp H
      obtain ⟨t317, A940, H⟩ := H
      replace H : (if t317 = true then ((tourkeep1_near.f t284 t288 4).bind fun t318 => (if t318 = true then ((tourkeep1_near.f t285 t289 4).bind fun t319 => (if t319 = true then ((tourkeep1_near.f t286 t290 4).bind fun t320 => (some t320)) else (none))) else (none))) else (none)) = some r := H
      have A94 := Aside0.mk A940
      clear A940
      by_cases c95 : t317 = true
      ·
       subst c95
       have H1 : ((tourkeep1_near.f t284 t288 4).bind fun t318 => (if t318 = true then ((tourkeep1_near.f t285 t289 4).bind fun t319 => (if t319 = true then ((tourkeep1_near.f t286 t290 4).bind fun t320 => (some t320)) else (none))) else (none))) = some r := by rw [if_pos rfl] at H; exact H
       clear H
       have H := H1
       clear H1
       replace H := Option.bind_eq_some_iff.mp H
       obtain ⟨t318, A960, H⟩ := H
       replace H : (if t318 = true then ((tourkeep1_near.f t285 t289 4).bind fun t319 => (if t319 = true then ((tourkeep1_near.f t286 t290 4).bind fun t320 => (some t320)) else (none))) else (none)) = some r := H
       have A96 := Aside0.mk A960
       clear A960
       by_cases c97 : t318 = true
       ·
        subst c97
        have H1 : ((tourkeep1_near.f t285 t289 4).bind fun t319 => (if t319 = true then ((tourkeep1_near.f t286 t290 4).bind fun t320 => (some t320)) else (none))) = some r := by rw [if_pos rfl] at H; exact H
        clear H
        have H := H1
        clear H1
        replace H := Option.bind_eq_some_iff.mp H
        obtain ⟨t319, A980, H⟩ := H
        replace H : (if t319 = true then ((tourkeep1_near.f t286 t290 4).bind fun t320 => (some t320)) else (none)) = some r := H
        have A98 := Aside0.mk A980
        clear A980
        by_cases c99 : t319 = true
        ·
         subst c99
         have H1 : ((tourkeep1_near.f t286 t290 4).bind fun t320 => (some t320)) = some r := by rw [if_pos rfl] at H; exact H
         clear H
         have H := H1
         clear H1
         replace H := Option.bind_eq_some_iff.mp H
         obtain ⟨t320, A1000, H⟩ := H
         replace H : (some t320) = some r := H
         have A100 := Aside0.mk A1000
         clear A1000
         obtain rfl := Option.some.inj H
         refine start_ (n := 64) (S := fun w' => w'.cell? ⟨gb271, 0, none⟩ = some (.int .i64 t263) ∧ w'.cell? ⟨gb271, 1, none⟩ = some (.int .i64 t264) ∧ w'.cell? ⟨gb271, 2, none⟩ = some (.int .i64 t265) ∧ w'.cell? ⟨gb271, 3, none⟩ = some (.int .i64 t266) ∧ w'.cell? ⟨gb272, 0, none⟩ = some (.int .i64 t267) ∧ w'.cell? ⟨gb272, 1, none⟩ = some (.int .i64 t268) ∧ w'.cell? ⟨gb272, 2, none⟩ = some (.int .i64 t269) ∧ w'.cell? ⟨gb272, 3, none⟩ = some (.int .i64 t270) ∧ w'.cell? ⟨gb282, 0, none⟩ = some (.int .i64 t278) ∧ w'.cell? ⟨gb282, 1, none⟩ = some (.int .i64 t279) ∧ w'.cell? ⟨gb282, 2, none⟩ = some (.int .i64 t280) ∧ w'.cell? ⟨gb282, 3, none⟩ = some (.int .i64 t281) ∧ w'.cell? ⟨gb277, 0, none⟩ = some (.int .i64 t273) ∧ w'.cell? ⟨gb277, 1, none⟩ = some (.int .i64 t274) ∧ w'.cell? ⟨gb277, 2, none⟩ = some (.int .i64 t275) ∧ w'.cell? ⟨gb277, 3, none⟩ = some (.int .i64 t276) ∧ w'.cell? ⟨gb291, 0, none⟩ = some (.int .i64 t283) ∧ w'.cell? ⟨gb291, 1, none⟩ = some (.int .i64 t284) ∧ w'.cell? ⟨gb291, 2, none⟩ = some (.int .i64 t285) ∧ w'.cell? ⟨gb291, 3, none⟩ = some (.int .i64 t286) ∧ w'.cell? ⟨gb292, 0, none⟩ = some (.int .i64 t287) ∧ w'.cell? ⟨gb292, 1, none⟩ = some (.int .i64 t288) ∧ w'.cell? ⟨gb292, 2, none⟩ = some (.int .i64 t289) ∧ w'.cell? ⟨gb292, 3, none⟩ = some (.int .i64 t290)) (ds := []) (List.toArray (nq :: [nq,nq,nq,nq,nq,nq,nq,nq,nq,nq,nq,nq,nq,nq,nq,nq,nq,nq,nq,nq,nq,nq,nq,nq,nq,nq,nq,nq,nq,nq,nq,nq,nq,nq,nq,nq,nq,nq,nq,nq,nq,nq,nq,nq,nq,nq,nq,nq,nq,nq,nq,nq,nq,nq,nq,nq,nq,nq,nq,nq,nq,nq,nq])) (by kernel_rfl) rfl rfl ⟨(blk_cell BK271.out 0).trans rfl, (blk_cell BK271.out 1).trans rfl, (blk_cell BK271.out 2).trans rfl, (blk_cell BK271.out 3).trans rfl, (blk_cell BK272.out 0).trans rfl, (blk_cell BK272.out 1).trans rfl, (blk_cell BK272.out 2).trans rfl, (blk_cell BK272.out 3).trans rfl, (blk_cell BK282.out 0).trans rfl, (blk_cell BK282.out 1).trans rfl, (blk_cell BK282.out 2).trans rfl, (blk_cell BK282.out 3).trans rfl, (blk_cell BK277.out 0).trans rfl, (blk_cell BK277.out 1).trans rfl, (blk_cell BK277.out 2).trans rfl, (blk_cell BK277.out 3).trans rfl, (blk_cell BK291.out 0).trans rfl, (blk_cell BK291.out 1).trans rfl, (blk_cell BK291.out 2).trans rfl, (blk_cell BK291.out 3).trans rfl, (blk_cell BK292.out 0).trans rfl, (blk_cell BK292.out 1).trans rfl, (blk_cell BK292.out 2).trans rfl, (blk_cell BK292.out 3).trans rfl⟩ (fun hHeld => ?_); refine with_tabW tourkeep1_QuatBlends.tab7 tourkeep1_QuatBlends.bits7 (fun HT_ HW_ => ?_)
         generalize wc.drew = w84 at BK271 BK272 BK277 BK282 BK291 BK292 HB hHeld ⊢
         refine take_ (i := 0) (N := some 32) (v := ?_) (a' := ?_) (List.toArray (yq :: [nq,nq,nq,nq,nq,nq,nq,nq,nq,nq,nq,nq,nq,nq,nq,nq,nq,nq,nq,nq,nq,nq,nq,nq,nq,nq,nq,nq,nq,nq,nq,nq,nq,nq,nq,nq,nq,nq,nq,nq,nq,nq,nq,nq,nq,nq,nq,nq,nq,nq,nq,nq,nq,nq,nq,nq,nq,nq,nq,nq,nq,nq,nq])) rfl rfl (take_ofW HT_.out HW_.out (by kernel_rfl)) (fun _ _ _ h => h) (Or.inl ⟨by rfl, ?_⟩) hHeld ?_ ?_
         rotate_left
         ·
          rintro w' ⟨s0, s1, s2, s3, s4, s5, s6, s7, s8, s9, s10, s11, s12, s13, s14, s15, s16, s17, s18, s19, s20, s21, s22, s23⟩
          go_simp
          with_reducible rfl
         rotate_left
         ·
          simp only [Act.put, List.setIfInBounds_toArray, List.set_cons_zero, List.set_cons_succ, i64_w, i32_w]
          rfl
         refine take_ (i := 1) (N := some 33) (v := ?_) (a' := ?_) (List.toArray (yq :: [yq,nq,nq,nq,nq,nq,nq,nq,nq,nq,nq,nq,nq,nq,nq,nq,nq,nq,nq,nq,nq,nq,nq,nq,nq,nq,nq,nq,nq,nq,nq,nq,nq,nq,nq,nq,nq,nq,nq,nq,nq,nq,nq,nq,nq,nq,nq,nq,nq,nq,nq,nq,nq,nq,nq,nq,nq,nq,nq,nq,nq,nq,nq])) rfl rfl (take_ofW HT_.out HW_.out (by kernel_rfl)) (fun _ _ _ h => h) (Or.inl ⟨by rfl, ?_⟩) hHeld ?_ ?_
         rotate_left
         ·
          rintro w' ⟨s0, s1, s2, s3, s4, s5, s6, s7, s8, s9, s10, s11, s12, s13, s14, s15, s16, s17, s18, s19, s20, s21, s22, s23⟩
          go_simp
          with_reducible rfl
         rotate_left
         ·
          simp only [Act.put, List.setIfInBounds_toArray, List.set_cons_zero, List.set_cons_succ, i64_w, i32_w]
          rfl
         refine take_ (i := 3) (N := some 35) (v := ?_) (a' := ?_) (List.toArray (yq :: [yq,nq,yq,nq,nq,nq,nq,nq,nq,nq,nq,nq,nq,nq,nq,nq,nq,nq,nq,nq,nq,nq,nq,nq,nq,nq,nq,nq,nq,nq,nq,nq,nq,nq,nq,nq,nq,nq,nq,nq,nq,nq,nq,nq,nq,nq,nq,nq,nq,nq,nq,nq,nq,nq,nq,nq,nq,nq,nq,nq,nq,nq,nq])) rfl rfl (take_ofW HT_.out HW_.out (by kernel_rfl)) (fun _ _ _ h => h) (Or.inl ⟨by rfl, ?_⟩) hHeld ?_ ?_
         rotate_left
         ·
          rintro w' ⟨s0, s1, s2, s3, s4, s5, s6, s7, s8, s9, s10, s11, s12, s13, s14, s15, s16, s17, s18, s19, s20, s21, s22, s23⟩
          go_simp
          with_reducible rfl
         rotate_left
         ·
          simp only [Act.put, List.setIfInBounds_toArray, List.set_cons_zero, List.set_cons_succ, i64_w, i32_w]
          rfl
         refine one_ (i := 2) (N := some 34) (List.toArray (yq :: [yq,yq,yq,nq,nq,nq,nq,nq,nq,nq,nq,nq,nq,nq,nq,nq,nq,nq,nq,nq,nq,nq,nq,nq,nq,nq,nq,nq,nq,nq,nq,nq,nq,nq,nq,nq,nq,nq,nq,nq,nq,nq,nq,nq,nq,nq,nq,nq,nq,nq,nq,nq,nq,nq,nq,nq,nq,nq,nq,nq,nq,nq,nq])) rfl rfl (one_of HT_.out (by kernel_rfl)) (by decide) (fun K hK => ?_)
         refine goes_ Try.func36 (by kernel_rfl) rfl #[.agg #[.int .i64 t263, .int .i64 t264, .int .i64 t265, .int .i64 t266], .agg #[.int .i64 t267, .int .i64 t268, .int .i64 t269, .int .i64 t270], .int .i64 0] (by rfl) rfl rfl (by (try simp only [List.map_toArray, List.map_cons, List.map_nil]); first | done | rfl | (simp only [List.length_drop, List.length_take]; rfl)) ?_
         with_reducible refine (quat_Blend.calls k t263 t264 t265 t266 t267 t268 t269 t270 0 t293 t294 t295 t296 _ A12.out).mono ?_
         rintro e w85 ⟨rfl, hb⟩
         refine ⟨_, rfl, ?_⟩
         have n2_ := Aside0.mk (blk_below (g := gb271) (o := .cells #[.int .i64 t263, .int .i64 t264, .int .i64 t265, .int .i64 t266] 39 (0, 0)) (by (with_reducible repeat (first | refine blk_drewN ?_ _ | refine blk_drew ?_ | refine blk_alloc ?_ _)); exact BK271.out) hb)
         have n3_ := Aside0.mk (blk_below (g := gb272) (o := .cells #[.int .i64 t267, .int .i64 t268, .int .i64 t269, .int .i64 t270] 39 (0, 0)) (by (with_reducible repeat (first | refine blk_drewN ?_ _ | refine blk_drew ?_ | refine blk_alloc ?_ _)); exact BK272.out) hb)
         have n4_ := Aside0.mk (blk_below (g := gb277) (o := .cells #[.int .i64 t273, .int .i64 t274, .int .i64 t275, .int .i64 t276] 39 (0, 0)) (by (with_reducible repeat (first | refine blk_drewN ?_ _ | refine blk_drew ?_ | refine blk_alloc ?_ _)); exact BK277.out) hb)
         have n5_ := Aside0.mk (blk_below (g := gb282) (o := .cells #[.int .i64 t278, .int .i64 t279, .int .i64 t280, .int .i64 t281] 39 (0, 0)) (by (with_reducible repeat (first | refine blk_drewN ?_ _ | refine blk_drew ?_ | refine blk_alloc ?_ _)); exact BK282.out) hb)
         have n6_ := Aside0.mk (blk_below (g := gb291) (o := .cells #[.int .i64 t283, .int .i64 t284, .int .i64 t285, .int .i64 t286] 39 (0, 0)) (by (with_reducible repeat (first | refine blk_drewN ?_ _ | refine blk_drew ?_ | refine blk_alloc ?_ _)); exact BK291.out) hb)
         have n7_ := Aside0.mk (blk_below (g := gb292) (o := .cells #[.int .i64 t287, .int .i64 t288, .int .i64 t289, .int .i64 t290] 39 (0, 0)) (by (with_reducible repeat (first | refine blk_drewN ?_ _ | refine blk_drew ?_ | refine blk_alloc ?_ _)); exact BK292.out) hb)
         have n8_ := Aside0.mk (below_step (by repeat (first | (with_reducible first | exact HB.out | apply below_alloc | apply pw_below_drewN | apply below_drew1 | refine below_set ?_ GE260.out | refine below_set ?_ GE261.out | refine below_set ?_ GE271.out | refine below_set ?_ GE272.out | refine below_set ?_ GE277.out | refine below_set ?_ GE282.out | refine below_set ?_ GE291.out | refine below_set ?_ GE292.out) | exact HB.out)) hb)
         clear BK271
         clear BK272
         clear BK277
         clear BK282
         clear BK291
         clear BK292
         clear HB
         have BK271 := n2_
         have BK272 := n3_
         have BK277 := n4_
         have BK282 := n5_
         have BK291 := n6_
         have BK292 := n7_
         have HB := n8_
         clear n2_ n3_ n4_ n5_ n6_ n7_ n8_
         (try clear hb)
         (try clear hb2)
         (try clear hk)
         (try clear hi)
         refine hK.out _ _ ⟨(blk_cell BK271.out 0).trans rfl, (blk_cell BK271.out 1).trans rfl, (blk_cell BK271.out 2).trans rfl, (blk_cell BK271.out 3).trans rfl, (blk_cell BK272.out 0).trans rfl, (blk_cell BK272.out 1).trans rfl, (blk_cell BK272.out 2).trans rfl, (blk_cell BK272.out 3).trans rfl, (blk_cell BK282.out 0).trans rfl, (blk_cell BK282.out 1).trans rfl, (blk_cell BK282.out 2).trans rfl, (blk_cell BK282.out 3).trans rfl, (blk_cell BK277.out 0).trans rfl, (blk_cell BK277.out 1).trans rfl, (blk_cell BK277.out 2).trans rfl, (blk_cell BK277.out 3).trans rfl, (blk_cell BK291.out 0).trans rfl, (blk_cell BK291.out 1).trans rfl, (blk_cell BK291.out 2).trans rfl, (blk_cell BK291.out 3).trans rfl, (blk_cell BK292.out 0).trans rfl, (blk_cell BK292.out 1).trans rfl, (blk_cell BK292.out 2).trans rfl, (blk_cell BK292.out 3).trans rfl⟩ (fun hHeld => ?_)
         clear hK K
         refine norm_ (a' := ?_) ?_ ?_
         rotate_left
         ·
          show Act.put _ (some 34) _ = _
          simp only [Act.put, List.setIfInBounds_toArray, List.set_cons_zero, List.set_cons_succ, i64_w, i32_w]
          rfl
         refine one_ (i := 4) (N := some 36) (List.toArray (yq :: [yq,yq,yq,yq,nq,nq,nq,nq,nq,nq,nq,nq,nq,nq,nq,nq,nq,nq,nq,nq,nq,nq,nq,nq,nq,nq,nq,nq,nq,nq,nq,nq,nq,nq,nq,nq,nq,nq,nq,nq,nq,nq,nq,nq,nq,nq,nq,nq,nq,nq,nq,nq,nq,nq,nq,nq,nq,nq,nq,nq,nq,nq,nq])) rfl rfl (one_of HT_.out (by kernel_rfl)) (by decide) (fun K hK => ?_)
         refine goes_ Try.func37 (by kernel_rfl) rfl #[.agg #[.int .i64 t263, .int .i64 t264, .int .i64 t265, .int .i64 t266]] (by rfl) rfl rfl (by (try simp only [List.map_toArray, List.map_cons, List.map_nil]); first | done | rfl | (simp only [List.length_drop, List.length_take]; rfl)) ?_
         with_reducible refine (quat_Unit.calls k t263 t264 t265 t266 t297 t298 t299 t300 _ A13.out).mono ?_
         rintro e w86 ⟨rfl, hb⟩
         refine ⟨_, rfl, ?_⟩
         have n2_ := Aside0.mk (blk_below (g := gb271) (o := .cells #[.int .i64 t263, .int .i64 t264, .int .i64 t265, .int .i64 t266] 39 (0, 0)) (by (with_reducible repeat (first | refine blk_drewN ?_ _ | refine blk_drew ?_ | refine blk_alloc ?_ _)); exact BK271.out) hb)
         have n3_ := Aside0.mk (blk_below (g := gb272) (o := .cells #[.int .i64 t267, .int .i64 t268, .int .i64 t269, .int .i64 t270] 39 (0, 0)) (by (with_reducible repeat (first | refine blk_drewN ?_ _ | refine blk_drew ?_ | refine blk_alloc ?_ _)); exact BK272.out) hb)
         have n4_ := Aside0.mk (blk_below (g := gb277) (o := .cells #[.int .i64 t273, .int .i64 t274, .int .i64 t275, .int .i64 t276] 39 (0, 0)) (by (with_reducible repeat (first | refine blk_drewN ?_ _ | refine blk_drew ?_ | refine blk_alloc ?_ _)); exact BK277.out) hb)
         have n5_ := Aside0.mk (blk_below (g := gb282) (o := .cells #[.int .i64 t278, .int .i64 t279, .int .i64 t280, .int .i64 t281] 39 (0, 0)) (by (with_reducible repeat (first | refine blk_drewN ?_ _ | refine blk_drew ?_ | refine blk_alloc ?_ _)); exact BK282.out) hb)
         have n6_ := Aside0.mk (blk_below (g := gb291) (o := .cells #[.int .i64 t283, .int .i64 t284, .int .i64 t285, .int .i64 t286] 39 (0, 0)) (by (with_reducible repeat (first | refine blk_drewN ?_ _ | refine blk_drew ?_ | refine blk_alloc ?_ _)); exact BK291.out) hb)
         have n7_ := Aside0.mk (blk_below (g := gb292) (o := .cells #[.int .i64 t287, .int .i64 t288, .int .i64 t289, .int .i64 t290] 39 (0, 0)) (by (with_reducible repeat (first | refine blk_drewN ?_ _ | refine blk_drew ?_ | refine blk_alloc ?_ _)); exact BK292.out) hb)
         have n8_ := Aside0.mk (below_step (by repeat (first | (with_reducible first | exact HB.out | apply below_alloc | apply pw_below_drewN | apply below_drew1 | refine below_set ?_ GE260.out | refine below_set ?_ GE261.out | refine below_set ?_ GE271.out | refine below_set ?_ GE272.out | refine below_set ?_ GE277.out | refine below_set ?_ GE282.out | refine below_set ?_ GE291.out | refine below_set ?_ GE292.out) | exact HB.out)) hb)
         clear BK271
         clear BK272
         clear BK277
         clear BK282
         clear BK291
         clear BK292
         clear HB
         have BK271 := n2_
         have BK272 := n3_
         have BK277 := n4_
         have BK282 := n5_
         have BK291 := n6_
         have BK292 := n7_
         have HB := n8_
         clear n2_ n3_ n4_ n5_ n6_ n7_ n8_
         (try clear hb)
         (try clear hb2)
         (try clear hk)
         (try clear hi)
         refine hK.out _ _ ⟨(blk_cell BK271.out 0).trans rfl, (blk_cell BK271.out 1).trans rfl, (blk_cell BK271.out 2).trans rfl, (blk_cell BK271.out 3).trans rfl, (blk_cell BK272.out 0).trans rfl, (blk_cell BK272.out 1).trans rfl, (blk_cell BK272.out 2).trans rfl, (blk_cell BK272.out 3).trans rfl, (blk_cell BK282.out 0).trans rfl, (blk_cell BK282.out 1).trans rfl, (blk_cell BK282.out 2).trans rfl, (blk_cell BK282.out 3).trans rfl, (blk_cell BK277.out 0).trans rfl, (blk_cell BK277.out 1).trans rfl, (blk_cell BK277.out 2).trans rfl, (blk_cell BK277.out 3).trans rfl, (blk_cell BK291.out 0).trans rfl, (blk_cell BK291.out 1).trans rfl, (blk_cell BK291.out 2).trans rfl, (blk_cell BK291.out 3).trans rfl, (blk_cell BK292.out 0).trans rfl, (blk_cell BK292.out 1).trans rfl, (blk_cell BK292.out 2).trans rfl, (blk_cell BK292.out 3).trans rfl⟩ (fun hHeld => ?_)
         clear hK K
         refine norm_ (a' := ?_) ?_ ?_
         rotate_left
         ·
          show Act.put _ (some 36) _ = _
          simp only [Act.put, List.setIfInBounds_toArray, List.set_cons_zero, List.set_cons_succ, i64_w, i32_w]
          rfl
         refine pure_ (i := 5) (N := some 37) (v := ?_) (a' := ?_) (List.toArray (yq :: [yq,yq,yq,yq,yq,nq,nq,nq,nq,nq,nq,nq,nq,nq,nq,nq,nq,nq,nq,nq,nq,nq,nq,nq,nq,nq,nq,nq,nq,nq,nq,nq,nq,nq,nq,nq,nq,nq,nq,nq,nq,nq,nq,nq,nq,nq,nq,nq,nq,nq,nq,nq,nq,nq,nq,nq,nq,nq,nq,nq,nq,nq,nq])) rfl rfl (any_of HT_.out (by kernel_rfl)) (fun _ _ _ h => h) (Or.inl ⟨by rfl, ?_⟩) ?_ ?_
         rotate_left
         ·
          intro w'
          go_simp
          with_reducible rfl
         rotate_left
         ·
          simp only [Act.put, List.setIfInBounds_toArray, List.set_cons_zero, List.set_cons_succ, i64_w, i32_w]
          rfl
         refine pure_ (i := 6) (N := some 38) (v := ?_) (a' := ?_) (List.toArray (yq :: [yq,yq,yq,yq,yq,yq,nq,nq,nq,nq,nq,nq,nq,nq,nq,nq,nq,nq,nq,nq,nq,nq,nq,nq,nq,nq,nq,nq,nq,nq,nq,nq,nq,nq,nq,nq,nq,nq,nq,nq,nq,nq,nq,nq,nq,nq,nq,nq,nq,nq,nq,nq,nq,nq,nq,nq,nq,nq,nq,nq,nq,nq,nq])) rfl rfl (any_of HT_.out (by kernel_rfl)) (fun _ _ _ h => h) (Or.inl ⟨by rfl, ?_⟩) ?_ ?_
         rotate_left
         ·
          intro w'
          go_simp
          with_reducible rfl
         rotate_left
         ·
          simp only [Act.put, List.setIfInBounds_toArray, List.set_cons_zero, List.set_cons_succ, i64_w, i32_w]
          rfl
         refine take_ (i := 7) (N := some 39) (v := ?_) (a' := ?_) (List.toArray (yq :: [yq,yq,yq,yq,yq,yq,yq,nq,nq,nq,nq,nq,nq,nq,nq,nq,nq,nq,nq,nq,nq,nq,nq,nq,nq,nq,nq,nq,nq,nq,nq,nq,nq,nq,nq,nq,nq,nq,nq,nq,nq,nq,nq,nq,nq,nq,nq,nq,nq,nq,nq,nq,nq,nq,nq,nq,nq,nq,nq,nq,nq,nq,nq])) rfl rfl (take_ofW HT_.out HW_.out (by kernel_rfl)) (fun _ _ _ h => h) (Or.inl ⟨by rfl, ?_⟩) hHeld ?_ ?_
         rotate_left
         ·
          rintro w' ⟨s0, s1, s2, s3, s4, s5, s6, s7, s8, s9, s10, s11, s12, s13, s14, s15, s16, s17, s18, s19, s20, s21, s22, s23⟩
          go_simp
          with_reducible rfl
         rotate_left
         ·
          simp only [Act.put, List.setIfInBounds_toArray, List.set_cons_zero, List.set_cons_succ, i64_w, i32_w]
          rfl
         refine take_ (i := 8) (N := some 40) (v := ?_) (a' := ?_) (List.toArray (yq :: [yq,yq,yq,yq,yq,yq,yq,yq,nq,nq,nq,nq,nq,nq,nq,nq,nq,nq,nq,nq,nq,nq,nq,nq,nq,nq,nq,nq,nq,nq,nq,nq,nq,nq,nq,nq,nq,nq,nq,nq,nq,nq,nq,nq,nq,nq,nq,nq,nq,nq,nq,nq,nq,nq,nq,nq,nq,nq,nq,nq,nq,nq,nq])) rfl rfl (take_ofW HT_.out HW_.out (by kernel_rfl)) (fun _ _ _ h => h) (Or.inl ⟨by rfl, ?_⟩) hHeld ?_ ?_
         rotate_left
         ·
          rintro w' ⟨s0, s1, s2, s3, s4, s5, s6, s7, s8, s9, s10, s11, s12, s13, s14, s15, s16, s17, s18, s19, s20, s21, s22, s23⟩
          go_simp
          with_reducible rfl
         rotate_left
         ·
          simp only [Act.put, List.setIfInBounds_toArray, List.set_cons_zero, List.set_cons_succ, i64_w, i32_w]
          rfl
         refine one_ (i := 9) (N := some 41) (List.toArray (yq :: [yq,yq,yq,yq,yq,yq,yq,yq,yq,nq,nq,nq,nq,nq,nq,nq,nq,nq,nq,nq,nq,nq,nq,nq,nq,nq,nq,nq,nq,nq,nq,nq,nq,nq,nq,nq,nq,nq,nq,nq,nq,nq,nq,nq,nq,nq,nq,nq,nq,nq,nq,nq,nq,nq,nq,nq,nq,nq,nq,nq,nq,nq,nq])) rfl rfl (one_of HT_.out (by kernel_rfl)) (by decide) (fun K hK => ?_)
         refine goes_ Try.func37 (by kernel_rfl) rfl #[.agg #[.int .i64 t267, .int .i64 t268, .int .i64 t269, .int .i64 t270]] (by rfl) rfl rfl (by (try simp only [List.map_toArray, List.map_cons, List.map_nil]); first | done | rfl | (simp only [List.length_drop, List.length_take]; rfl)) ?_
         with_reducible refine (quat_Unit.calls k t267 t268 t269 t270 t301 t302 t303 t304 _ A15.out).mono ?_
         rintro e w87 ⟨rfl, hb⟩
         refine ⟨_, rfl, ?_⟩
         have n2_ := Aside0.mk (blk_below (g := gb271) (o := .cells #[.int .i64 t263, .int .i64 t264, .int .i64 t265, .int .i64 t266] 39 (0, 0)) (by (with_reducible repeat (first | refine blk_drewN ?_ _ | refine blk_drew ?_ | refine blk_alloc ?_ _)); exact BK271.out) hb)
         have n3_ := Aside0.mk (blk_below (g := gb272) (o := .cells #[.int .i64 t267, .int .i64 t268, .int .i64 t269, .int .i64 t270] 39 (0, 0)) (by (with_reducible repeat (first | refine blk_drewN ?_ _ | refine blk_drew ?_ | refine blk_alloc ?_ _)); exact BK272.out) hb)
         have n4_ := Aside0.mk (blk_below (g := gb277) (o := .cells #[.int .i64 t273, .int .i64 t274, .int .i64 t275, .int .i64 t276] 39 (0, 0)) (by (with_reducible repeat (first | refine blk_drewN ?_ _ | refine blk_drew ?_ | refine blk_alloc ?_ _)); exact BK277.out) hb)
         have n5_ := Aside0.mk (blk_below (g := gb282) (o := .cells #[.int .i64 t278, .int .i64 t279, .int .i64 t280, .int .i64 t281] 39 (0, 0)) (by (with_reducible repeat (first | refine blk_drewN ?_ _ | refine blk_drew ?_ | refine blk_alloc ?_ _)); exact BK282.out) hb)
         have n6_ := Aside0.mk (blk_below (g := gb291) (o := .cells #[.int .i64 t283, .int .i64 t284, .int .i64 t285, .int .i64 t286] 39 (0, 0)) (by (with_reducible repeat (first | refine blk_drewN ?_ _ | refine blk_drew ?_ | refine blk_alloc ?_ _)); exact BK291.out) hb)
         have n7_ := Aside0.mk (blk_below (g := gb292) (o := .cells #[.int .i64 t287, .int .i64 t288, .int .i64 t289, .int .i64 t290] 39 (0, 0)) (by (with_reducible repeat (first | refine blk_drewN ?_ _ | refine blk_drew ?_ | refine blk_alloc ?_ _)); exact BK292.out) hb)
         have n8_ := Aside0.mk (below_step (by repeat (first | (with_reducible first | exact HB.out | apply below_alloc | apply pw_below_drewN | apply below_drew1 | refine below_set ?_ GE260.out | refine below_set ?_ GE261.out | refine below_set ?_ GE271.out | refine below_set ?_ GE272.out | refine below_set ?_ GE277.out | refine below_set ?_ GE282.out | refine below_set ?_ GE291.out | refine below_set ?_ GE292.out) | exact HB.out)) hb)
         clear BK271
         clear BK272
         clear BK277
         clear BK282
         clear BK291
         clear BK292
         clear HB
         have BK271 := n2_
         have BK272 := n3_
         have BK277 := n4_
         have BK282 := n5_
         have BK291 := n6_
         have BK292 := n7_
         have HB := n8_
         clear n2_ n3_ n4_ n5_ n6_ n7_ n8_
         (try clear hb)
         (try clear hb2)
         (try clear hk)
         (try clear hi)
         refine hK.out _ _ ⟨(blk_cell BK271.out 0).trans rfl, (blk_cell BK271.out 1).trans rfl, (blk_cell BK271.out 2).trans rfl, (blk_cell BK271.out 3).trans rfl, (blk_cell BK272.out 0).trans rfl, (blk_cell BK272.out 1).trans rfl, (blk_cell BK272.out 2).trans rfl, (blk_cell BK272.out 3).trans rfl, (blk_cell BK282.out 0).trans rfl, (blk_cell BK282.out 1).trans rfl, (blk_cell BK282.out 2).trans rfl, (blk_cell BK282.out 3).trans rfl, (blk_cell BK277.out 0).trans rfl, (blk_cell BK277.out 1).trans rfl, (blk_cell BK277.out 2).trans rfl, (blk_cell BK277.out 3).trans rfl, (blk_cell BK291.out 0).trans rfl, (blk_cell BK291.out 1).trans rfl, (blk_cell BK291.out 2).trans rfl, (blk_cell BK291.out 3).trans rfl, (blk_cell BK292.out 0).trans rfl, (blk_cell BK292.out 1).trans rfl, (blk_cell BK292.out 2).trans rfl, (blk_cell BK292.out 3).trans rfl⟩ (fun hHeld => ?_)
         clear hK K
         refine norm_ (a' := ?_) ?_ ?_
         rotate_left
         ·
          show Act.put _ (some 41) _ = _
          simp only [Act.put, List.setIfInBounds_toArray, List.set_cons_zero, List.set_cons_succ, i64_w, i32_w]
          rfl
         refine pure_ (i := 10) (N := some 42) (v := ?_) (a' := ?_) (List.toArray (yq :: [yq,yq,yq,yq,yq,yq,yq,yq,yq,yq,nq,nq,nq,nq,nq,nq,nq,nq,nq,nq,nq,nq,nq,nq,nq,nq,nq,nq,nq,nq,nq,nq,nq,nq,nq,nq,nq,nq,nq,nq,nq,nq,nq,nq,nq,nq,nq,nq,nq,nq,nq,nq,nq,nq,nq,nq,nq,nq,nq,nq,nq,nq,nq])) rfl rfl (any_of HT_.out (by kernel_rfl)) (fun _ _ _ h => h) (Or.inl ⟨by rfl, ?_⟩) ?_ ?_
         rotate_left
         ·
          intro w'
          go_simp
          with_reducible rfl
         rotate_left
         ·
          simp only [Act.put, List.setIfInBounds_toArray, List.set_cons_zero, List.set_cons_succ, i64_w, i32_w]
          rfl
         refine pure_ (i := 11) (N := some 43) (v := ?_) (a' := ?_) (List.toArray (yq :: [yq,yq,yq,yq,yq,yq,yq,yq,yq,yq,yq,nq,nq,nq,nq,nq,nq,nq,nq,nq,nq,nq,nq,nq,nq,nq,nq,nq,nq,nq,nq,nq,nq,nq,nq,nq,nq,nq,nq,nq,nq,nq,nq,nq,nq,nq,nq,nq,nq,nq,nq,nq,nq,nq,nq,nq,nq,nq,nq,nq,nq,nq,nq])) rfl rfl (any_of HT_.out (by kernel_rfl)) (fun _ _ _ h => h) (Or.inl ⟨by rfl, ?_⟩) ?_ ?_
         rotate_left
         ·
          intro w'
          go_simp
          with_reducible rfl
         rotate_left
         ·
          simp only [Act.put, List.setIfInBounds_toArray, List.set_cons_zero, List.set_cons_succ, i64_w, i32_w]
          rfl
         refine pure_ (i := 13) (N := some 45) (v := ?_) (a' := ?_) (List.toArray (yq :: [yq,yq,yq,yq,yq,yq,yq,yq,yq,yq,yq,nq,yq,nq,nq,nq,nq,nq,nq,nq,nq,nq,nq,nq,nq,nq,nq,nq,nq,nq,nq,nq,nq,nq,nq,nq,nq,nq,nq,nq,nq,nq,nq,nq,nq,nq,nq,nq,nq,nq,nq,nq,nq,nq,nq,nq,nq,nq,nq,nq,nq,nq,nq])) rfl rfl (any_of HT_.out (by kernel_rfl)) (fun _ _ _ h => h) (Or.inl ⟨by rfl, ?_⟩) ?_ ?_
         rotate_left
         ·
          intro w'
          go_simp
          with_reducible rfl
         rotate_left
         ·
          simp only [Act.put, List.setIfInBounds_toArray, List.set_cons_zero, List.set_cons_succ, i64_w, i32_w]
          rfl
         refine pure_ (i := 16) (N := some 48) (v := ?_) (a' := ?_) (List.toArray (yq :: [yq,yq,yq,yq,yq,yq,yq,yq,yq,yq,yq,nq,yq,nq,nq,yq,nq,nq,nq,nq,nq,nq,nq,nq,nq,nq,nq,nq,nq,nq,nq,nq,nq,nq,nq,nq,nq,nq,nq,nq,nq,nq,nq,nq,nq,nq,nq,nq,nq,nq,nq,nq,nq,nq,nq,nq,nq,nq,nq,nq,nq,nq,nq])) rfl rfl (any_of HT_.out (by kernel_rfl)) (fun _ _ _ h => h) (Or.inl ⟨by rfl, ?_⟩) ?_ ?_
         rotate_left
         ·
          intro w'
          go_simp
          with_reducible rfl
         rotate_left
         ·
          simp only [Act.put, List.setIfInBounds_toArray, List.set_cons_zero, List.set_cons_succ, i64_w, i32_w]
          rfl
         refine pure_ (i := 19) (N := some 51) (v := ?_) (a' := ?_) (List.toArray (yq :: [yq,yq,yq,yq,yq,yq,yq,yq,yq,yq,yq,nq,yq,nq,nq,yq,nq,nq,yq,nq,nq,nq,nq,nq,nq,nq,nq,nq,nq,nq,nq,nq,nq,nq,nq,nq,nq,nq,nq,nq,nq,nq,nq,nq,nq,nq,nq,nq,nq,nq,nq,nq,nq,nq,nq,nq,nq,nq,nq,nq,nq,nq,nq])) rfl rfl (any_of HT_.out (by kernel_rfl)) (fun _ _ _ h => h) (Or.inl ⟨by rfl, ?_⟩) ?_ ?_
         rotate_left
         ·
          intro w'
          go_simp
          with_reducible rfl
         rotate_left
         ·
          simp only [Act.put, List.setIfInBounds_toArray, List.set_cons_zero, List.set_cons_succ, i64_w, i32_w]
          rfl
         refine pure_ (i := 22) (N := some 54) (v := ?_) (a' := ?_) (List.toArray (yq :: [yq,yq,yq,yq,yq,yq,yq,yq,yq,yq,yq,nq,yq,nq,nq,yq,nq,nq,yq,nq,nq,yq,nq,nq,nq,nq,nq,nq,nq,nq,nq,nq,nq,nq,nq,nq,nq,nq,nq,nq,nq,nq,nq,nq,nq,nq,nq,nq,nq,nq,nq,nq,nq,nq,nq,nq,nq,nq,nq,nq,nq,nq,nq])) rfl rfl (any_of HT_.out (by kernel_rfl)) (fun _ _ _ h => h) (Or.inl ⟨by rfl, ?_⟩) ?_ ?_
         rotate_left
         ·
          intro w'
          go_simp
          with_reducible rfl
         rotate_left
         ·
          simp only [Act.put, List.setIfInBounds_toArray, List.set_cons_zero, List.set_cons_succ, i64_w, i32_w]
          rfl
         refine take_ (i := 12) (N := some 44) (v := ?_) (a' := ?_) (List.toArray (yq :: [yq,yq,yq,yq,yq,yq,yq,yq,yq,yq,yq,yq,yq,nq,nq,yq,nq,nq,yq,nq,nq,yq,nq,nq,nq,nq,nq,nq,nq,nq,nq,nq,nq,nq,nq,nq,nq,nq,nq,nq,nq,nq,nq,nq,nq,nq,nq,nq,nq,nq,nq,nq,nq,nq,nq,nq,nq,nq,nq,nq,nq,nq,nq])) rfl rfl (take_ofW HT_.out HW_.out (by kernel_rfl)) (fun _ _ _ h => h) (Or.inl ⟨by rfl, ?_⟩) hHeld ?_ ?_
         rotate_left
         ·
          rintro w' ⟨s0, s1, s2, s3, s4, s5, s6, s7, s8, s9, s10, s11, s12, s13, s14, s15, s16, s17, s18, s19, s20, s21, s22, s23⟩
          go_simp
          with_reducible rfl
         rotate_left
         ·
          simp only [Act.put, List.setIfInBounds_toArray, List.set_cons_zero, List.set_cons_succ, i64_w, i32_w]
          rfl
         refine take_ (i := 14) (N := some 46) (v := ?_) (a' := ?_) (List.toArray (yq :: [yq,yq,yq,yq,yq,yq,yq,yq,yq,yq,yq,yq,yq,yq,nq,yq,nq,nq,yq,nq,nq,yq,nq,nq,nq,nq,nq,nq,nq,nq,nq,nq,nq,nq,nq,nq,nq,nq,nq,nq,nq,nq,nq,nq,nq,nq,nq,nq,nq,nq,nq,nq,nq,nq,nq,nq,nq,nq,nq,nq,nq,nq,nq])) rfl rfl (take_ofW HT_.out HW_.out (by kernel_rfl)) (fun _ _ _ h => h) (Or.inl ⟨by rfl, ?_⟩) hHeld ?_ ?_
         rotate_left
         ·
          rintro w' ⟨s0, s1, s2, s3, s4, s5, s6, s7, s8, s9, s10, s11, s12, s13, s14, s15, s16, s17, s18, s19, s20, s21, s22, s23⟩
          go_simp
          with_reducible rfl
         rotate_left
         ·
          simp only [Act.put, List.setIfInBounds_toArray, List.set_cons_zero, List.set_cons_succ, i64_w, i32_w]
          rfl
         refine pure_ (i := 15) (N := some 47) (v := ?_) (a' := ?_) (List.toArray (yq :: [yq,yq,yq,yq,yq,yq,yq,yq,yq,yq,yq,yq,yq,yq,yq,yq,nq,nq,yq,nq,nq,yq,nq,nq,nq,nq,nq,nq,nq,nq,nq,nq,nq,nq,nq,nq,nq,nq,nq,nq,nq,nq,nq,nq,nq,nq,nq,nq,nq,nq,nq,nq,nq,nq,nq,nq,nq,nq,nq,nq,nq,nq,nq])) rfl rfl (any_of HT_.out (by kernel_rfl)) (fun _ _ _ h => h) (Or.inl ⟨by rfl, ?_⟩) ?_ ?_
         rotate_left
         ·
          intro w'
          go_simp
          with_reducible rfl
         rotate_left
         ·
          simp only [Act.put, List.setIfInBounds_toArray, List.set_cons_zero, List.set_cons_succ, i64_w, i32_w]
          rfl
         refine take_ (i := 17) (N := some 49) (v := ?_) (a' := ?_) (List.toArray (yq :: [yq,yq,yq,yq,yq,yq,yq,yq,yq,yq,yq,yq,yq,yq,yq,yq,yq,nq,yq,nq,nq,yq,nq,nq,nq,nq,nq,nq,nq,nq,nq,nq,nq,nq,nq,nq,nq,nq,nq,nq,nq,nq,nq,nq,nq,nq,nq,nq,nq,nq,nq,nq,nq,nq,nq,nq,nq,nq,nq,nq,nq,nq,nq])) rfl rfl (take_ofW HT_.out HW_.out (by kernel_rfl)) (fun _ _ _ h => h) (Or.inl ⟨by rfl, ?_⟩) hHeld ?_ ?_
         rotate_left
         ·
          rintro w' ⟨s0, s1, s2, s3, s4, s5, s6, s7, s8, s9, s10, s11, s12, s13, s14, s15, s16, s17, s18, s19, s20, s21, s22, s23⟩
          go_simp
          with_reducible rfl
         rotate_left
         ·
          simp only [Act.put, List.setIfInBounds_toArray, List.set_cons_zero, List.set_cons_succ, i64_w, i32_w]
          rfl
         refine pure_ (i := 18) (N := some 50) (v := ?_) (a' := ?_) (List.toArray (yq :: [yq,yq,yq,yq,yq,yq,yq,yq,yq,yq,yq,yq,yq,yq,yq,yq,yq,yq,yq,nq,nq,yq,nq,nq,nq,nq,nq,nq,nq,nq,nq,nq,nq,nq,nq,nq,nq,nq,nq,nq,nq,nq,nq,nq,nq,nq,nq,nq,nq,nq,nq,nq,nq,nq,nq,nq,nq,nq,nq,nq,nq,nq,nq])) rfl rfl (any_of HT_.out (by kernel_rfl)) (fun _ _ _ h => h) (Or.inl ⟨by rfl, ?_⟩) ?_ ?_
         rotate_left
         ·
          intro w'
          go_simp
          with_reducible rfl
         rotate_left
         ·
          simp only [Act.put, List.setIfInBounds_toArray, List.set_cons_zero, List.set_cons_succ, i64_w, i32_w]
          rfl
         refine take_ (i := 20) (N := some 52) (v := ?_) (a' := ?_) (List.toArray (yq :: [yq,yq,yq,yq,yq,yq,yq,yq,yq,yq,yq,yq,yq,yq,yq,yq,yq,yq,yq,yq,nq,yq,nq,nq,nq,nq,nq,nq,nq,nq,nq,nq,nq,nq,nq,nq,nq,nq,nq,nq,nq,nq,nq,nq,nq,nq,nq,nq,nq,nq,nq,nq,nq,nq,nq,nq,nq,nq,nq,nq,nq,nq,nq])) rfl rfl (take_ofW HT_.out HW_.out (by kernel_rfl)) (fun _ _ _ h => h) (Or.inl ⟨by rfl, ?_⟩) hHeld ?_ ?_
         rotate_left
         ·
          rintro w' ⟨s0, s1, s2, s3, s4, s5, s6, s7, s8, s9, s10, s11, s12, s13, s14, s15, s16, s17, s18, s19, s20, s21, s22, s23⟩
          go_simp
          with_reducible rfl
         rotate_left
         ·
          simp only [Act.put, List.setIfInBounds_toArray, List.set_cons_zero, List.set_cons_succ, i64_w, i32_w]
          rfl
         refine pure_ (i := 21) (N := some 53) (v := ?_) (a' := ?_) (List.toArray (yq :: [yq,yq,yq,yq,yq,yq,yq,yq,yq,yq,yq,yq,yq,yq,yq,yq,yq,yq,yq,yq,yq,yq,nq,nq,nq,nq,nq,nq,nq,nq,nq,nq,nq,nq,nq,nq,nq,nq,nq,nq,nq,nq,nq,nq,nq,nq,nq,nq,nq,nq,nq,nq,nq,nq,nq,nq,nq,nq,nq,nq,nq,nq,nq])) rfl rfl (any_of HT_.out (by kernel_rfl)) (fun _ _ _ h => h) (Or.inl ⟨by rfl, ?_⟩) ?_ ?_
         rotate_left
         ·
          intro w'
          go_simp
          with_reducible rfl
         rotate_left
         ·
          simp only [Act.put, List.setIfInBounds_toArray, List.set_cons_zero, List.set_cons_succ, i64_w, i32_w]
          rfl
         refine take_ (i := 23) (N := some 55) (v := ?_) (a' := ?_) (List.toArray (yq :: [yq,yq,yq,yq,yq,yq,yq,yq,yq,yq,yq,yq,yq,yq,yq,yq,yq,yq,yq,yq,yq,yq,yq,nq,nq,nq,nq,nq,nq,nq,nq,nq,nq,nq,nq,nq,nq,nq,nq,nq,nq,nq,nq,nq,nq,nq,nq,nq,nq,nq,nq,nq,nq,nq,nq,nq,nq,nq,nq,nq,nq,nq,nq])) rfl rfl (take_ofW HT_.out HW_.out (by kernel_rfl)) (fun _ _ _ h => h) (Or.inl ⟨by rfl, ?_⟩) hHeld ?_ ?_
         rotate_left
         ·
          rintro w' ⟨s0, s1, s2, s3, s4, s5, s6, s7, s8, s9, s10, s11, s12, s13, s14, s15, s16, s17, s18, s19, s20, s21, s22, s23⟩
          go_simp
          with_reducible rfl
         rotate_left
         ·
          simp only [Act.put, List.setIfInBounds_toArray, List.set_cons_zero, List.set_cons_succ, i64_w, i32_w]
          rfl
         refine pure_ (i := 24) (N := some 56) (v := ?_) (a' := ?_) (List.toArray (yq :: [yq,yq,yq,yq,yq,yq,yq,yq,yq,yq,yq,yq,yq,yq,yq,yq,yq,yq,yq,yq,yq,yq,yq,yq,nq,nq,nq,nq,nq,nq,nq,nq,nq,nq,nq,nq,nq,nq,nq,nq,nq,nq,nq,nq,nq,nq,nq,nq,nq,nq,nq,nq,nq,nq,nq,nq,nq,nq,nq,nq,nq,nq,nq])) rfl rfl (any_of HT_.out (by kernel_rfl)) (fun _ _ _ h => h) (Or.inl ⟨by rfl, ?_⟩) ?_ ?_
         rotate_left
         ·
          intro w'
          go_simp
          with_reducible rfl
         rotate_left
         ·
          simp only [Act.put, List.setIfInBounds_toArray, List.set_cons_zero, List.set_cons_succ, i64_w, i32_w]
          rfl
         refine pure_ (i := 25) (N := some 57) (v := ?_) (a' := ?_) (List.toArray (yq :: [yq,yq,yq,yq,yq,yq,yq,yq,yq,yq,yq,yq,yq,yq,yq,yq,yq,yq,yq,yq,yq,yq,yq,yq,yq,nq,nq,nq,nq,nq,nq,nq,nq,nq,nq,nq,nq,nq,nq,nq,nq,nq,nq,nq,nq,nq,nq,nq,nq,nq,nq,nq,nq,nq,nq,nq,nq,nq,nq,nq,nq,nq,nq])) rfl rfl (any_of HT_.out (by kernel_rfl)) (fun _ _ _ h => h) (Or.inl ⟨by rfl, ?_⟩) ?_ ?_
         rotate_left
         ·
          intro w'
          go_simp
          with_reducible rfl
         rotate_left
         ·
          simp only [Act.put, List.setIfInBounds_toArray, List.set_cons_zero, List.set_cons_succ, i64_w, i32_w]
          rfl
         refine one_ (i := 26) (N := some 58) (List.toArray (yq :: [yq,yq,yq,yq,yq,yq,yq,yq,yq,yq,yq,yq,yq,yq,yq,yq,yq,yq,yq,yq,yq,yq,yq,yq,yq,yq,nq,nq,nq,nq,nq,nq,nq,nq,nq,nq,nq,nq,nq,nq,nq,nq,nq,nq,nq,nq,nq,nq,nq,nq,nq,nq,nq,nq,nq,nq,nq,nq,nq,nq,nq,nq,nq])) rfl rfl (one_of HT_.out (by kernel_rfl)) (by decide) (fun K hK => ?_)
         refine goes_ Try.func37 (by kernel_rfl) rfl #[.agg #[.int .i64 (wrap64 (-t267)), .int .i64 (wrap64 (-t268)), .int .i64 (wrap64 (-t269)), .int .i64 (wrap64 (-t270))]] (by rfl) rfl rfl (by (try simp only [List.map_toArray, List.map_cons, List.map_nil]); first | done | rfl | (simp only [List.length_drop, List.length_take]; rfl)) ?_
         with_reducible refine (quat_Unit.calls k (wrap64 (-t267)) (wrap64 (-t268)) (wrap64 (-t269)) (wrap64 (-t270)) t311 t312 t313 t314 _ A89.out).mono ?_
         rintro e w88 ⟨rfl, hb⟩
         refine ⟨_, rfl, ?_⟩
         have n2_ := Aside0.mk (blk_below (g := gb271) (o := .cells #[.int .i64 t263, .int .i64 t264, .int .i64 t265, .int .i64 t266] 39 (0, 0)) (by (with_reducible repeat (first | refine blk_drewN ?_ _ | refine blk_drew ?_ | refine blk_alloc ?_ _)); exact BK271.out) hb)
         have n3_ := Aside0.mk (blk_below (g := gb272) (o := .cells #[.int .i64 t267, .int .i64 t268, .int .i64 t269, .int .i64 t270] 39 (0, 0)) (by (with_reducible repeat (first | refine blk_drewN ?_ _ | refine blk_drew ?_ | refine blk_alloc ?_ _)); exact BK272.out) hb)
         have n4_ := Aside0.mk (blk_below (g := gb277) (o := .cells #[.int .i64 t273, .int .i64 t274, .int .i64 t275, .int .i64 t276] 39 (0, 0)) (by (with_reducible repeat (first | refine blk_drewN ?_ _ | refine blk_drew ?_ | refine blk_alloc ?_ _)); exact BK277.out) hb)
         have n5_ := Aside0.mk (blk_below (g := gb282) (o := .cells #[.int .i64 t278, .int .i64 t279, .int .i64 t280, .int .i64 t281] 39 (0, 0)) (by (with_reducible repeat (first | refine blk_drewN ?_ _ | refine blk_drew ?_ | refine blk_alloc ?_ _)); exact BK282.out) hb)
         have n6_ := Aside0.mk (blk_below (g := gb291) (o := .cells #[.int .i64 t283, .int .i64 t284, .int .i64 t285, .int .i64 t286] 39 (0, 0)) (by (with_reducible repeat (first | refine blk_drewN ?_ _ | refine blk_drew ?_ | refine blk_alloc ?_ _)); exact BK291.out) hb)
         have n7_ := Aside0.mk (blk_below (g := gb292) (o := .cells #[.int .i64 t287, .int .i64 t288, .int .i64 t289, .int .i64 t290] 39 (0, 0)) (by (with_reducible repeat (first | refine blk_drewN ?_ _ | refine blk_drew ?_ | refine blk_alloc ?_ _)); exact BK292.out) hb)
         have n8_ := Aside0.mk (below_step (by repeat (first | (with_reducible first | exact HB.out | apply below_alloc | apply pw_below_drewN | apply below_drew1 | refine below_set ?_ GE260.out | refine below_set ?_ GE261.out | refine below_set ?_ GE271.out | refine below_set ?_ GE272.out | refine below_set ?_ GE277.out | refine below_set ?_ GE282.out | refine below_set ?_ GE291.out | refine below_set ?_ GE292.out) | exact HB.out)) hb)
         clear BK271
         clear BK272
         clear BK277
         clear BK282
         clear BK291
         clear BK292
         clear HB
         have BK271 := n2_
         have BK272 := n3_
         have BK277 := n4_
         have BK282 := n5_
         have BK291 := n6_
         have BK292 := n7_
         have HB := n8_
         clear n2_ n3_ n4_ n5_ n6_ n7_ n8_
         (try clear hb)
         (try clear hb2)
         (try clear hk)
         (try clear hi)
         refine hK.out _ _ ⟨(blk_cell BK271.out 0).trans rfl, (blk_cell BK271.out 1).trans rfl, (blk_cell BK271.out 2).trans rfl, (blk_cell BK271.out 3).trans rfl, (blk_cell BK272.out 0).trans rfl, (blk_cell BK272.out 1).trans rfl, (blk_cell BK272.out 2).trans rfl, (blk_cell BK272.out 3).trans rfl, (blk_cell BK282.out 0).trans rfl, (blk_cell BK282.out 1).trans rfl, (blk_cell BK282.out 2).trans rfl, (blk_cell BK282.out 3).trans rfl, (blk_cell BK277.out 0).trans rfl, (blk_cell BK277.out 1).trans rfl, (blk_cell BK277.out 2).trans rfl, (blk_cell BK277.out 3).trans rfl, (blk_cell BK291.out 0).trans rfl, (blk_cell BK291.out 1).trans rfl, (blk_cell BK291.out 2).trans rfl, (blk_cell BK291.out 3).trans rfl, (blk_cell BK292.out 0).trans rfl, (blk_cell BK292.out 1).trans rfl, (blk_cell BK292.out 2).trans rfl, (blk_cell BK292.out 3).trans rfl⟩ (fun hHeld => ?_)
         clear hK K
         refine norm_ (a' := ?_) ?_ ?_
         rotate_left
         ·
          show Act.put _ (some 58) _ = _
          simp only [Act.put, List.setIfInBounds_toArray, List.set_cons_zero, List.set_cons_succ, i64_w, i32_w]
          rfl
         refine pure_ (i := 27) (N := some 59) (v := ?_) (a' := ?_) (List.toArray (yq :: [yq,yq,yq,yq,yq,yq,yq,yq,yq,yq,yq,yq,yq,yq,yq,yq,yq,yq,yq,yq,yq,yq,yq,yq,yq,yq,yq,nq,nq,nq,nq,nq,nq,nq,nq,nq,nq,nq,nq,nq,nq,nq,nq,nq,nq,nq,nq,nq,nq,nq,nq,nq,nq,nq,nq,nq,nq,nq,nq,nq,nq,nq,nq])) rfl rfl (any_of HT_.out (by kernel_rfl)) (fun _ _ _ h => h) (Or.inl ⟨by rfl, ?_⟩) ?_ ?_
         rotate_left
         ·
          intro w'
          go_simp
          with_reducible rfl
         rotate_left
         ·
          simp only [Act.put, List.setIfInBounds_toArray, List.set_cons_zero, List.set_cons_succ, i64_w, i32_w]
          rfl
         refine pure_ (i := 28) (N := some 60) (v := ?_) (a' := ?_) (List.toArray (yq :: [yq,yq,yq,yq,yq,yq,yq,yq,yq,yq,yq,yq,yq,yq,yq,yq,yq,yq,yq,yq,yq,yq,yq,yq,yq,yq,yq,yq,nq,nq,nq,nq,nq,nq,nq,nq,nq,nq,nq,nq,nq,nq,nq,nq,nq,nq,nq,nq,nq,nq,nq,nq,nq,nq,nq,nq,nq,nq,nq,nq,nq,nq,nq])) rfl rfl (any_of HT_.out (by kernel_rfl)) (fun _ _ _ h => h) (Or.inl ⟨by rfl, ?_⟩) ?_ ?_
         rotate_left
         ·
          intro w'
          go_simp
          with_reducible rfl
         rotate_left
         ·
          simp only [Act.put, List.setIfInBounds_toArray, List.set_cons_zero, List.set_cons_succ, i64_w, i32_w]
          rfl
         refine pure_ (i := 29) (N := some 61) (v := ?_) (a' := ?_) (List.toArray (yq :: [yq,yq,yq,yq,yq,yq,yq,yq,yq,yq,yq,yq,yq,yq,yq,yq,yq,yq,yq,yq,yq,yq,yq,yq,yq,yq,yq,yq,yq,nq,nq,nq,nq,nq,nq,nq,nq,nq,nq,nq,nq,nq,nq,nq,nq,nq,nq,nq,nq,nq,nq,nq,nq,nq,nq,nq,nq,nq,nq,nq,nq,nq,nq])) rfl rfl (any_of HT_.out (by kernel_rfl)) (fun _ _ _ h => h) (Or.inl ⟨by rfl, ?_⟩) ?_ ?_
         rotate_left
         ·
          intro w'
          go_simp
          with_reducible rfl
         rotate_left
         ·
          simp only [Act.put, List.setIfInBounds_toArray, List.set_cons_zero, List.set_cons_succ, i64_w, i32_w]
          rfl
         refine pure_ (i := 30) (N := some 62) (v := ?_) (a' := ?_) (List.toArray (yq :: [yq,yq,yq,yq,yq,yq,yq,yq,yq,yq,yq,yq,yq,yq,yq,yq,yq,yq,yq,yq,yq,yq,yq,yq,yq,yq,yq,yq,yq,yq,nq,nq,nq,nq,nq,nq,nq,nq,nq,nq,nq,nq,nq,nq,nq,nq,nq,nq,nq,nq,nq,nq,nq,nq,nq,nq,nq,nq,nq,nq,nq,nq,nq])) rfl rfl (any_of HT_.out (by kernel_rfl)) (fun _ _ _ h => h) (Or.inl ⟨by rfl, ?_⟩) ?_ ?_
         rotate_left
         ·
          intro w'
          go_simp
          with_reducible rfl
         rotate_left
         ·
          simp only [Act.put, List.setIfInBounds_toArray, List.set_cons_zero, List.set_cons_succ, i64_w, i32_w]
          rfl
         refine take_ (i := 31) (N := some 63) (v := ?_) (a' := ?_) (List.toArray (yq :: [yq,yq,yq,yq,yq,yq,yq,yq,yq,yq,yq,yq,yq,yq,yq,yq,yq,yq,yq,yq,yq,yq,yq,yq,yq,yq,yq,yq,yq,yq,yq,nq,nq,nq,nq,nq,nq,nq,nq,nq,nq,nq,nq,nq,nq,nq,nq,nq,nq,nq,nq,nq,nq,nq,nq,nq,nq,nq,nq,nq,nq,nq,nq])) rfl rfl (take_ofW HT_.out HW_.out (by kernel_rfl)) (fun _ _ _ h => h) (Or.inl ⟨by rfl, ?_⟩) hHeld ?_ ?_
         rotate_left
         ·
          rintro w' ⟨s0, s1, s2, s3, s4, s5, s6, s7, s8, s9, s10, s11, s12, s13, s14, s15, s16, s17, s18, s19, s20, s21, s22, s23⟩
          go_simp
          with_reducible rfl
         rotate_left
         ·
          simp only [Act.put, List.setIfInBounds_toArray, List.set_cons_zero, List.set_cons_succ, i64_w, i32_w]
          rfl
         refine one_ (i := 32) (N := some 64) (List.toArray (yq :: [yq,yq,yq,yq,yq,yq,yq,yq,yq,yq,yq,yq,yq,yq,yq,yq,yq,yq,yq,yq,yq,yq,yq,yq,yq,yq,yq,yq,yq,yq,yq,yq,nq,nq,nq,nq,nq,nq,nq,nq,nq,nq,nq,nq,nq,nq,nq,nq,nq,nq,nq,nq,nq,nq,nq,nq,nq,nq,nq,nq,nq,nq,nq])) rfl rfl (one_of HT_.out (by kernel_rfl)) (by decide) (fun K hK => ?_)
         refine goes_ Try.func32 (by kernel_rfl) rfl #[.agg #[.int .i64 t273, .int .i64 t274, .int .i64 t275, .int .i64 t276]] (by rfl) rfl rfl (by (try simp only [List.map_toArray, List.map_cons, List.map_nil]); first | done | rfl | (simp only [List.length_drop, List.length_take]; rfl)) ?_
         with_reducible refine (tourkeep1_square.calls t273 t274 t275 t276 t315 _ A91.out).mono ?_
         rintro e w89 ⟨rfl, hb⟩
         refine ⟨_, rfl, ?_⟩
         have n2_ := Aside0.mk (blk_below (g := gb271) (o := .cells #[.int .i64 t263, .int .i64 t264, .int .i64 t265, .int .i64 t266] 39 (0, 0)) (by (with_reducible repeat (first | refine blk_drewN ?_ _ | refine blk_drew ?_ | refine blk_alloc ?_ _)); exact BK271.out) hb)
         have n3_ := Aside0.mk (blk_below (g := gb272) (o := .cells #[.int .i64 t267, .int .i64 t268, .int .i64 t269, .int .i64 t270] 39 (0, 0)) (by (with_reducible repeat (first | refine blk_drewN ?_ _ | refine blk_drew ?_ | refine blk_alloc ?_ _)); exact BK272.out) hb)
         have n4_ := Aside0.mk (blk_below (g := gb277) (o := .cells #[.int .i64 t273, .int .i64 t274, .int .i64 t275, .int .i64 t276] 39 (0, 0)) (by (with_reducible repeat (first | refine blk_drewN ?_ _ | refine blk_drew ?_ | refine blk_alloc ?_ _)); exact BK277.out) hb)
         have n5_ := Aside0.mk (blk_below (g := gb282) (o := .cells #[.int .i64 t278, .int .i64 t279, .int .i64 t280, .int .i64 t281] 39 (0, 0)) (by (with_reducible repeat (first | refine blk_drewN ?_ _ | refine blk_drew ?_ | refine blk_alloc ?_ _)); exact BK282.out) hb)
         have n6_ := Aside0.mk (blk_below (g := gb291) (o := .cells #[.int .i64 t283, .int .i64 t284, .int .i64 t285, .int .i64 t286] 39 (0, 0)) (by (with_reducible repeat (first | refine blk_drewN ?_ _ | refine blk_drew ?_ | refine blk_alloc ?_ _)); exact BK291.out) hb)
         have n7_ := Aside0.mk (blk_below (g := gb292) (o := .cells #[.int .i64 t287, .int .i64 t288, .int .i64 t289, .int .i64 t290] 39 (0, 0)) (by (with_reducible repeat (first | refine blk_drewN ?_ _ | refine blk_drew ?_ | refine blk_alloc ?_ _)); exact BK292.out) hb)
         have n8_ := Aside0.mk (below_step (by repeat (first | (with_reducible first | exact HB.out | apply below_alloc | apply pw_below_drewN | apply below_drew1 | refine below_set ?_ GE260.out | refine below_set ?_ GE261.out | refine below_set ?_ GE271.out | refine below_set ?_ GE272.out | refine below_set ?_ GE277.out | refine below_set ?_ GE282.out | refine below_set ?_ GE291.out | refine below_set ?_ GE292.out) | exact HB.out)) hb)
         clear BK271
         clear BK272
         clear BK277
         clear BK282
         clear BK291
         clear BK292
         clear HB
         have BK271 := n2_
         have BK272 := n3_
         have BK277 := n4_
         have BK282 := n5_
         have BK291 := n6_
         have BK292 := n7_
         have HB := n8_
         clear n2_ n3_ n4_ n5_ n6_ n7_ n8_
         (try clear hb)
         (try clear hb2)
         (try clear hk)
         (try clear hi)
         refine hK.out _ _ ⟨(blk_cell BK271.out 0).trans rfl, (blk_cell BK271.out 1).trans rfl, (blk_cell BK271.out 2).trans rfl, (blk_cell BK271.out 3).trans rfl, (blk_cell BK272.out 0).trans rfl, (blk_cell BK272.out 1).trans rfl, (blk_cell BK272.out 2).trans rfl, (blk_cell BK272.out 3).trans rfl, (blk_cell BK282.out 0).trans rfl, (blk_cell BK282.out 1).trans rfl, (blk_cell BK282.out 2).trans rfl, (blk_cell BK282.out 3).trans rfl, (blk_cell BK277.out 0).trans rfl, (blk_cell BK277.out 1).trans rfl, (blk_cell BK277.out 2).trans rfl, (blk_cell BK277.out 3).trans rfl, (blk_cell BK291.out 0).trans rfl, (blk_cell BK291.out 1).trans rfl, (blk_cell BK291.out 2).trans rfl, (blk_cell BK291.out 3).trans rfl, (blk_cell BK292.out 0).trans rfl, (blk_cell BK292.out 1).trans rfl, (blk_cell BK292.out 2).trans rfl, (blk_cell BK292.out 3).trans rfl⟩ (fun hHeld => ?_)
         clear hK K
         refine norm_ (a' := ?_) ?_ ?_
         rotate_left
         ·
          show Act.put _ (some 64) _ = _
          simp only [Act.put, List.setIfInBounds_toArray, List.set_cons_zero, List.set_cons_succ, i64_w, i32_w]
          rfl
         refine one_ (i := 33) (N := some 65) (List.toArray (yq :: [yq,yq,yq,yq,yq,yq,yq,yq,yq,yq,yq,yq,yq,yq,yq,yq,yq,yq,yq,yq,yq,yq,yq,yq,yq,yq,yq,yq,yq,yq,yq,yq,yq,nq,nq,nq,nq,nq,nq,nq,nq,nq,nq,nq,nq,nq,nq,nq,nq,nq,nq,nq,nq,nq,nq,nq,nq,nq,nq,nq,nq,nq,nq])) rfl rfl (one_of HT_.out (by kernel_rfl)) (by decide) (fun K hK => ?_)
         refine goes_ Try.func18 (by kernel_rfl) rfl #[.int .i64 t315, .int .i64 65536, .int .i64 8] (by rfl) rfl rfl (by (try simp only [List.map_toArray, List.map_cons, List.map_nil]); first | done | rfl | (simp only [List.length_drop, List.length_take]; rfl)) ?_
         with_reducible refine (tourkeep1_near.calls t315 65536 8 true _ A92.out).mono ?_
         rintro e w' ⟨rfl, ⟨nd, rfl⟩⟩
         refine ⟨_, rfl, ?_⟩
         refine hK.out _ _ ⟨(blk_cell BK271.out 0).trans rfl, (blk_cell BK271.out 1).trans rfl, (blk_cell BK271.out 2).trans rfl, (blk_cell BK271.out 3).trans rfl, (blk_cell BK272.out 0).trans rfl, (blk_cell BK272.out 1).trans rfl, (blk_cell BK272.out 2).trans rfl, (blk_cell BK272.out 3).trans rfl, (blk_cell BK282.out 0).trans rfl, (blk_cell BK282.out 1).trans rfl, (blk_cell BK282.out 2).trans rfl, (blk_cell BK282.out 3).trans rfl, (blk_cell BK277.out 0).trans rfl, (blk_cell BK277.out 1).trans rfl, (blk_cell BK277.out 2).trans rfl, (blk_cell BK277.out 3).trans rfl, (blk_cell BK291.out 0).trans rfl, (blk_cell BK291.out 1).trans rfl, (blk_cell BK291.out 2).trans rfl, (blk_cell BK291.out 3).trans rfl, (blk_cell BK292.out 0).trans rfl, (blk_cell BK292.out 1).trans rfl, (blk_cell BK292.out 2).trans rfl, (blk_cell BK292.out 3).trans rfl⟩ (fun hHeld => ?_)
         clear hK K
         refine norm_ (a' := ?_) ?_ ?_
         rotate_left
         ·
          show Act.put _ (some 65) _ = _
          simp only [Act.put, List.setIfInBounds_toArray, List.set_cons_zero, List.set_cons_succ, i64_w, i32_w]
          rfl
         refine pure_ (i := 34) (N := some 66) (v := ?_) (a' := ?_) (List.toArray (yq :: [yq,yq,yq,yq,yq,yq,yq,yq,yq,yq,yq,yq,yq,yq,yq,yq,yq,yq,yq,yq,yq,yq,yq,yq,yq,yq,yq,yq,yq,yq,yq,yq,yq,yq,nq,nq,nq,nq,nq,nq,nq,nq,nq,nq,nq,nq,nq,nq,nq,nq,nq,nq,nq,nq,nq,nq,nq,nq,nq,nq,nq,nq,nq])) rfl rfl (any_of HT_.out (by kernel_rfl)) (fun _ _ _ h => h) (Or.inl ⟨by rfl, ?_⟩) ?_ ?_
         rotate_left
         ·
          intro w'
          go_simp
          with_reducible rfl
         rotate_left
         ·
          simp only [Act.put, List.setIfInBounds_toArray, List.set_cons_zero, List.set_cons_succ, i64_w, i32_w]
          rfl
         refine pure_ (i := 35) (N := some 67) (v := ?_) (a' := ?_) (List.toArray (yq :: [yq,yq,yq,yq,yq,yq,yq,yq,yq,yq,yq,yq,yq,yq,yq,yq,yq,yq,yq,yq,yq,yq,yq,yq,yq,yq,yq,yq,yq,yq,yq,yq,yq,yq,yq,nq,nq,nq,nq,nq,nq,nq,nq,nq,nq,nq,nq,nq,nq,nq,nq,nq,nq,nq,nq,nq,nq,nq,nq,nq,nq,nq,nq])) rfl rfl (any_of HT_.out (by kernel_rfl)) (fun _ _ _ h => h) (Or.inl ⟨by rfl, ?_⟩) ?_ ?_
         rotate_left
         ·
          intro w'
          go_simp
          with_reducible rfl
         rotate_left
         ·
          simp only [Act.put, List.setIfInBounds_toArray, List.set_cons_zero, List.set_cons_succ, i64_w, i32_w]
          rfl
         refine pure_ (i := 36) (N := some 68) (v := ?_) (a' := ?_) (List.toArray (yq :: [yq,yq,yq,yq,yq,yq,yq,yq,yq,yq,yq,yq,yq,yq,yq,yq,yq,yq,yq,yq,yq,yq,yq,yq,yq,yq,yq,yq,yq,yq,yq,yq,yq,yq,yq,yq,nq,nq,nq,nq,nq,nq,nq,nq,nq,nq,nq,nq,nq,nq,nq,nq,nq,nq,nq,nq,nq,nq,nq,nq,nq,nq,nq])) rfl rfl (any_of HT_.out (by kernel_rfl)) (fun _ _ _ h => h) (Or.inl ⟨by rfl, ?_⟩) ?_ ?_
         rotate_left
         ·
          intro w'
          go_simp
          with_reducible rfl
         rotate_left
         ·
          simp only [Act.put, List.setIfInBounds_toArray, List.set_cons_zero, List.set_cons_succ, i64_w, i32_w]
          rfl
         refine pure_ (i := 38) (N := some 70) (v := ?_) (a' := ?_) (List.toArray (yq :: [yq,yq,yq,yq,yq,yq,yq,yq,yq,yq,yq,yq,yq,yq,yq,yq,yq,yq,yq,yq,yq,yq,yq,yq,yq,yq,yq,yq,yq,yq,yq,yq,yq,yq,yq,yq,nq,yq,nq,nq,nq,nq,nq,nq,nq,nq,nq,nq,nq,nq,nq,nq,nq,nq,nq,nq,nq,nq,nq,nq,nq,nq,nq])) rfl rfl (any_of HT_.out (by kernel_rfl)) (fun _ _ _ h => h) (Or.inl ⟨by rfl, ?_⟩) ?_ ?_
         rotate_left
         ·
          intro w'
          go_simp
          with_reducible rfl
         rotate_left
         ·
          simp only [Act.put, List.setIfInBounds_toArray, List.set_cons_zero, List.set_cons_succ, i64_w, i32_w]
          rfl
         refine take_ (i := 37) (N := some 69) (v := ?_) (a' := ?_) (List.toArray (yq :: [yq,yq,yq,yq,yq,yq,yq,yq,yq,yq,yq,yq,yq,yq,yq,yq,yq,yq,yq,yq,yq,yq,yq,yq,yq,yq,yq,yq,yq,yq,yq,yq,yq,yq,yq,yq,yq,yq,nq,nq,nq,nq,nq,nq,nq,nq,nq,nq,nq,nq,nq,nq,nq,nq,nq,nq,nq,nq,nq,nq,nq,nq,nq])) rfl rfl (take_ofW HT_.out HW_.out (by kernel_rfl)) (fun _ _ _ h => h) (Or.inl ⟨by rfl, ?_⟩) hHeld ?_ ?_
         rotate_left
         ·
          rintro w' ⟨s0, s1, s2, s3, s4, s5, s6, s7, s8, s9, s10, s11, s12, s13, s14, s15, s16, s17, s18, s19, s20, s21, s22, s23⟩
          go_simp
          with_reducible rfl
         rotate_left
         ·
          simp only [Act.put, List.setIfInBounds_toArray, List.set_cons_zero, List.set_cons_succ, i64_w, i32_w]
          rfl
         refine take_ (i := 39) (N := some 71) (v := ?_) (a' := ?_) (List.toArray (yq :: [yq,yq,yq,yq,yq,yq,yq,yq,yq,yq,yq,yq,yq,yq,yq,yq,yq,yq,yq,yq,yq,yq,yq,yq,yq,yq,yq,yq,yq,yq,yq,yq,yq,yq,yq,yq,yq,yq,yq,nq,nq,nq,nq,nq,nq,nq,nq,nq,nq,nq,nq,nq,nq,nq,nq,nq,nq,nq,nq,nq,nq,nq,nq])) rfl rfl (take_ofW HT_.out HW_.out (by kernel_rfl)) (fun _ _ _ h => h) (Or.inl ⟨by rfl, ?_⟩) hHeld ?_ ?_
         rotate_left
         ·
          rintro w' ⟨s0, s1, s2, s3, s4, s5, s6, s7, s8, s9, s10, s11, s12, s13, s14, s15, s16, s17, s18, s19, s20, s21, s22, s23⟩
          go_simp
          with_reducible rfl
         rotate_left
         ·
          simp only [Act.put, List.setIfInBounds_toArray, List.set_cons_zero, List.set_cons_succ, i64_w, i32_w]
          rfl
         refine one_ (i := 40) (N := some 72) (List.toArray (yq :: [yq,yq,yq,yq,yq,yq,yq,yq,yq,yq,yq,yq,yq,yq,yq,yq,yq,yq,yq,yq,yq,yq,yq,yq,yq,yq,yq,yq,yq,yq,yq,yq,yq,yq,yq,yq,yq,yq,yq,yq,nq,nq,nq,nq,nq,nq,nq,nq,nq,nq,nq,nq,nq,nq,nq,nq,nq,nq,nq,nq,nq,nq,nq])) rfl rfl (one_of HT_.out (by kernel_rfl)) (by decide) (fun K hK => ?_)
         refine goes_ Try.func18 (by kernel_rfl) rfl #[.int .i64 t283, .int .i64 t287, .int .i64 4] (by rfl) rfl rfl (by (try simp only [List.map_toArray, List.map_cons, List.map_nil]); first | done | rfl | (simp only [List.length_drop, List.length_take]; rfl)) ?_
         with_reducible refine (tourkeep1_near.calls t283 t287 4 true _ A94.out).mono ?_
         rintro e w' ⟨rfl, ⟨nd, rfl⟩⟩
         refine ⟨_, rfl, ?_⟩
         refine hK.out _ _ ⟨(blk_cell BK271.out 0).trans rfl, (blk_cell BK271.out 1).trans rfl, (blk_cell BK271.out 2).trans rfl, (blk_cell BK271.out 3).trans rfl, (blk_cell BK272.out 0).trans rfl, (blk_cell BK272.out 1).trans rfl, (blk_cell BK272.out 2).trans rfl, (blk_cell BK272.out 3).trans rfl, (blk_cell BK282.out 0).trans rfl, (blk_cell BK282.out 1).trans rfl, (blk_cell BK282.out 2).trans rfl, (blk_cell BK282.out 3).trans rfl, (blk_cell BK277.out 0).trans rfl, (blk_cell BK277.out 1).trans rfl, (blk_cell BK277.out 2).trans rfl, (blk_cell BK277.out 3).trans rfl, (blk_cell BK291.out 0).trans rfl, (blk_cell BK291.out 1).trans rfl, (blk_cell BK291.out 2).trans rfl, (blk_cell BK291.out 3).trans rfl, (blk_cell BK292.out 0).trans rfl, (blk_cell BK292.out 1).trans rfl, (blk_cell BK292.out 2).trans rfl, (blk_cell BK292.out 3).trans rfl⟩ (fun hHeld => ?_)
         clear hK K
         refine norm_ (a' := ?_) ?_ ?_
         rotate_left
         ·
          show Act.put _ (some 72) _ = _
          simp only [Act.put, List.setIfInBounds_toArray, List.set_cons_zero, List.set_cons_succ, i64_w, i32_w]
          rfl
         refine pure_ (i := 41) (N := some 73) (v := ?_) (a' := ?_) (List.toArray (yq :: [yq,yq,yq,yq,yq,yq,yq,yq,yq,yq,yq,yq,yq,yq,yq,yq,yq,yq,yq,yq,yq,yq,yq,yq,yq,yq,yq,yq,yq,yq,yq,yq,yq,yq,yq,yq,yq,yq,yq,yq,yq,nq,nq,nq,nq,nq,nq,nq,nq,nq,nq,nq,nq,nq,nq,nq,nq,nq,nq,nq,nq,nq,nq])) rfl rfl (any_of HT_.out (by kernel_rfl)) (fun _ _ _ h => h) (Or.inl ⟨by rfl, ?_⟩) ?_ ?_
         rotate_left
         ·
          intro w'
          go_simp
          with_reducible rfl
         rotate_left
         ·
          simp only [Act.put, List.setIfInBounds_toArray, List.set_cons_zero, List.set_cons_succ, i64_w, i32_w]
          rfl
         refine pure_ (i := 42) (N := some 74) (v := ?_) (a' := ?_) (List.toArray (yq :: [yq,yq,yq,yq,yq,yq,yq,yq,yq,yq,yq,yq,yq,yq,yq,yq,yq,yq,yq,yq,yq,yq,yq,yq,yq,yq,yq,yq,yq,yq,yq,yq,yq,yq,yq,yq,yq,yq,yq,yq,yq,yq,nq,nq,nq,nq,nq,nq,nq,nq,nq,nq,nq,nq,nq,nq,nq,nq,nq,nq,nq,nq,nq])) rfl rfl (any_of HT_.out (by kernel_rfl)) (fun _ _ _ h => h) (Or.inl ⟨by rfl, ?_⟩) ?_ ?_
         rotate_left
         ·
          intro w'
          go_simp
          with_reducible rfl
         rotate_left
         ·
          simp only [Act.put, List.setIfInBounds_toArray, List.set_cons_zero, List.set_cons_succ, i64_w, i32_w]
          rfl
         refine pure_ (i := 43) (N := some 75) (v := ?_) (a' := ?_) (List.toArray (yq :: [yq,yq,yq,yq,yq,yq,yq,yq,yq,yq,yq,yq,yq,yq,yq,yq,yq,yq,yq,yq,yq,yq,yq,yq,yq,yq,yq,yq,yq,yq,yq,yq,yq,yq,yq,yq,yq,yq,yq,yq,yq,yq,yq,nq,nq,nq,nq,nq,nq,nq,nq,nq,nq,nq,nq,nq,nq,nq,nq,nq,nq,nq,nq])) rfl rfl (any_of HT_.out (by kernel_rfl)) (fun _ _ _ h => h) (Or.inl ⟨by rfl, ?_⟩) ?_ ?_
         rotate_left
         ·
          intro w'
          go_simp
          with_reducible rfl
         rotate_left
         ·
          simp only [Act.put, List.setIfInBounds_toArray, List.set_cons_zero, List.set_cons_succ, i64_w, i32_w]
          rfl
         refine pure_ (i := 45) (N := some 77) (v := ?_) (a' := ?_) (List.toArray (yq :: [yq,yq,yq,yq,yq,yq,yq,yq,yq,yq,yq,yq,yq,yq,yq,yq,yq,yq,yq,yq,yq,yq,yq,yq,yq,yq,yq,yq,yq,yq,yq,yq,yq,yq,yq,yq,yq,yq,yq,yq,yq,yq,yq,nq,yq,nq,nq,nq,nq,nq,nq,nq,nq,nq,nq,nq,nq,nq,nq,nq,nq,nq,nq])) rfl rfl (any_of HT_.out (by kernel_rfl)) (fun _ _ _ h => h) (Or.inl ⟨by rfl, ?_⟩) ?_ ?_
         rotate_left
         ·
          intro w'
          go_simp
          with_reducible rfl
         rotate_left
         ·
          simp only [Act.put, List.setIfInBounds_toArray, List.set_cons_zero, List.set_cons_succ, i64_w, i32_w]
          rfl
         refine take_ (i := 44) (N := some 76) (v := ?_) (a' := ?_) (List.toArray (yq :: [yq,yq,yq,yq,yq,yq,yq,yq,yq,yq,yq,yq,yq,yq,yq,yq,yq,yq,yq,yq,yq,yq,yq,yq,yq,yq,yq,yq,yq,yq,yq,yq,yq,yq,yq,yq,yq,yq,yq,yq,yq,yq,yq,yq,yq,nq,nq,nq,nq,nq,nq,nq,nq,nq,nq,nq,nq,nq,nq,nq,nq,nq,nq])) rfl rfl (take_ofW HT_.out HW_.out (by kernel_rfl)) (fun _ _ _ h => h) (Or.inl ⟨by rfl, ?_⟩) hHeld ?_ ?_
         rotate_left
         ·
          rintro w' ⟨s0, s1, s2, s3, s4, s5, s6, s7, s8, s9, s10, s11, s12, s13, s14, s15, s16, s17, s18, s19, s20, s21, s22, s23⟩
          go_simp
          with_reducible rfl
         rotate_left
         ·
          simp only [Act.put, List.setIfInBounds_toArray, List.set_cons_zero, List.set_cons_succ, i64_w, i32_w]
          rfl
         refine take_ (i := 46) (N := some 78) (v := ?_) (a' := ?_) (List.toArray (yq :: [yq,yq,yq,yq,yq,yq,yq,yq,yq,yq,yq,yq,yq,yq,yq,yq,yq,yq,yq,yq,yq,yq,yq,yq,yq,yq,yq,yq,yq,yq,yq,yq,yq,yq,yq,yq,yq,yq,yq,yq,yq,yq,yq,yq,yq,yq,nq,nq,nq,nq,nq,nq,nq,nq,nq,nq,nq,nq,nq,nq,nq,nq,nq])) rfl rfl (take_ofW HT_.out HW_.out (by kernel_rfl)) (fun _ _ _ h => h) (Or.inl ⟨by rfl, ?_⟩) hHeld ?_ ?_
         rotate_left
         ·
          rintro w' ⟨s0, s1, s2, s3, s4, s5, s6, s7, s8, s9, s10, s11, s12, s13, s14, s15, s16, s17, s18, s19, s20, s21, s22, s23⟩
          go_simp
          with_reducible rfl
         rotate_left
         ·
          simp only [Act.put, List.setIfInBounds_toArray, List.set_cons_zero, List.set_cons_succ, i64_w, i32_w]
          rfl
         refine one_ (i := 47) (N := some 79) (List.toArray (yq :: [yq,yq,yq,yq,yq,yq,yq,yq,yq,yq,yq,yq,yq,yq,yq,yq,yq,yq,yq,yq,yq,yq,yq,yq,yq,yq,yq,yq,yq,yq,yq,yq,yq,yq,yq,yq,yq,yq,yq,yq,yq,yq,yq,yq,yq,yq,yq,nq,nq,nq,nq,nq,nq,nq,nq,nq,nq,nq,nq,nq,nq,nq,nq])) rfl rfl (one_of HT_.out (by kernel_rfl)) (by decide) (fun K hK => ?_)
         refine goes_ Try.func18 (by kernel_rfl) rfl #[.int .i64 t284, .int .i64 t288, .int .i64 4] (by rfl) rfl rfl (by (try simp only [List.map_toArray, List.map_cons, List.map_nil]); first | done | rfl | (simp only [List.length_drop, List.length_take]; rfl)) ?_
         with_reducible refine (tourkeep1_near.calls t284 t288 4 true _ A96.out).mono ?_
         rintro e w' ⟨rfl, ⟨nd, rfl⟩⟩
         refine ⟨_, rfl, ?_⟩
         refine hK.out _ _ ⟨(blk_cell BK271.out 0).trans rfl, (blk_cell BK271.out 1).trans rfl, (blk_cell BK271.out 2).trans rfl, (blk_cell BK271.out 3).trans rfl, (blk_cell BK272.out 0).trans rfl, (blk_cell BK272.out 1).trans rfl, (blk_cell BK272.out 2).trans rfl, (blk_cell BK272.out 3).trans rfl, (blk_cell BK282.out 0).trans rfl, (blk_cell BK282.out 1).trans rfl, (blk_cell BK282.out 2).trans rfl, (blk_cell BK282.out 3).trans rfl, (blk_cell BK277.out 0).trans rfl, (blk_cell BK277.out 1).trans rfl, (blk_cell BK277.out 2).trans rfl, (blk_cell BK277.out 3).trans rfl, (blk_cell BK291.out 0).trans rfl, (blk_cell BK291.out 1).trans rfl, (blk_cell BK291.out 2).trans rfl, (blk_cell BK291.out 3).trans rfl, (blk_cell BK292.out 0).trans rfl, (blk_cell BK292.out 1).trans rfl, (blk_cell BK292.out 2).trans rfl, (blk_cell BK292.out 3).trans rfl⟩ (fun hHeld => ?_)
         clear hK K
         refine norm_ (a' := ?_) ?_ ?_
         rotate_left
         ·
          show Act.put _ (some 79) _ = _
          simp only [Act.put, List.setIfInBounds_toArray, List.set_cons_zero, List.set_cons_succ, i64_w, i32_w]
          rfl
         refine pure_ (i := 48) (N := some 80) (v := ?_) (a' := ?_) (List.toArray (yq :: [yq,yq,yq,yq,yq,yq,yq,yq,yq,yq,yq,yq,yq,yq,yq,yq,yq,yq,yq,yq,yq,yq,yq,yq,yq,yq,yq,yq,yq,yq,yq,yq,yq,yq,yq,yq,yq,yq,yq,yq,yq,yq,yq,yq,yq,yq,yq,yq,nq,nq,nq,nq,nq,nq,nq,nq,nq,nq,nq,nq,nq,nq,nq])) rfl rfl (any_of HT_.out (by kernel_rfl)) (fun _ _ _ h => h) (Or.inl ⟨by rfl, ?_⟩) ?_ ?_
         rotate_left
         ·
          intro w'
          go_simp
          with_reducible rfl
         rotate_left
         ·
          simp only [Act.put, List.setIfInBounds_toArray, List.set_cons_zero, List.set_cons_succ, i64_w, i32_w]
          rfl
         refine pure_ (i := 49) (N := some 81) (v := ?_) (a' := ?_) (List.toArray (yq :: [yq,yq,yq,yq,yq,yq,yq,yq,yq,yq,yq,yq,yq,yq,yq,yq,yq,yq,yq,yq,yq,yq,yq,yq,yq,yq,yq,yq,yq,yq,yq,yq,yq,yq,yq,yq,yq,yq,yq,yq,yq,yq,yq,yq,yq,yq,yq,yq,yq,nq,nq,nq,nq,nq,nq,nq,nq,nq,nq,nq,nq,nq,nq])) rfl rfl (any_of HT_.out (by kernel_rfl)) (fun _ _ _ h => h) (Or.inl ⟨by rfl, ?_⟩) ?_ ?_
         rotate_left
         ·
          intro w'
          go_simp
          with_reducible rfl
         rotate_left
         ·
          simp only [Act.put, List.setIfInBounds_toArray, List.set_cons_zero, List.set_cons_succ, i64_w, i32_w]
          rfl
         refine pure_ (i := 50) (N := some 82) (v := ?_) (a' := ?_) (List.toArray (yq :: [yq,yq,yq,yq,yq,yq,yq,yq,yq,yq,yq,yq,yq,yq,yq,yq,yq,yq,yq,yq,yq,yq,yq,yq,yq,yq,yq,yq,yq,yq,yq,yq,yq,yq,yq,yq,yq,yq,yq,yq,yq,yq,yq,yq,yq,yq,yq,yq,yq,yq,nq,nq,nq,nq,nq,nq,nq,nq,nq,nq,nq,nq,nq])) rfl rfl (any_of HT_.out (by kernel_rfl)) (fun _ _ _ h => h) (Or.inl ⟨by rfl, ?_⟩) ?_ ?_
         rotate_left
         ·
          intro w'
          go_simp
          with_reducible rfl
         rotate_left
         ·
          simp only [Act.put, List.setIfInBounds_toArray, List.set_cons_zero, List.set_cons_succ, i64_w, i32_w]
          rfl
         refine pure_ (i := 52) (N := some 84) (v := ?_) (a' := ?_) (List.toArray (yq :: [yq,yq,yq,yq,yq,yq,yq,yq,yq,yq,yq,yq,yq,yq,yq,yq,yq,yq,yq,yq,yq,yq,yq,yq,yq,yq,yq,yq,yq,yq,yq,yq,yq,yq,yq,yq,yq,yq,yq,yq,yq,yq,yq,yq,yq,yq,yq,yq,yq,yq,nq,yq,nq,nq,nq,nq,nq,nq,nq,nq,nq,nq,nq])) rfl rfl (any_of HT_.out (by kernel_rfl)) (fun _ _ _ h => h) (Or.inl ⟨by rfl, ?_⟩) ?_ ?_
         rotate_left
         ·
          intro w'
          go_simp
          with_reducible rfl
         rotate_left
         ·
          simp only [Act.put, List.setIfInBounds_toArray, List.set_cons_zero, List.set_cons_succ, i64_w, i32_w]
          rfl
         refine take_ (i := 51) (N := some 83) (v := ?_) (a' := ?_) (List.toArray (yq :: [yq,yq,yq,yq,yq,yq,yq,yq,yq,yq,yq,yq,yq,yq,yq,yq,yq,yq,yq,yq,yq,yq,yq,yq,yq,yq,yq,yq,yq,yq,yq,yq,yq,yq,yq,yq,yq,yq,yq,yq,yq,yq,yq,yq,yq,yq,yq,yq,yq,yq,yq,yq,nq,nq,nq,nq,nq,nq,nq,nq,nq,nq,nq])) rfl rfl (take_ofW HT_.out HW_.out (by kernel_rfl)) (fun _ _ _ h => h) (Or.inl ⟨by rfl, ?_⟩) hHeld ?_ ?_
         rotate_left
         ·
          rintro w' ⟨s0, s1, s2, s3, s4, s5, s6, s7, s8, s9, s10, s11, s12, s13, s14, s15, s16, s17, s18, s19, s20, s21, s22, s23⟩
          go_simp
          with_reducible rfl
         rotate_left
         ·
          simp only [Act.put, List.setIfInBounds_toArray, List.set_cons_zero, List.set_cons_succ, i64_w, i32_w]
          rfl
         refine take_ (i := 53) (N := some 85) (v := ?_) (a' := ?_) (List.toArray (yq :: [yq,yq,yq,yq,yq,yq,yq,yq,yq,yq,yq,yq,yq,yq,yq,yq,yq,yq,yq,yq,yq,yq,yq,yq,yq,yq,yq,yq,yq,yq,yq,yq,yq,yq,yq,yq,yq,yq,yq,yq,yq,yq,yq,yq,yq,yq,yq,yq,yq,yq,yq,yq,yq,nq,nq,nq,nq,nq,nq,nq,nq,nq,nq])) rfl rfl (take_ofW HT_.out HW_.out (by kernel_rfl)) (fun _ _ _ h => h) (Or.inl ⟨by rfl, ?_⟩) hHeld ?_ ?_
         rotate_left
         ·
          rintro w' ⟨s0, s1, s2, s3, s4, s5, s6, s7, s8, s9, s10, s11, s12, s13, s14, s15, s16, s17, s18, s19, s20, s21, s22, s23⟩
          go_simp
          with_reducible rfl
         rotate_left
         ·
          simp only [Act.put, List.setIfInBounds_toArray, List.set_cons_zero, List.set_cons_succ, i64_w, i32_w]
          rfl
         refine one_ (i := 54) (N := some 86) (List.toArray (yq :: [yq,yq,yq,yq,yq,yq,yq,yq,yq,yq,yq,yq,yq,yq,yq,yq,yq,yq,yq,yq,yq,yq,yq,yq,yq,yq,yq,yq,yq,yq,yq,yq,yq,yq,yq,yq,yq,yq,yq,yq,yq,yq,yq,yq,yq,yq,yq,yq,yq,yq,yq,yq,yq,yq,nq,nq,nq,nq,nq,nq,nq,nq,nq])) rfl rfl (one_of HT_.out (by kernel_rfl)) (by decide) (fun K hK => ?_)
         refine goes_ Try.func18 (by kernel_rfl) rfl #[.int .i64 t285, .int .i64 t289, .int .i64 4] (by rfl) rfl rfl (by (try simp only [List.map_toArray, List.map_cons, List.map_nil]); first | done | rfl | (simp only [List.length_drop, List.length_take]; rfl)) ?_
         with_reducible refine (tourkeep1_near.calls t285 t289 4 true _ A98.out).mono ?_
         rintro e w' ⟨rfl, ⟨nd, rfl⟩⟩
         refine ⟨_, rfl, ?_⟩
         refine hK.out _ _ ⟨(blk_cell BK271.out 0).trans rfl, (blk_cell BK271.out 1).trans rfl, (blk_cell BK271.out 2).trans rfl, (blk_cell BK271.out 3).trans rfl, (blk_cell BK272.out 0).trans rfl, (blk_cell BK272.out 1).trans rfl, (blk_cell BK272.out 2).trans rfl, (blk_cell BK272.out 3).trans rfl, (blk_cell BK282.out 0).trans rfl, (blk_cell BK282.out 1).trans rfl, (blk_cell BK282.out 2).trans rfl, (blk_cell BK282.out 3).trans rfl, (blk_cell BK277.out 0).trans rfl, (blk_cell BK277.out 1).trans rfl, (blk_cell BK277.out 2).trans rfl, (blk_cell BK277.out 3).trans rfl, (blk_cell BK291.out 0).trans rfl, (blk_cell BK291.out 1).trans rfl, (blk_cell BK291.out 2).trans rfl, (blk_cell BK291.out 3).trans rfl, (blk_cell BK292.out 0).trans rfl, (blk_cell BK292.out 1).trans rfl, (blk_cell BK292.out 2).trans rfl, (blk_cell BK292.out 3).trans rfl⟩ (fun hHeld => ?_)
         clear hK K
         refine norm_ (a' := ?_) ?_ ?_
         rotate_left
         ·
          show Act.put _ (some 86) _ = _
          simp only [Act.put, List.setIfInBounds_toArray, List.set_cons_zero, List.set_cons_succ, i64_w, i32_w]
          rfl
         refine pure_ (i := 55) (N := some 87) (v := ?_) (a' := ?_) (List.toArray (yq :: [yq,yq,yq,yq,yq,yq,yq,yq,yq,yq,yq,yq,yq,yq,yq,yq,yq,yq,yq,yq,yq,yq,yq,yq,yq,yq,yq,yq,yq,yq,yq,yq,yq,yq,yq,yq,yq,yq,yq,yq,yq,yq,yq,yq,yq,yq,yq,yq,yq,yq,yq,yq,yq,yq,yq,nq,nq,nq,nq,nq,nq,nq,nq])) rfl rfl (any_of HT_.out (by kernel_rfl)) (fun _ _ _ h => h) (Or.inl ⟨by rfl, ?_⟩) ?_ ?_
         rotate_left
         ·
          intro w'
          go_simp
          with_reducible rfl
         rotate_left
         ·
          simp only [Act.put, List.setIfInBounds_toArray, List.set_cons_zero, List.set_cons_succ, i64_w, i32_w]
          rfl
         refine pure_ (i := 56) (N := some 88) (v := ?_) (a' := ?_) (List.toArray (yq :: [yq,yq,yq,yq,yq,yq,yq,yq,yq,yq,yq,yq,yq,yq,yq,yq,yq,yq,yq,yq,yq,yq,yq,yq,yq,yq,yq,yq,yq,yq,yq,yq,yq,yq,yq,yq,yq,yq,yq,yq,yq,yq,yq,yq,yq,yq,yq,yq,yq,yq,yq,yq,yq,yq,yq,yq,nq,nq,nq,nq,nq,nq,nq])) rfl rfl (any_of HT_.out (by kernel_rfl)) (fun _ _ _ h => h) (Or.inl ⟨by rfl, ?_⟩) ?_ ?_
         rotate_left
         ·
          intro w'
          go_simp
          with_reducible rfl
         rotate_left
         ·
          simp only [Act.put, List.setIfInBounds_toArray, List.set_cons_zero, List.set_cons_succ, i64_w, i32_w]
          rfl
         refine pure_ (i := 57) (N := some 89) (v := ?_) (a' := ?_) (List.toArray (yq :: [yq,yq,yq,yq,yq,yq,yq,yq,yq,yq,yq,yq,yq,yq,yq,yq,yq,yq,yq,yq,yq,yq,yq,yq,yq,yq,yq,yq,yq,yq,yq,yq,yq,yq,yq,yq,yq,yq,yq,yq,yq,yq,yq,yq,yq,yq,yq,yq,yq,yq,yq,yq,yq,yq,yq,yq,yq,nq,nq,nq,nq,nq,nq])) rfl rfl (any_of HT_.out (by kernel_rfl)) (fun _ _ _ h => h) (Or.inl ⟨by rfl, ?_⟩) ?_ ?_
         rotate_left
         ·
          intro w'
          go_simp
          with_reducible rfl
         rotate_left
         ·
          simp only [Act.put, List.setIfInBounds_toArray, List.set_cons_zero, List.set_cons_succ, i64_w, i32_w]
          rfl
         refine pure_ (i := 59) (N := some 91) (v := ?_) (a' := ?_) (List.toArray (yq :: [yq,yq,yq,yq,yq,yq,yq,yq,yq,yq,yq,yq,yq,yq,yq,yq,yq,yq,yq,yq,yq,yq,yq,yq,yq,yq,yq,yq,yq,yq,yq,yq,yq,yq,yq,yq,yq,yq,yq,yq,yq,yq,yq,yq,yq,yq,yq,yq,yq,yq,yq,yq,yq,yq,yq,yq,yq,nq,yq,nq,nq,nq,nq])) rfl rfl (any_of HT_.out (by kernel_rfl)) (fun _ _ _ h => h) (Or.inl ⟨by rfl, ?_⟩) ?_ ?_
         rotate_left
         ·
          intro w'
          go_simp
          with_reducible rfl
         rotate_left
         ·
          simp only [Act.put, List.setIfInBounds_toArray, List.set_cons_zero, List.set_cons_succ, i64_w, i32_w]
          rfl
         refine take_ (i := 58) (N := some 90) (v := ?_) (a' := ?_) (List.toArray (yq :: [yq,yq,yq,yq,yq,yq,yq,yq,yq,yq,yq,yq,yq,yq,yq,yq,yq,yq,yq,yq,yq,yq,yq,yq,yq,yq,yq,yq,yq,yq,yq,yq,yq,yq,yq,yq,yq,yq,yq,yq,yq,yq,yq,yq,yq,yq,yq,yq,yq,yq,yq,yq,yq,yq,yq,yq,yq,yq,yq,nq,nq,nq,nq])) rfl rfl (take_ofW HT_.out HW_.out (by kernel_rfl)) (fun _ _ _ h => h) (Or.inl ⟨by rfl, ?_⟩) hHeld ?_ ?_
         rotate_left
         ·
          rintro w' ⟨s0, s1, s2, s3, s4, s5, s6, s7, s8, s9, s10, s11, s12, s13, s14, s15, s16, s17, s18, s19, s20, s21, s22, s23⟩
          go_simp
          with_reducible rfl
         rotate_left
         ·
          simp only [Act.put, List.setIfInBounds_toArray, List.set_cons_zero, List.set_cons_succ, i64_w, i32_w]
          rfl
         refine take_ (i := 60) (N := some 92) (v := ?_) (a' := ?_) (List.toArray (yq :: [yq,yq,yq,yq,yq,yq,yq,yq,yq,yq,yq,yq,yq,yq,yq,yq,yq,yq,yq,yq,yq,yq,yq,yq,yq,yq,yq,yq,yq,yq,yq,yq,yq,yq,yq,yq,yq,yq,yq,yq,yq,yq,yq,yq,yq,yq,yq,yq,yq,yq,yq,yq,yq,yq,yq,yq,yq,yq,yq,yq,nq,nq,nq])) rfl rfl (take_ofW HT_.out HW_.out (by kernel_rfl)) (fun _ _ _ h => h) (Or.inl ⟨by rfl, ?_⟩) hHeld ?_ ?_
         rotate_left
         ·
          rintro w' ⟨s0, s1, s2, s3, s4, s5, s6, s7, s8, s9, s10, s11, s12, s13, s14, s15, s16, s17, s18, s19, s20, s21, s22, s23⟩
          go_simp
          with_reducible rfl
         rotate_left
         ·
          simp only [Act.put, List.setIfInBounds_toArray, List.set_cons_zero, List.set_cons_succ, i64_w, i32_w]
          rfl
         refine one_ (i := 61) (N := some 93) (List.toArray (yq :: [yq,yq,yq,yq,yq,yq,yq,yq,yq,yq,yq,yq,yq,yq,yq,yq,yq,yq,yq,yq,yq,yq,yq,yq,yq,yq,yq,yq,yq,yq,yq,yq,yq,yq,yq,yq,yq,yq,yq,yq,yq,yq,yq,yq,yq,yq,yq,yq,yq,yq,yq,yq,yq,yq,yq,yq,yq,yq,yq,yq,yq,nq,nq])) rfl rfl (one_of HT_.out (by kernel_rfl)) (by decide) (fun K hK => ?_)
         refine goes_ Try.func18 (by kernel_rfl) rfl #[.int .i64 t286, .int .i64 t290, .int .i64 4] (by rfl) rfl rfl (by (try simp only [List.map_toArray, List.map_cons, List.map_nil]); first | done | rfl | (simp only [List.length_drop, List.length_take]; rfl)) ?_
         with_reducible refine (tourkeep1_near.calls t286 t290 4 t320 _ A100.out).mono ?_
         rintro e w' ⟨rfl, ⟨nd, rfl⟩⟩
         refine ⟨_, rfl, ?_⟩
         refine hK.out _ _ ⟨(blk_cell BK271.out 0).trans rfl, (blk_cell BK271.out 1).trans rfl, (blk_cell BK271.out 2).trans rfl, (blk_cell BK271.out 3).trans rfl, (blk_cell BK272.out 0).trans rfl, (blk_cell BK272.out 1).trans rfl, (blk_cell BK272.out 2).trans rfl, (blk_cell BK272.out 3).trans rfl, (blk_cell BK282.out 0).trans rfl, (blk_cell BK282.out 1).trans rfl, (blk_cell BK282.out 2).trans rfl, (blk_cell BK282.out 3).trans rfl, (blk_cell BK277.out 0).trans rfl, (blk_cell BK277.out 1).trans rfl, (blk_cell BK277.out 2).trans rfl, (blk_cell BK277.out 3).trans rfl, (blk_cell BK291.out 0).trans rfl, (blk_cell BK291.out 1).trans rfl, (blk_cell BK291.out 2).trans rfl, (blk_cell BK291.out 3).trans rfl, (blk_cell BK292.out 0).trans rfl, (blk_cell BK292.out 1).trans rfl, (blk_cell BK292.out 2).trans rfl, (blk_cell BK292.out 3).trans rfl⟩ (fun hHeld => ?_)
         clear hK K
         refine norm_ (a' := ?_) ?_ ?_
         rotate_left
         ·
          show Act.put _ (some 93) _ = _
          simp only [Act.put, List.setIfInBounds_toArray, List.set_cons_zero, List.set_cons_succ, i64_w, i32_w]
          rfl
         refine pure_ (i := 62) (N := some 94) (v := ?_) (a' := ?_) (List.toArray (yq :: [yq,yq,yq,yq,yq,yq,yq,yq,yq,yq,yq,yq,yq,yq,yq,yq,yq,yq,yq,yq,yq,yq,yq,yq,yq,yq,yq,yq,yq,yq,yq,yq,yq,yq,yq,yq,yq,yq,yq,yq,yq,yq,yq,yq,yq,yq,yq,yq,yq,yq,yq,yq,yq,yq,yq,yq,yq,yq,yq,yq,yq,yq,nq])) rfl rfl (any_of HT_.out (by kernel_rfl)) (fun _ _ _ h => h) (Or.inl ⟨by rfl, ?_⟩) ?_ ?_
         rotate_left
         ·
          intro w'
          go_simp
          with_reducible rfl
         rotate_left
         ·
          simp only [Act.put, List.setIfInBounds_toArray, List.set_cons_zero, List.set_cons_succ, i64_w, i32_w]
          rfl
         refine pure_ (i := 63) (N := some 6) (v := ?_) (a' := ?_) (List.toArray (yq :: [yq,yq,yq,yq,yq,yq,yq,yq,yq,yq,yq,yq,yq,yq,yq,yq,yq,yq,yq,yq,yq,yq,yq,yq,yq,yq,yq,yq,yq,yq,yq,yq,yq,yq,yq,yq,yq,yq,yq,yq,yq,yq,yq,yq,yq,yq,yq,yq,yq,yq,yq,yq,yq,yq,yq,yq,yq,yq,yq,yq,yq,yq,yq])) rfl rfl (any_of HT_.out (by kernel_rfl)) (fun _ _ _ h => h) (Or.inl ⟨by rfl, ?_⟩) ?_ ?_
         rotate_left
         ·
          intro w'
          go_simp
          with_reducible rfl
         rotate_left
         ·
          simp only [Act.put, List.setIfInBounds_toArray, List.set_cons_zero, List.set_cons_succ, i64_w, i32_w]
          rfl
         refine done_ (done_of HT_.out (by kernel_rfl)) ?_
         try go_wp2
         go_ret
         exact ⟨by first | rfl | (simp [errW_none, errW_some] <;> rfl) | (simp [*, errW_none, errW_some] <;> rfl), by repeat (first | (with_reducible first | exact HB.out | apply below_alloc | apply pw_below_drewN | apply below_drew1 | refine below_set ?_ GE260.out | refine below_set ?_ GE261.out | refine below_set ?_ GE271.out | refine below_set ?_ GE272.out | refine below_set ?_ GE277.out | refine below_set ?_ GE282.out | refine below_set ?_ GE291.out | refine below_set ?_ GE292.out) | exact HB.out)⟩
        ·
         replace c99 := Bool.eq_false_iff.mpr c99
         subst c99
         have H1 : (none) = some r := by rw [if_neg (show ¬ (false = true) by decide)] at H; exact H
         clear H
         have H := H1
         clear H1
         exact absurd H (by simp)
       ·
        replace c97 := Bool.eq_false_iff.mpr c97
        subst c97
        have H1 : (none) = some r := by rw [if_neg (show ¬ (false = true) by decide)] at H; exact H
        clear H
        have H := H1
        clear H1
        exact absurd H (by simp)
      ·
       replace c95 := Bool.eq_false_iff.mpr c95
       subst c95
       have H1 : (none) = some r := by rw [if_neg (show ¬ (false = true) by decide)] at H; exact H
       clear H
       have H := H1
       clear H1
       exact absurd H (by simp)
     ·
      replace c93 := Bool.eq_false_iff.mpr c93
      subst c93
      have H1 : (none) = some r := by rw [if_neg (show ¬ (false = true) by decide)] at H; exact H
      clear H
      have H := H1
      clear H1
      exact absurd H (by simp)
    ·
     rw [if_neg c90] at H
     have c90b0 : (t278 == t311 && (t279 == t312 && (t280 == t313 && (t281 == t314)))) = false := by simpa using c90
     (try (have c90b1 : decide (t278 = t311 && (t279 == t312 && (t280 == t313 && (t281 == t314)))) = false := by simpa using c90))
     (try (have c90b2 : (t278 == t311 && (t279 == t312 && (t280 == t313 && (t281 == t314)))) = false := by simpa using c90))
     (try (have c90b3 : ¬ (t278 = t311 && (t279 == t312 && (t280 == t313 && (t281 == t314)))) := by simpa using c90))
     clear c90
     exact absurd H (by simp)
  ·
   rw [if_neg c14] at H
   have c14b0 : (t293 == t297 && (t294 == t298 && (t295 == t299 && (t296 == t300)))) = false := by simpa using c14
   (try (have c14b1 : decide (t293 = t297 && (t294 == t298 && (t295 == t299 && (t296 == t300)))) = false := by simpa using c14))
   (try (have c14b2 : (t293 == t297 && (t294 == t298 && (t295 == t299 && (t296 == t300)))) = false := by simpa using c14))
   (try (have c14b3 : ¬ (t293 = t297 && (t294 == t298 && (t295 == t299 && (t296 == t300)))) := by simpa using c14))
   clear c14
   exact absurd H (by simp)
 ·
  replace c5 := Bool.eq_false_iff.mpr c5
  subst c5
  have H1 : (none) = some r := by rw [if_neg (show ¬ (false = true) by decide)] at H; exact H
  clear H
  have H := H1
  clear H1
  exact absurd H (by simp)

theorem tourkeep1_QuatBlends.walk (P : tourkeep1_QuatBlends.Pure) (a0_0 : Int) (a0_1 : Int) (a0_2 : Int) (a0_3 : Int) (a1_0 : Int) (a1_1 : Int) (a1_2 : Int) (a1_3 : Int) (a2 : Int) (w : World) (w0_0 : (Lit.int .i64 a0_0).wf = true) (w0_1 : (Lit.int .i64 a0_1).wf = true) (w0_2 : (Lit.int .i64 a0_2).wf = true) (w0_3 : (Lit.int .i64 a0_3).wf = true) (w1_0 : (Lit.int .i64 a1_0).wf = true) (w1_1 : (Lit.int .i64 a1_1).wf = true) (w1_2 : (Lit.int .i64 a1_2).wf = true) (w1_3 : (Lit.int .i64 a1_3).wf = true) (w2 : (Lit.int .i64 a2).wf = true) :
  Calls Try.prog 10 #[.agg #[.int .i64 a0_0, .int .i64 a0_1, .int .i64 a0_2, .int .i64 a0_3], .agg #[.int .i64 a1_0, .int .i64 a1_1, .int .i64 a1_2, .int .i64 a1_3], .int .i64 a2] w fun e w' => e = .returned (.bool true) ∧ Below w.heap.size w w' := by
 obtain ⟨k, h⟩ := P a0_0 a0_1 a0_2 a0_3 a1_0 a1_1 a1_2 a1_3 a2 w0_0 w0_1 w0_2 w0_3 w1_0 w1_1 w1_2 w1_3 w2
 refine (tourkeep1_QuatBlends.calls k a0_0 a0_1 a0_2 a0_3 a1_0 a1_1 a1_2 a1_3 a2 true w h).mono ?_
 rintro e w' ⟨rfl, hd⟩
 exact ⟨rfl, hd⟩

end Go.Proofs.Ytnadffanmnbfcaa.P
