/- Functions of this seat in plain Lean and their contracts, written by a turned copy of the kit's print (turns: wip/pr/make.py of this session). No condition. Short rows. -/
import Derived.Test.YtnadffanmnbfcaaPAllx0
import Derived.Test.YtnadffanmnbfcaaPAllx2
import Derived.Test.YtnadffanmnbfcaaPAllx3
import Derived.Test.YtnadffanmnbfcaaPAllx7
import Derived.Test.YtnadffanmnbfcaaPAllx8
namespace Go.Proofs.Ytnadffanmnbfcaa.P
open Go.RowKit Go.Proofs.YtnadffanmnbfcaaW.PrintWords Go.Proofs.YtnadffanmnbfcaaW.PrintLast Go.Proofs.YtnadffanmnbfcaaW.PrintMore
attribute [local go_sem] max2_int min2_int max_two min_two max_three min_three max_four min_four   -- for this text's walks alone
set_option linter.unusedVariables false
set_option linter.unusedSimpArgs false

/-! ### tourkeep1_VecProducts: function 5 -/
def tourkeep1_VecProducts.f (k : Nat) (a0 : Int) (a1 : Int) (a2 : Int) (a3 : Int) : Option (Bool) := (tourkeep1_vecBegun.f k).bind fun t145 => (if t145 = true then ((tourkeep1_small.f a0 a1).bind fun bt146 => ((tourkeep1_small.f a2 a3).bind fun bt148 => ((vec_Dot.f k (bt146.1 / 256) (bt146.2 / 256) (bt148.1 / 256) (bt148.2 / 256)).bind fun t152 => ((vec_Cross.f k (bt146.1 / 256) (bt146.2 / 256) (bt148.1 / 256) (bt148.2 / 256)).bind fun t153 => ((vec_Dot.f k (bt146.1 / 256) (bt146.2 / 256) (bt146.1 / 256) (bt146.2 / 256)).bind fun t154 => ((vec_Dot.f k (bt148.1 / 256) (bt148.2 / 256) (bt146.1 / 256) (bt146.2 / 256)).bind fun t155 => (if t155 = t152 then ((vec_Cross.f k (bt148.1 / 256) (bt148.2 / 256) (bt146.1 / 256) (bt146.2 / 256)).bind fun t156 => (if t156 = (wrap64 (-t153)) then ((vec_Cross.f k (bt146.1 / 256) (bt146.2 / 256) (bt146.1 / 256) (bt146.2 / 256)).bind fun t157 => (if t157 = 0 then ((vec_Dot.f k (bt148.1 / 256) (bt148.2 / 256) (bt148.1 / 256) (bt148.2 / 256)).bind fun t158 => ((vec_Dot.f k (bt146.1 / 256) (bt146.2 / 256) (bt146.1 / 256) (bt146.2 / 256)).bind fun t159 => ((vec_Dot.f k (bt148.1 / 256) (bt148.2 / 256) (bt148.1 / 256) (bt148.2 / 256)).bind fun t160 => ((tourkeep1_near.f (wrap64 (Int.tdiv (wrap64 ((wrap64 (t152 * t152)) + (wrap64 (t153 * t153)))) 65536)) (wrap64 (Int.tdiv (wrap64 (t154 * t158)) 65536)) (wrap64 ((wrap64 ((wrap64 ((wrap64 (Int.tdiv (wrap64 ((wrap64 ((wrap64 (2 * (mx t152 (wrap64 (-t152))))) + (wrap64 (2 * (mx t153 (wrap64 (-t153))))))) + 2)) 65536)) + (wrap64 (Int.tdiv t159 65536)))) + (wrap64 (Int.tdiv t160 65536)))) + 5))).bind fun t161 => (some t161))))) else (none))) else (none))) else (none)))))))) else (none))
theorem tourkeep1_VecProducts.mono : ∀ a0 a1 a2 a3 k, LeO (tourkeep1_VecProducts.f k a0 a1 a2 a3) (tourkeep1_VecProducts.f (k + 1) a0 a1 a2 a3) := by
 intro a0 a1 a2 a3 k
 unfold tourkeep1_VecProducts.f
 repeat' first
   | (with_reducible exact tourkeep1_vecBegun.mono _)
   | (with_reducible exact vec_Cross.mono _ _ _ _ _)
   | (with_reducible exact vec_Dot.mono _ _ _ _ _)
   | (with_reducible exact LeO.refl _)
   | (with_reducible exact LeO.none _)
   | (with_reducible refine LeO.ite ?_ ?_)
   | (with_reducible refine LeO.bind ?_ (fun _ => ?_))
   | exact tourkeep1_vecBegun.mono _
   | exact vec_Cross.mono _ _ _ _ _
   | exact vec_Dot.mono _ _ _ _ _
   | exact LeO.none _
   | refine LeO.ite ?_ ?_
   | refine LeO.bind ?_ (fun _ => ?_)
def tourkeep1_VecProducts.T4 : Bool × List (List Nat × List Nat) := (true, [([], []), ([0], [0]), ([1], [1]), ([], []), ([3], [3]), ([4], [4]), ([], []), ([6], [6]), ([7], [7]), ([], []), ([9], [9]), ([10], [10]), ([0, 1, 2, 3, 4, 9, 10], []), ([12, 2, 0, 1, 2, 3, 4, 9, 10], [2, 12]), ([0, 1, 2, 3, 4, 5, 9, 10, 12, 13], []), ([14, 5, 13, 0, 1, 2, 3, 4, 5, 9, 10, 12, 13], [5, 14]), ([0, 1, 2, 3, 4, 5, 6, 7, 8, 9, 10, 12, 13, 14, 15], []), ([16, 8, 15, 0, 1, 2, 3, 4, 5, 6, 7, 8, 9, 10, 12, 13, 14, 15], [8, 16]), ([0, 1, 2, 3, 4, 5, 6, 7, 8, 9, 10, 11, 12, 13, 14, 15, 16, 17], []), ([18, 11, 17, 0, 1, 2, 3, 4, 5, 6, 7, 8, 9, 10, 11, 12, 13, 14, 15, 16, 17], [11, 18])])
def tourkeep1_VecProducts.B4 : List Nat := [0, 1, 3, 0, 8, 24, 0, 64, 192, 0, 512, 1536, 1567, 5663, 13887, 30271, 63487, 129023, 262143, 524287]
theorem tourkeep1_VecProducts.tab4 : rtab .any (opsOf Try.f5 4) = tourkeep1_VecProducts.T4 := by kernel_rfl
theorem tourkeep1_VecProducts.bits4 : waitsOk tourkeep1_VecProducts.T4.2 tourkeep1_VecProducts.B4 = true := by kernel_rfl
def tourkeep1_VecProducts.T5 : Bool × List (List Nat × List Nat) := (true, [([], []), ([], []), ([0, 1], [0, 1]), ([], []), ([], []), ([3, 4, 2], [3, 4]), ([2, 5, 0, 1, 2], [2]), ([5, 6, 0, 1, 2, 3, 4, 5, 6], [5])])
def tourkeep1_VecProducts.B5 : List Nat := [0, 0, 3, 0, 0, 31, 63, 127]
theorem tourkeep1_VecProducts.tab5 : rtab .any (opsOf Try.f5 5) = tourkeep1_VecProducts.T5 := by kernel_rfl
theorem tourkeep1_VecProducts.bits5 : waitsOk tourkeep1_VecProducts.T5.2 tourkeep1_VecProducts.B5 = true := by kernel_rfl
def tourkeep1_VecProducts.T9 : Bool × List (List Nat × List Nat) := (true, [([], []), ([], []), ([0, 1], [0, 1]), ([], []), ([2, 3], [2, 3]), ([4, 2], [4]), ([5], [5]), ([5], [5]), ([6, 7, 5, 5], [5, 6, 7]), ([5], [5]), ([9, 5], [5, 9]), ([8, 10, 5], [5, 8, 10]), ([5, 11], [5, 11]), ([12, 8], [12]), ([13], [13]), ([13], [13]), ([14, 15, 13, 13], [13, 14, 15]), ([16, 13], [13, 16]), ([13, 17], [13, 17]), ([18, 16], [18]), ([19], [19]), ([20, 19], [19, 20]), ([19], [19]), ([19], [19]), ([19], [19]), ([23, 24, 19, 19], [19, 23, 24]), ([22, 25, 19], [19, 22, 25]), ([26, 19], [19, 26]), ([19], [19]), ([28, 19], [19, 28]), ([19], [19]), ([19], [19]), ([30, 31, 25, 19], [19, 30, 31]), ([32, 19], [19, 32]), ([29, 33, 19], [19, 29, 33]), ([19], [19]), ([19], [19]), ([35, 36, 32, 19], [19, 35, 36]), ([37, 19], [19, 37]), ([34, 38, 19], [19, 34, 38]), ([39, 19], [19, 39]), ([21, 27, 40, 37, 19], [19, 21, 27, 40]), ([19, 41], [19, 41]), ([42, 41, 0, 1, 2, 3, 4, 5, 6, 7, 8, 9, 10, 11, 12, 13, 14, 15, 16, 17, 18, 19, 20, 21, 22, 23, 24, 25, 26, 27, 28, 29, 30, 31, 32, 33, 34, 35, 36, 37, 38, 39, 40, 41, 42], [42])])
def tourkeep1_VecProducts.B9 : List Nat := [0, 0, 3, 0, 15, 31, 63, 63, 255, 63, 575, 2047, 4095, 8191, 16383, 16383, 65535, 131071, 262143, 524287, 1048575, 2097151, 1048575, 1048575, 1048575, 26214399, 63963135, 131071999, 1048575, 269484031, 1048575, 1048575, 3280994303, 7575961599, 16971202559, 1048575, 1048575, 110655176703, 248094130175, 549547147263, 1099302961151, 2199023255551, 4398046511103, 8796093022207]
theorem tourkeep1_VecProducts.tab9 : rtab .any (opsOf Try.f5 9) = tourkeep1_VecProducts.T9 := by kernel_rfl
theorem tourkeep1_VecProducts.bits9 : waitsOk tourkeep1_VecProducts.T9.2 tourkeep1_VecProducts.B9 = true := by kernel_rfl
set_option maxHeartbeats 8000000 in
set_option maxRecDepth 100000 in
theorem tourkeep1_VecProducts.calls (k : Nat) (a0 : Int) (a1 : Int) (a2 : Int) (a3 : Int) (r : Bool) (w : World) (h : tourkeep1_VecProducts.f k a0 a1 a2 a3 = some r) :
  Calls Try.prog 5 #[.int .i64 a0, .int .i64 a1, .int .i64 a2, .int .i64 a3] w fun e w' => e = .returned (.bool r) ∧ Below w.heap.size w w' := by
 have hu24 := Try.underlying24
 have HB := Aside0.mk (Below.refl w.heap.size w)
 have H : ((tourkeep1_vecBegun.f k).bind fun t145 => (if t145 = true then ((tourkeep1_small.f a0 a1).bind fun bt146 => ((tourkeep1_small.f a2 a3).bind fun bt148 => ((vec_Dot.f k (bt146.1 / 256) (bt146.2 / 256) (bt148.1 / 256) (bt148.2 / 256)).bind fun t152 => ((vec_Cross.f k (bt146.1 / 256) (bt146.2 / 256) (bt148.1 / 256) (bt148.2 / 256)).bind fun t153 => ((vec_Dot.f k (bt146.1 / 256) (bt146.2 / 256) (bt146.1 / 256) (bt146.2 / 256)).bind fun t154 => ((vec_Dot.f k (bt148.1 / 256) (bt148.2 / 256) (bt146.1 / 256) (bt146.2 / 256)).bind fun t155 => (if t155 = t152 then ((vec_Cross.f k (bt148.1 / 256) (bt148.2 / 256) (bt146.1 / 256) (bt146.2 / 256)).bind fun t156 => (if t156 = (wrap64 (-t153)) then ((vec_Cross.f k (bt146.1 / 256) (bt146.2 / 256) (bt146.1 / 256) (bt146.2 / 256)).bind fun t157 => (if t157 = 0 then ((vec_Dot.f k (bt148.1 / 256) (bt148.2 / 256) (bt148.1 / 256) (bt148.2 / 256)).bind fun t158 => ((vec_Dot.f k (bt146.1 / 256) (bt146.2 / 256) (bt146.1 / 256) (bt146.2 / 256)).bind fun t159 => ((vec_Dot.f k (bt148.1 / 256) (bt148.2 / 256) (bt148.1 / 256) (bt148.2 / 256)).bind fun t160 => ((tourkeep1_near.f (wrap64 (Int.tdiv (wrap64 ((wrap64 (t152 * t152)) + (wrap64 (t153 * t153)))) 65536)) (wrap64 (Int.tdiv (wrap64 (t154 * t158)) 65536)) (wrap64 ((wrap64 ((wrap64 ((wrap64 (Int.tdiv (wrap64 ((wrap64 ((wrap64 (2 * (mx t152 (wrap64 (-t152))))) + (wrap64 (2 * (mx t153 (wrap64 (-t153))))))) + 2)) 65536)) + (wrap64 (Int.tdiv t159 65536)))) + (wrap64 (Int.tdiv t160 65536)))) + 5))).bind fun t161 => (some t161))))) else (none))) else (none))) else (none)))))))) else (none))) = some r := h
 clear h
 replace H := Option.bind_eq_some_iff.mp H
 obtain ⟨t145, A50, H⟩ := H
 replace H : (if t145 = true then ((tourkeep1_small.f a0 a1).bind fun bt146 => ((tourkeep1_small.f a2 a3).bind fun bt148 => ((vec_Dot.f k (bt146.1 / 256) (bt146.2 / 256) (bt148.1 / 256) (bt148.2 / 256)).bind fun t152 => ((vec_Cross.f k (bt146.1 / 256) (bt146.2 / 256) (bt148.1 / 256) (bt148.2 / 256)).bind fun t153 => ((vec_Dot.f k (bt146.1 / 256) (bt146.2 / 256) (bt146.1 / 256) (bt146.2 / 256)).bind fun t154 => ((vec_Dot.f k (bt148.1 / 256) (bt148.2 / 256) (bt146.1 / 256) (bt146.2 / 256)).bind fun t155 => (if t155 = t152 then ((vec_Cross.f k (bt148.1 / 256) (bt148.2 / 256) (bt146.1 / 256) (bt146.2 / 256)).bind fun t156 => (if t156 = (wrap64 (-t153)) then ((vec_Cross.f k (bt146.1 / 256) (bt146.2 / 256) (bt146.1 / 256) (bt146.2 / 256)).bind fun t157 => (if t157 = 0 then ((vec_Dot.f k (bt148.1 / 256) (bt148.2 / 256) (bt148.1 / 256) (bt148.2 / 256)).bind fun t158 => ((vec_Dot.f k (bt146.1 / 256) (bt146.2 / 256) (bt146.1 / 256) (bt146.2 / 256)).bind fun t159 => ((vec_Dot.f k (bt148.1 / 256) (bt148.2 / 256) (bt148.1 / 256) (bt148.2 / 256)).bind fun t160 => ((tourkeep1_near.f (wrap64 (Int.tdiv (wrap64 ((wrap64 (t152 * t152)) + (wrap64 (t153 * t153)))) 65536)) (wrap64 (Int.tdiv (wrap64 (t154 * t158)) 65536)) (wrap64 ((wrap64 ((wrap64 ((wrap64 (Int.tdiv (wrap64 ((wrap64 ((wrap64 (2 * (mx t152 (wrap64 (-t152))))) + (wrap64 (2 * (mx t153 (wrap64 (-t153))))))) + 2)) 65536)) + (wrap64 (Int.tdiv t159 65536)))) + (wrap64 (Int.tdiv t160 65536)))) + 5))).bind fun t161 => (some t161))))) else (none))) else (none))) else (none)))))))) else (none)) = some r := H
 have A5 := Aside0.mk A50
 clear A50
 by_cases c6 : t145 = true
 ·
  subst c6
  have H1 : ((tourkeep1_small.f a0 a1).bind fun bt146 => ((tourkeep1_small.f a2 a3).bind fun bt148 => ((vec_Dot.f k (bt146.1 / 256) (bt146.2 / 256) (bt148.1 / 256) (bt148.2 / 256)).bind fun t152 => ((vec_Cross.f k (bt146.1 / 256) (bt146.2 / 256) (bt148.1 / 256) (bt148.2 / 256)).bind fun t153 => ((vec_Dot.f k (bt146.1 / 256) (bt146.2 / 256) (bt146.1 / 256) (bt146.2 / 256)).bind fun t154 => ((vec_Dot.f k (bt148.1 / 256) (bt148.2 / 256) (bt146.1 / 256) (bt146.2 / 256)).bind fun t155 => (if t155 = t152 then ((vec_Cross.f k (bt148.1 / 256) (bt148.2 / 256) (bt146.1 / 256) (bt146.2 / 256)).bind fun t156 => (if t156 = (wrap64 (-t153)) then ((vec_Cross.f k (bt146.1 / 256) (bt146.2 / 256) (bt146.1 / 256) (bt146.2 / 256)).bind fun t157 => (if t157 = 0 then ((vec_Dot.f k (bt148.1 / 256) (bt148.2 / 256) (bt148.1 / 256) (bt148.2 / 256)).bind fun t158 => ((vec_Dot.f k (bt146.1 / 256) (bt146.2 / 256) (bt146.1 / 256) (bt146.2 / 256)).bind fun t159 => ((vec_Dot.f k (bt148.1 / 256) (bt148.2 / 256) (bt148.1 / 256) (bt148.2 / 256)).bind fun t160 => ((tourkeep1_near.f (wrap64 (Int.tdiv (wrap64 ((wrap64 (t152 * t152)) + (wrap64 (t153 * t153)))) 65536)) (wrap64 (Int.tdiv (wrap64 (t154 * t158)) 65536)) (wrap64 ((wrap64 ((wrap64 ((wrap64 (Int.tdiv (wrap64 ((wrap64 ((wrap64 (2 * (mx t152 (wrap64 (-t152))))) + (wrap64 (2 * (mx t153 (wrap64 (-t153))))))) + 2)) 65536)) + (wrap64 (Int.tdiv t159 65536)))) + (wrap64 (Int.tdiv t160 65536)))) + 5))).bind fun t161 => (some t161))))) else (none))) else (none))) else (none)))))))) = some r := by rw [if_pos rfl] at H; exact H
  clear H
  have H := H1
  clear H1
  replace H := Option.bind_eq_some_iff.mp H
  obtain ⟨⟨t146, t147⟩, A70, H⟩ := H
  replace H : ((tourkeep1_small.f a2 a3).bind fun bt148 => ((vec_Dot.f k (t146 / 256) (t147 / 256) (bt148.1 / 256) (bt148.2 / 256)).bind fun t152 => ((vec_Cross.f k (t146 / 256) (t147 / 256) (bt148.1 / 256) (bt148.2 / 256)).bind fun t153 => ((vec_Dot.f k (t146 / 256) (t147 / 256) (t146 / 256) (t147 / 256)).bind fun t154 => ((vec_Dot.f k (bt148.1 / 256) (bt148.2 / 256) (t146 / 256) (t147 / 256)).bind fun t155 => (if t155 = t152 then ((vec_Cross.f k (bt148.1 / 256) (bt148.2 / 256) (t146 / 256) (t147 / 256)).bind fun t156 => (if t156 = (wrap64 (-t153)) then ((vec_Cross.f k (t146 / 256) (t147 / 256) (t146 / 256) (t147 / 256)).bind fun t157 => (if t157 = 0 then ((vec_Dot.f k (bt148.1 / 256) (bt148.2 / 256) (bt148.1 / 256) (bt148.2 / 256)).bind fun t158 => ((vec_Dot.f k (t146 / 256) (t147 / 256) (t146 / 256) (t147 / 256)).bind fun t159 => ((vec_Dot.f k (bt148.1 / 256) (bt148.2 / 256) (bt148.1 / 256) (bt148.2 / 256)).bind fun t160 => ((tourkeep1_near.f (wrap64 (Int.tdiv (wrap64 ((wrap64 (t152 * t152)) + (wrap64 (t153 * t153)))) 65536)) (wrap64 (Int.tdiv (wrap64 (t154 * t158)) 65536)) (wrap64 ((wrap64 ((wrap64 ((wrap64 (Int.tdiv (wrap64 ((wrap64 ((wrap64 (2 * (mx t152 (wrap64 (-t152))))) + (wrap64 (2 * (mx t153 (wrap64 (-t153))))))) + 2)) 65536)) + (wrap64 (Int.tdiv t159 65536)))) + (wrap64 (Int.tdiv t160 65536)))) + 5))).bind fun t161 => (some t161))))) else (none))) else (none))) else (none))))))) = some r := H
  have A7 := Aside0.mk A70
  clear A70
  replace H := Option.bind_eq_some_iff.mp H
  obtain ⟨⟨t148, t149⟩, A80, H⟩ := H
  replace H : ((vec_Dot.f k (t146 / 256) (t147 / 256) (t148 / 256) (t149 / 256)).bind fun t152 => ((vec_Cross.f k (t146 / 256) (t147 / 256) (t148 / 256) (t149 / 256)).bind fun t153 => ((vec_Dot.f k (t146 / 256) (t147 / 256) (t146 / 256) (t147 / 256)).bind fun t154 => ((vec_Dot.f k (t148 / 256) (t149 / 256) (t146 / 256) (t147 / 256)).bind fun t155 => (if t155 = t152 then ((vec_Cross.f k (t148 / 256) (t149 / 256) (t146 / 256) (t147 / 256)).bind fun t156 => (if t156 = (wrap64 (-t153)) then ((vec_Cross.f k (t146 / 256) (t147 / 256) (t146 / 256) (t147 / 256)).bind fun t157 => (if t157 = 0 then ((vec_Dot.f k (t148 / 256) (t149 / 256) (t148 / 256) (t149 / 256)).bind fun t158 => ((vec_Dot.f k (t146 / 256) (t147 / 256) (t146 / 256) (t147 / 256)).bind fun t159 => ((vec_Dot.f k (t148 / 256) (t149 / 256) (t148 / 256) (t149 / 256)).bind fun t160 => ((tourkeep1_near.f (wrap64 (Int.tdiv (wrap64 ((wrap64 (t152 * t152)) + (wrap64 (t153 * t153)))) 65536)) (wrap64 (Int.tdiv (wrap64 (t154 * t158)) 65536)) (wrap64 ((wrap64 ((wrap64 ((wrap64 (Int.tdiv (wrap64 ((wrap64 ((wrap64 (2 * (mx t152 (wrap64 (-t152))))) + (wrap64 (2 * (mx t153 (wrap64 (-t153))))))) + 2)) 65536)) + (wrap64 (Int.tdiv t159 65536)))) + (wrap64 (Int.tdiv t160 65536)))) + 5))).bind fun t161 => (some t161))))) else (none))) else (none))) else (none)))))) = some r := H
  have A8 := Aside0.mk A80
  clear A80
  replace H := Option.bind_eq_some_iff.mp H
  obtain ⟨t152, A90, H⟩ := H
  replace H : ((vec_Cross.f k (t146 / 256) (t147 / 256) (t148 / 256) (t149 / 256)).bind fun t153 => ((vec_Dot.f k (t146 / 256) (t147 / 256) (t146 / 256) (t147 / 256)).bind fun t154 => ((vec_Dot.f k (t148 / 256) (t149 / 256) (t146 / 256) (t147 / 256)).bind fun t155 => (if t155 = t152 then ((vec_Cross.f k (t148 / 256) (t149 / 256) (t146 / 256) (t147 / 256)).bind fun t156 => (if t156 = (wrap64 (-t153)) then ((vec_Cross.f k (t146 / 256) (t147 / 256) (t146 / 256) (t147 / 256)).bind fun t157 => (if t157 = 0 then ((vec_Dot.f k (t148 / 256) (t149 / 256) (t148 / 256) (t149 / 256)).bind fun t158 => ((vec_Dot.f k (t146 / 256) (t147 / 256) (t146 / 256) (t147 / 256)).bind fun t159 => ((vec_Dot.f k (t148 / 256) (t149 / 256) (t148 / 256) (t149 / 256)).bind fun t160 => ((tourkeep1_near.f (wrap64 (Int.tdiv (wrap64 ((wrap64 (t152 * t152)) + (wrap64 (t153 * t153)))) 65536)) (wrap64 (Int.tdiv (wrap64 (t154 * t158)) 65536)) (wrap64 ((wrap64 ((wrap64 ((wrap64 (Int.tdiv (wrap64 ((wrap64 ((wrap64 (2 * (mx t152 (wrap64 (-t152))))) + (wrap64 (2 * (mx t153 (wrap64 (-t153))))))) + 2)) 65536)) + (wrap64 (Int.tdiv t159 65536)))) + (wrap64 (Int.tdiv t160 65536)))) + 5))).bind fun t161 => (some t161))))) else (none))) else (none))) else (none))))) = some r := H
  have A9 := Aside0.mk A90
  clear A90
  replace H := Option.bind_eq_some_iff.mp H
  obtain ⟨t153, A100, H⟩ := H
  replace H : ((vec_Dot.f k (t146 / 256) (t147 / 256) (t146 / 256) (t147 / 256)).bind fun t154 => ((vec_Dot.f k (t148 / 256) (t149 / 256) (t146 / 256) (t147 / 256)).bind fun t155 => (if t155 = t152 then ((vec_Cross.f k (t148 / 256) (t149 / 256) (t146 / 256) (t147 / 256)).bind fun t156 => (if t156 = (wrap64 (-t153)) then ((vec_Cross.f k (t146 / 256) (t147 / 256) (t146 / 256) (t147 / 256)).bind fun t157 => (if t157 = 0 then ((vec_Dot.f k (t148 / 256) (t149 / 256) (t148 / 256) (t149 / 256)).bind fun t158 => ((vec_Dot.f k (t146 / 256) (t147 / 256) (t146 / 256) (t147 / 256)).bind fun t159 => ((vec_Dot.f k (t148 / 256) (t149 / 256) (t148 / 256) (t149 / 256)).bind fun t160 => ((tourkeep1_near.f (wrap64 (Int.tdiv (wrap64 ((wrap64 (t152 * t152)) + (wrap64 (t153 * t153)))) 65536)) (wrap64 (Int.tdiv (wrap64 (t154 * t158)) 65536)) (wrap64 ((wrap64 ((wrap64 ((wrap64 (Int.tdiv (wrap64 ((wrap64 ((wrap64 (2 * (mx t152 (wrap64 (-t152))))) + (wrap64 (2 * (mx t153 (wrap64 (-t153))))))) + 2)) 65536)) + (wrap64 (Int.tdiv t159 65536)))) + (wrap64 (Int.tdiv t160 65536)))) + 5))).bind fun t161 => (some t161))))) else (none))) else (none))) else (none)))) = some r := H
  have A10 := Aside0.mk A100
  clear A100
  obtain ⟨ji11, hji11⟩ : ∃ j_ : Int, (mx t152 (wrap64 (-t152))) = j_ := ⟨_, rfl⟩
  replace H : ((vec_Dot.f k (t146 / 256) (t147 / 256) (t146 / 256) (t147 / 256)).bind fun t154 => ((vec_Dot.f k (t148 / 256) (t149 / 256) (t146 / 256) (t147 / 256)).bind fun t155 => (if t155 = t152 then ((vec_Cross.f k (t148 / 256) (t149 / 256) (t146 / 256) (t147 / 256)).bind fun t156 => (if t156 = (wrap64 (-t153)) then ((vec_Cross.f k (t146 / 256) (t147 / 256) (t146 / 256) (t147 / 256)).bind fun t157 => (if t157 = 0 then ((vec_Dot.f k (t148 / 256) (t149 / 256) (t148 / 256) (t149 / 256)).bind fun t158 => ((vec_Dot.f k (t146 / 256) (t147 / 256) (t146 / 256) (t147 / 256)).bind fun t159 => ((vec_Dot.f k (t148 / 256) (t149 / 256) (t148 / 256) (t149 / 256)).bind fun t160 => ((tourkeep1_near.f (wrap64 (Int.tdiv (wrap64 ((wrap64 (t152 * t152)) + (wrap64 (t153 * t153)))) 65536)) (wrap64 (Int.tdiv (wrap64 (t154 * t158)) 65536)) (wrap64 ((wrap64 ((wrap64 ((wrap64 (Int.tdiv (wrap64 ((wrap64 ((wrap64 (2 * (ji11))) + (wrap64 (2 * (mx t153 (wrap64 (-t153))))))) + 2)) 65536)) + (wrap64 (Int.tdiv t159 65536)))) + (wrap64 (Int.tdiv t160 65536)))) + 5))).bind fun t161 => (some t161))))) else (none))) else (none))) else (none)))) = some r := by first | (rw [hji11] at H; exact H) | (simp only [hji11] at H ⊢; exact H)
  (try rw [hji11] at A5)
  (try rw [hji11] at A7)
  (try rw [hji11] at A8)
  (try rw [hji11] at A9)
  (try rw [hji11] at A10)
  have hji11_ : (if t152 < (wrap64 (-t152)) then (wrap64 (-t152)) else t152) = ji11 := hji11
  obtain ⟨ji12, hji12⟩ : ∃ j_ : Int, (mx t153 (wrap64 (-t153))) = j_ := ⟨_, rfl⟩
  replace H : ((vec_Dot.f k (t146 / 256) (t147 / 256) (t146 / 256) (t147 / 256)).bind fun t154 => ((vec_Dot.f k (t148 / 256) (t149 / 256) (t146 / 256) (t147 / 256)).bind fun t155 => (if t155 = t152 then ((vec_Cross.f k (t148 / 256) (t149 / 256) (t146 / 256) (t147 / 256)).bind fun t156 => (if t156 = (wrap64 (-t153)) then ((vec_Cross.f k (t146 / 256) (t147 / 256) (t146 / 256) (t147 / 256)).bind fun t157 => (if t157 = 0 then ((vec_Dot.f k (t148 / 256) (t149 / 256) (t148 / 256) (t149 / 256)).bind fun t158 => ((vec_Dot.f k (t146 / 256) (t147 / 256) (t146 / 256) (t147 / 256)).bind fun t159 => ((vec_Dot.f k (t148 / 256) (t149 / 256) (t148 / 256) (t149 / 256)).bind fun t160 => ((tourkeep1_near.f (wrap64 (Int.tdiv (wrap64 ((wrap64 (t152 * t152)) + (wrap64 (t153 * t153)))) 65536)) (wrap64 (Int.tdiv (wrap64 (t154 * t158)) 65536)) (wrap64 ((wrap64 ((wrap64 ((wrap64 (Int.tdiv (wrap64 ((wrap64 ((wrap64 (2 * (ji11))) + (wrap64 (2 * (ji12))))) + 2)) 65536)) + (wrap64 (Int.tdiv t159 65536)))) + (wrap64 (Int.tdiv t160 65536)))) + 5))).bind fun t161 => (some t161))))) else (none))) else (none))) else (none)))) = some r := by first | (rw [hji12] at H; exact H) | (simp only [hji12] at H ⊢; exact H)
  (try rw [hji12] at A5)
  (try rw [hji12] at A7)
  (try rw [hji12] at A8)
  (try rw [hji12] at A9)
  (try rw [hji12] at A10)
  have hji12_ : (if t153 < (wrap64 (-t153)) then (wrap64 (-t153)) else t153) = ji12 := hji12
  replace H := Option.bind_eq_some_iff.mp H
  obtain ⟨t154, A130, H⟩ := H
  replace H : ((vec_Dot.f k (t148 / 256) (t149 / 256) (t146 / 256) (t147 / 256)).bind fun t155 => (if t155 = t152 then ((vec_Cross.f k (t148 / 256) (t149 / 256) (t146 / 256) (t147 / 256)).bind fun t156 => (if t156 = (wrap64 (-t153)) then ((vec_Cross.f k (t146 / 256) (t147 / 256) (t146 / 256) (t147 / 256)).bind fun t157 => (if t157 = 0 then ((vec_Dot.f k (t148 / 256) (t149 / 256) (t148 / 256) (t149 / 256)).bind fun t158 => ((vec_Dot.f k (t146 / 256) (t147 / 256) (t146 / 256) (t147 / 256)).bind fun t159 => ((vec_Dot.f k (t148 / 256) (t149 / 256) (t148 / 256) (t149 / 256)).bind fun t160 => ((tourkeep1_near.f (wrap64 (Int.tdiv (wrap64 ((wrap64 (t152 * t152)) + (wrap64 (t153 * t153)))) 65536)) (wrap64 (Int.tdiv (wrap64 (t154 * t158)) 65536)) (wrap64 ((wrap64 ((wrap64 ((wrap64 (Int.tdiv (wrap64 ((wrap64 ((wrap64 (2 * (ji11))) + (wrap64 (2 * (ji12))))) + 2)) 65536)) + (wrap64 (Int.tdiv t159 65536)))) + (wrap64 (Int.tdiv t160 65536)))) + 5))).bind fun t161 => (some t161))))) else (none))) else (none))) else (none))) = some r := H
  have A13 := Aside0.mk A130
  clear A130
  replace H := Option.bind_eq_some_iff.mp H
  obtain ⟨t155, A140, H⟩ := H
  replace H : (if t155 = t152 then ((vec_Cross.f k (t148 / 256) (t149 / 256) (t146 / 256) (t147 / 256)).bind fun t156 => (if t156 = (wrap64 (-t153)) then ((vec_Cross.f k (t146 / 256) (t147 / 256) (t146 / 256) (t147 / 256)).bind fun t157 => (if t157 = 0 then ((vec_Dot.f k (t148 / 256) (t149 / 256) (t148 / 256) (t149 / 256)).bind fun t158 => ((vec_Dot.f k (t146 / 256) (t147 / 256) (t146 / 256) (t147 / 256)).bind fun t159 => ((vec_Dot.f k (t148 / 256) (t149 / 256) (t148 / 256) (t149 / 256)).bind fun t160 => ((tourkeep1_near.f (wrap64 (Int.tdiv (wrap64 ((wrap64 (t152 * t152)) + (wrap64 (t153 * t153)))) 65536)) (wrap64 (Int.tdiv (wrap64 (t154 * t158)) 65536)) (wrap64 ((wrap64 ((wrap64 ((wrap64 (Int.tdiv (wrap64 ((wrap64 ((wrap64 (2 * (ji11))) + (wrap64 (2 * (ji12))))) + 2)) 65536)) + (wrap64 (Int.tdiv t159 65536)))) + (wrap64 (Int.tdiv t160 65536)))) + 5))).bind fun t161 => (some t161))))) else (none))) else (none))) else (none)) = some r := H
  have A14 := Aside0.mk A140
  clear A140
  by_cases c15 : t155 = t152
  ·
   rw [if_pos c15] at H
   have c15b0 : (t155 == t152) = true := beq_iff_eq.mpr c15
   have c15b1 : (t155 != t152) = false := bne_eq_false_iff_eq.mpr c15
   clear c15
   replace H := Option.bind_eq_some_iff.mp H
   obtain ⟨t156, A160, H⟩ := H
   replace H : (if t156 = (wrap64 (-t153)) then ((vec_Cross.f k (t146 / 256) (t147 / 256) (t146 / 256) (t147 / 256)).bind fun t157 => (if t157 = 0 then ((vec_Dot.f k (t148 / 256) (t149 / 256) (t148 / 256) (t149 / 256)).bind fun t158 => ((vec_Dot.f k (t146 / 256) (t147 / 256) (t146 / 256) (t147 / 256)).bind fun t159 => ((vec_Dot.f k (t148 / 256) (t149 / 256) (t148 / 256) (t149 / 256)).bind fun t160 => ((tourkeep1_near.f (wrap64 (Int.tdiv (wrap64 ((wrap64 (t152 * t152)) + (wrap64 (t153 * t153)))) 65536)) (wrap64 (Int.tdiv (wrap64 (t154 * t158)) 65536)) (wrap64 ((wrap64 ((wrap64 ((wrap64 (Int.tdiv (wrap64 ((wrap64 ((wrap64 (2 * (ji11))) + (wrap64 (2 * (ji12))))) + 2)) 65536)) + (wrap64 (Int.tdiv t159 65536)))) + (wrap64 (Int.tdiv t160 65536)))) + 5))).bind fun t161 => (some t161))))) else (none))) else (none)) = some r := H
   have A16 := Aside0.mk A160
   clear A160
   by_cases c17 : t156 = (wrap64 (-t153))
   ·
    rw [if_pos c17] at H
    have c17b0 : (t156 == (wrap64 (-t153))) = true := beq_iff_eq.mpr c17
    have c17b1 : (t156 != (wrap64 (-t153))) = false := bne_eq_false_iff_eq.mpr c17
    clear c17
    replace H := Option.bind_eq_some_iff.mp H
    obtain ⟨t157, A180, H⟩ := H
    replace H : (if t157 = 0 then ((vec_Dot.f k (t148 / 256) (t149 / 256) (t148 / 256) (t149 / 256)).bind fun t158 => ((vec_Dot.f k (t146 / 256) (t147 / 256) (t146 / 256) (t147 / 256)).bind fun t159 => ((vec_Dot.f k (t148 / 256) (t149 / 256) (t148 / 256) (t149 / 256)).bind fun t160 => ((tourkeep1_near.f (wrap64 (Int.tdiv (wrap64 ((wrap64 (t152 * t152)) + (wrap64 (t153 * t153)))) 65536)) (wrap64 (Int.tdiv (wrap64 (t154 * t158)) 65536)) (wrap64 ((wrap64 ((wrap64 ((wrap64 (Int.tdiv (wrap64 ((wrap64 ((wrap64 (2 * (ji11))) + (wrap64 (2 * (ji12))))) + 2)) 65536)) + (wrap64 (Int.tdiv t159 65536)))) + (wrap64 (Int.tdiv t160 65536)))) + 5))).bind fun t161 => (some t161))))) else (none)) = some r := H
    have A18 := Aside0.mk A180
    clear A180
    by_cases c19 : t157 = 0
    ·
     rw [if_pos c19] at H
     have c19b0 : (t157 == 0) = true := beq_iff_eq.mpr c19
     have c19b1 : (t157 != 0) = false := bne_eq_false_iff_eq.mpr c19
     clear c19
     replace H := Option.bind_eq_some_iff.mp H
     obtain ⟨t158, A200, H⟩ := H
     replace H : ((vec_Dot.f k (t146 / 256) (t147 / 256) (t146 / 256) (t147 / 256)).bind fun t159 => ((vec_Dot.f k (t148 / 256) (t149 / 256) (t148 / 256) (t149 / 256)).bind fun t160 => ((tourkeep1_near.f (wrap64 (Int.tdiv (wrap64 ((wrap64 (t152 * t152)) + (wrap64 (t153 * t153)))) 65536)) (wrap64 (Int.tdiv (wrap64 (t154 * t158)) 65536)) (wrap64 ((wrap64 ((wrap64 ((wrap64 (Int.tdiv (wrap64 ((wrap64 ((wrap64 (2 * (ji11))) + (wrap64 (2 * (ji12))))) + 2)) 65536)) + (wrap64 (Int.tdiv t159 65536)))) + (wrap64 (Int.tdiv t160 65536)))) + 5))).bind fun t161 => (some t161)))) = some r := H
     have A20 := Aside0.mk A200
     clear A200
     replace H := Option.bind_eq_some_iff.mp H
     obtain ⟨t159, A210, H⟩ := H
     replace H : ((vec_Dot.f k (t148 / 256) (t149 / 256) (t148 / 256) (t149 / 256)).bind fun t160 => ((tourkeep1_near.f (wrap64 (Int.tdiv (wrap64 ((wrap64 (t152 * t152)) + (wrap64 (t153 * t153)))) 65536)) (wrap64 (Int.tdiv (wrap64 (t154 * t158)) 65536)) (wrap64 ((wrap64 ((wrap64 ((wrap64 (Int.tdiv (wrap64 ((wrap64 ((wrap64 (2 * (ji11))) + (wrap64 (2 * (ji12))))) + 2)) 65536)) + (wrap64 (Int.tdiv t159 65536)))) + (wrap64 (Int.tdiv t160 65536)))) + 5))).bind fun t161 => (some t161))) = some r := H
     have A21 := Aside0.mk A210
     clear A210
     replace H := Option.bind_eq_some_iff.mp H
     obtain ⟨t160, A220, H⟩ := H
     replace H : ((tourkeep1_near.f (wrap64 (Int.tdiv (wrap64 ((wrap64 (t152 * t152)) + (wrap64 (t153 * t153)))) 65536)) (wrap64 (Int.tdiv (wrap64 (t154 * t158)) 65536)) (wrap64 ((wrap64 ((wrap64 ((wrap64 (Int.tdiv (wrap64 ((wrap64 ((wrap64 (2 * (ji11))) + (wrap64 (2 * (ji12))))) + 2)) 65536)) + (wrap64 (Int.tdiv t159 65536)))) + (wrap64 (Int.tdiv t160 65536)))) + 5))).bind fun t161 => (some t161)) = some r := H
     have A22 := Aside0.mk A220
     clear A220
     replace H := Option.bind_eq_some_iff.mp H
     obtain ⟨t161, A230, H⟩ := H
     replace H : (some t161) = some r := H
     have A23 := Aside0.mk A230
     clear A230
     obtain rfl := Option.some.inj H
     go_enter Try.func5, Try.ntmps5
     try go_wp2_with (first | ((with_reducible refine gate_callee (f := 12) rfl ?_); refine goesL_ (some 16) rfl rfl Try.func12 (by kernel_rfl) rfl #[] rfl (by (try simp only [List.map_toArray, List.map_cons, List.map_nil]); first | done | rfl | (simp only [List.length_drop, List.length_take]; rfl)) ?_; (with_reducible refine (tourkeep1_vecBegun.calls k  true _ A5.out).mono ?_); rintro e w24 ⟨rfl, hb⟩; refine ⟨_, rfl, ?_⟩; have n0_ := Aside0.mk (below_step (by repeat (first | (with_reducible first | exact HB.out | apply below_alloc | apply pw_below_drewN | apply below_drew1) | exact HB.out)) hb); clear HB; have HB := n0_; clear n0_; (try clear hb); (try clear hb2); (try clear hk); (try clear hi)) | ((with_reducible refine gate_callee (f := 13) rfl ?_); refine goesL_ (some 20) rfl rfl Try.func13 (by kernel_rfl) rfl #[.int .i64 a0, .int .i64 a1] rfl (by (try simp only [List.map_toArray, List.map_cons, List.map_nil]); first | done | rfl | (simp only [List.length_drop, List.length_take]; rfl)) ?_; (with_reducible refine (tourkeep1_small.calls a0 a1 t146 t147 _ A7.out).mono ?_); rintro e w25 ⟨rfl, hb⟩; refine ⟨_, rfl, ?_⟩; have n0_ := Aside0.mk (below_step (by repeat (first | (with_reducible first | exact HB.out | apply below_alloc | apply pw_below_drewN | apply below_drew1) | exact HB.out)) hb); clear HB; have HB := n0_; clear n0_; (try clear hb); (try clear hb2); (try clear hk); (try clear hi)) | ((with_reducible refine gate_callee (f := 13) rfl ?_); refine goesL_ (some 23) rfl rfl Try.func13 (by kernel_rfl) rfl #[.int .i64 a2, .int .i64 a3] rfl (by (try simp only [List.map_toArray, List.map_cons, List.map_nil]); first | done | rfl | (simp only [List.length_drop, List.length_take]; rfl)) ?_; (with_reducible refine (tourkeep1_small.calls a2 a3 t148 t149 _ A8.out).mono ?_); rintro e w26 ⟨rfl, hb⟩; refine ⟨_, rfl, ?_⟩; have n0_ := Aside0.mk (below_step (by repeat (first | (with_reducible first | exact HB.out | apply below_alloc | apply pw_below_drewN | apply below_drew1) | exact HB.out)) hb); clear HB; have HB := n0_; clear n0_; (try clear hb); (try clear hb2); (try clear hk); (try clear hi)) | ((with_reducible refine gate_dst (N := 9) rfl ?_); refine box_event ?hg (N := 9) ?hd (cs := #[.int .i64 0, .int .i64 0]) (t := 24) ?hr ?_; (case hd => rfl); (case hg => rfl); (case hr => first | (go_simp; done) | (go_simp; rfl)); intro gb150 hg w27 hbox hb; have n0_ := Aside0.mk (below_step (by repeat (first | (with_reducible first | exact HB.out | apply below_alloc | apply pw_below_drewN | apply below_drew1) | exact HB.out)) hb); have n1_ := Aside0.mk (hbox); have n2_ := Aside0.mk ((by rw [hg]; exact (below_size (by repeat (first | (with_reducible first | exact HB.out | apply below_alloc | apply pw_below_drewN | apply below_drew1) | exact HB.out))) : w.heap.size ≤ gb150)); have n3_ := Aside0.mk ((by rw [hg]; exact (below_size (by repeat (first | (with_reducible first | exact HB.out | apply below_alloc | apply pw_below_drewN | apply below_drew1) | exact HB.out))) : w.heap.size ≤ gb150)); clear HB; have HB := n0_; have BK150 := n1_; have GW150 := n2_; have GE150 := n3_; clear n0_ n1_ n2_ n3_; clear hb hbox hg) | ((with_reducible refine gate_dst (N := 10) rfl ?_); refine box_event ?hg (N := 10) ?hd (cs := #[.int .i64 0, .int .i64 0]) (t := 24) ?hr ?_; (case hd => rfl); (case hg => rfl); (case hr => first | (go_simp; done) | (go_simp; rfl)); intro gb151 hg w28 hbox hb; have n0_ := Aside0.mk (blk_below (g := gb150) (o := .cells #[.int .i64 0, .int .i64 0] 24 (0, 0)) (by (with_reducible repeat (first | refine blk_drewN ?_ _ | refine blk_drew ?_ | refine blk_alloc ?_ _)); exact BK150.out) hb); have n1_ := Aside0.mk (below_step (by repeat (first | (with_reducible first | exact HB.out | apply below_alloc | apply pw_below_drewN | apply below_drew1 | refine below_set ?_ GE150.out) | exact HB.out)) hb); have n2_ := Aside0.mk (hbox); have n3_ := Aside0.mk ((by rw [hg]; exact (below_size (by repeat (first | (with_reducible first | exact HB.out | apply below_alloc | apply pw_below_drewN | apply below_drew1 | refine below_set ?_ GE150.out) | exact HB.out))) : w.heap.size ≤ gb151)); have n4_ := Aside0.mk ((by rw [hg]; exact (below_size (by repeat (first | (with_reducible first | exact HB.out | apply below_alloc | apply pw_below_drewN | apply below_drew1 | refine below_set ?_ GE150.out) | exact HB.out))) : w.heap.size ≤ gb151)); have n5_ := Aside0.mk ((by rw [hg]; exact Nat.ne_of_lt (blk_lt (g := gb150) (o := .cells #[.int .i64 0, .int .i64 0] 24 (0, 0)) (by (with_reducible repeat (first | refine blk_drewN ?_ _ | refine blk_drew ?_ | refine blk_alloc ?_ _)); exact BK150.out)) : gb150 ≠ gb151)); have n6_ := Aside0.mk ((by rw [hg]; exact Nat.ne_of_gt (blk_lt (g := gb150) (o := .cells #[.int .i64 0, .int .i64 0] 24 (0, 0)) (by (with_reducible repeat (first | refine blk_drewN ?_ _ | refine blk_drew ?_ | refine blk_alloc ?_ _)); exact BK150.out)) : gb151 ≠ gb150)); clear BK150; clear HB; have BK150 := n0_; have HB := n1_; have BK151 := n2_; have GW151 := n3_; have GE151 := n4_; have NB150_151 := n5_; have NB151_150 := n6_; clear n0_ n1_ n2_ n3_ n4_ n5_ n6_; clear hb hbox hg; have hnb29 := NB150_151.out; have hnc29 := NB151_150.out; have hcz30_0 : w28.cell? ⟨gb150, 0, none⟩ = some (.int .i64 0) := (blk_cell BK150.out 0).trans rfl; have hcz30_1 : w28.cell? ⟨gb150, 1, none⟩ = some (.int .i64 0) := (blk_cell BK150.out 1).trans rfl; have hfz30_0 := blk_frozen BK150.out 0; have hfz30_1 := blk_frozen BK150.out 1; have hcz31_0 : w28.cell? ⟨gb151, 0, none⟩ = some (.int .i64 0) := (blk_cell BK151.out 0).trans rfl; have hcz31_1 : w28.cell? ⟨gb151, 1, none⟩ = some (.int .i64 0) := (blk_cell BK151.out 1).trans rfl; have hfz31_0 := blk_frozen BK151.out 0; have hfz31_1 := blk_frozen BK151.out 1))
     have n0_ : Aside0 (((((w28.setCell ⟨gb150, 0, none⟩ (.int .i64 t146)).setCell ⟨gb150, 1, none⟩ (.int .i64 t147)).setCell ⟨gb151, 0, none⟩ (.int .i64 t148)).setCell ⟨gb151, 1, none⟩ (.int .i64 t149)).heap[gb150]? = some (.cells #[.int .i64 t146, .int .i64 t147] 24 (0, 0))) := ⟨by (with_reducible repeat (first | refine blk_drewN ?_ _ | refine blk_drew ?_ | refine blk_alloc ?_ _)); refine blk_far ?_ NB150_151.out _; (with_reducible repeat (first | refine blk_drewN ?_ _ | refine blk_drew ?_ | refine blk_alloc ?_ _)); refine blk_far ?_ NB150_151.out _; (with_reducible repeat (first | refine blk_drewN ?_ _ | refine blk_drew ?_ | refine blk_alloc ?_ _)); refine blk_put (cs := #[.int .i64 t146, .int .i64 0]) ?_ 1 _ rfl; (with_reducible repeat (first | refine blk_drewN ?_ _ | refine blk_drew ?_ | refine blk_alloc ?_ _)); refine blk_put (cs := #[.int .i64 0, .int .i64 0]) ?_ 0 _ rfl; (with_reducible repeat (first | refine blk_drewN ?_ _ | refine blk_drew ?_ | refine blk_alloc ?_ _)); exact BK150.out⟩
     have n1_ : Aside0 (((((w28.setCell ⟨gb150, 0, none⟩ (.int .i64 t146)).setCell ⟨gb150, 1, none⟩ (.int .i64 t147)).setCell ⟨gb151, 0, none⟩ (.int .i64 t148)).setCell ⟨gb151, 1, none⟩ (.int .i64 t149)).heap[gb151]? = some (.cells #[.int .i64 t148, .int .i64 t149] 24 (0, 0))) := ⟨by (with_reducible repeat (first | refine blk_drewN ?_ _ | refine blk_drew ?_ | refine blk_alloc ?_ _)); refine blk_put (cs := #[.int .i64 t148, .int .i64 0]) ?_ 1 _ rfl; (with_reducible repeat (first | refine blk_drewN ?_ _ | refine blk_drew ?_ | refine blk_alloc ?_ _)); refine blk_put (cs := #[.int .i64 0, .int .i64 0]) ?_ 0 _ rfl; (with_reducible repeat (first | refine blk_drewN ?_ _ | refine blk_drew ?_ | refine blk_alloc ?_ _)); refine blk_far ?_ NB151_150.out _; (with_reducible repeat (first | refine blk_drewN ?_ _ | refine blk_drew ?_ | refine blk_alloc ?_ _)); refine blk_far ?_ NB151_150.out _; (with_reducible repeat (first | refine blk_drewN ?_ _ | refine blk_drew ?_ | refine blk_alloc ?_ _)); exact BK151.out⟩
     have n2_ : Aside0 (Below w.heap.size w ((((w28.setCell ⟨gb150, 0, none⟩ (.int .i64 t146)).setCell ⟨gb150, 1, none⟩ (.int .i64 t147)).setCell ⟨gb151, 0, none⟩ (.int .i64 t148)).setCell ⟨gb151, 1, none⟩ (.int .i64 t149))) := ⟨by repeat (first | (with_reducible first | exact HB.out | apply below_alloc | apply pw_below_drewN | apply below_drew1 | refine below_set ?_ GE150.out | refine below_set ?_ GE151.out) | exact HB.out)⟩
     (try clear BK150)
     (try clear BK151)
     (try clear HB)
     generalize ((((w28.setCell ⟨gb150, 0, none⟩ (.int .i64 t146)).setCell ⟨gb150, 1, none⟩ (.int .i64 t147)).setCell ⟨gb151, 0, none⟩ (.int .i64 t148)).setCell ⟨gb151, 1, none⟩ (.int .i64 t149)) = w32 at n0_ n1_ n2_ ⊢
     have BK150 := n0_
     have BK151 := n1_
     have HB := n2_
     clear n0_ n1_ n2_
     have n0_ := Aside0.mk (blk_drew BK150.out)
     have n1_ := Aside0.mk (blk_drew BK151.out)
     have n2_ := Aside0.mk (below_drew1 HB.out)
     clear BK150
     clear BK151
     clear HB
     have BK150 := n0_
     have BK151 := n1_
     have HB := n2_
     clear n0_ n1_ n2_
     refine start_ (n := 20) (S := fun w' => w'.cell? ⟨gb151, 0, none⟩ = some (.int .i64 t148) ∧ w'.cell? ⟨gb151, 1, none⟩ = some (.int .i64 t149)) (ds := [17, 19]) #[nq,nq,nq,nq,nq,nq,nq,nq,nq,nq,nq,nq,nq,nq,nq,nq,nq,nq,nq,nq] (by kernel_rfl) rfl rfl ⟨(blk_cell BK151.out 0).trans rfl, (blk_cell BK151.out 1).trans rfl⟩ (fun hHeld => ?_); refine with_tabW tourkeep1_VecProducts.tab4 tourkeep1_VecProducts.bits4 (fun HT_ HW_ => ?_)
     generalize w32.drew = w33 at BK150 BK151 HB hHeld ⊢
     refine pure_ (i := 0) (N := some 24) (v := ?_) (a' := ?_) #[yq,nq,nq,nq,nq,nq,nq,nq,nq,nq,nq,nq,nq,nq,nq,nq,nq,nq,nq,nq] rfl rfl (any_of HT_.out (by kernel_rfl)) (fun _ _ _ h => h) (Or.inl ⟨by rfl, ?_⟩) ?_ ?_
     rotate_left
     ·
      intro w'
      go_simp
      with_reducible rfl
     rotate_left
     ·
      simp only [Act.put, List.setIfInBounds_toArray, List.set_cons_zero, List.set_cons_succ, i64_w, i32_w]
      rfl
     refine pure_ (i := 3) (N := some 27) (v := ?_) (a' := ?_) #[yq,nq,nq,yq,nq,nq,nq,nq,nq,nq,nq,nq,nq,nq,nq,nq,nq,nq,nq,nq] rfl rfl (any_of HT_.out (by kernel_rfl)) (fun _ _ _ h => h) (Or.inl ⟨by rfl, ?_⟩) ?_ ?_
     rotate_left
     ·
      intro w'
      go_simp
      with_reducible rfl
     rotate_left
     ·
      simp only [Act.put, List.setIfInBounds_toArray, List.set_cons_zero, List.set_cons_succ, i64_w, i32_w]
      rfl
     refine pure_ (i := 6) (N := some 30) (v := ?_) (a' := ?_) #[yq,nq,nq,yq,nq,nq,yq,nq,nq,nq,nq,nq,nq,nq,nq,nq,nq,nq,nq,nq] rfl rfl (any_of HT_.out (by kernel_rfl)) (fun _ _ _ h => h) (Or.inl ⟨by rfl, ?_⟩) ?_ ?_
     rotate_left
     ·
      intro w'
      go_simp
      with_reducible rfl
     rotate_left
     ·
      simp only [Act.put, List.setIfInBounds_toArray, List.set_cons_zero, List.set_cons_succ, i64_w, i32_w]
      rfl
     refine pure_ (i := 9) (N := some 33) (v := ?_) (a' := ?_) #[yq,nq,nq,yq,nq,nq,yq,nq,nq,yq,nq,nq,nq,nq,nq,nq,nq,nq,nq,nq] rfl rfl (any_of HT_.out (by kernel_rfl)) (fun _ _ _ h => h) (Or.inl ⟨by rfl, ?_⟩) ?_ ?_
     rotate_left
     ·
      intro w'
      go_simp
      with_reducible rfl
     rotate_left
     ·
      simp only [Act.put, List.setIfInBounds_toArray, List.set_cons_zero, List.set_cons_succ, i64_w, i32_w]
      rfl
     refine take_ (i := 7) (N := some 31) (v := ?_) (a' := ?_) #[yq,nq,nq,yq,nq,nq,yq,yq,nq,yq,nq,nq,nq,nq,nq,nq,nq,nq,nq,nq] rfl rfl (take_ofW HT_.out HW_.out (by kernel_rfl)) (fun _ _ _ h => h) (Or.inl ⟨by rfl, ?_⟩) hHeld ?_ ?_
     rotate_left
     ·
      rintro w' ⟨s0, s1⟩
      go_simp
      with_reducible rfl
     rotate_left
     ·
      simp only [Act.put, List.setIfInBounds_toArray, List.set_cons_zero, List.set_cons_succ, i64_w, i32_w]
      rfl
     refine pure_ (i := 8) (N := some 32) (v := ?_) (a' := ?_) #[yq,nq,nq,yq,nq,nq,yq,yq,yq,yq,nq,nq,nq,nq,nq,nq,nq,nq,nq,nq] rfl rfl (any_of HT_.out (by kernel_rfl)) (fun _ _ _ h => h) (Or.inl ⟨by rfl, ?_⟩) ?_ ?_
     rotate_left
     ·
      intro w'
      go_simp
      with_reducible rfl
     rotate_left
     ·
      simp only [Act.put, List.setIfInBounds_toArray, List.set_cons_zero, List.set_cons_succ, i64_w, i32_w]
      rfl
     refine take_ (i := 10) (N := some 34) (v := ?_) (a' := ?_) #[yq,nq,nq,yq,nq,nq,yq,yq,yq,yq,yq,nq,nq,nq,nq,nq,nq,nq,nq,nq] rfl rfl (take_ofW HT_.out HW_.out (by kernel_rfl)) (fun _ _ _ h => h) (Or.inl ⟨by rfl, ?_⟩) hHeld ?_ ?_
     rotate_left
     ·
      rintro w' ⟨s0, s1⟩
      go_simp
      with_reducible rfl
     rotate_left
     ·
      simp only [Act.put, List.setIfInBounds_toArray, List.set_cons_zero, List.set_cons_succ, i64_w, i32_w]
      rfl
     refine pure_ (i := 11) (N := some 35) (v := ?_) (a' := ?_) #[yq,nq,nq,yq,nq,nq,yq,yq,yq,yq,yq,yq,nq,nq,nq,nq,nq,nq,nq,nq] rfl rfl (any_of HT_.out (by kernel_rfl)) (fun _ _ _ h => h) (Or.inl ⟨by rfl, ?_⟩) ?_ ?_
     rotate_left
     ·
      intro w'
      go_simp
      with_reducible rfl
     rotate_left
     ·
      simp only [Act.put, List.setIfInBounds_toArray, List.set_cons_zero, List.set_cons_succ, i64_w, i32_w]
      rfl
     refine join_ (σ := Unit) 8 #[yq,yq,yq,yq,yq,yq,yq,yq,yq,yq,yq,yq,nq,nq,nq,nq,nq,nq,nq,nq] (fun _ => [(25, .int .i64 t146), (28, .int .i64 t147), (26, .int .i64 (t146 / 256)), (29, .int .i64 (t147 / 256))]) (fun _ w' => w33 = w' ∧ (w'.cell? ⟨gb151, 0, none⟩ = some (.int .i64 t148) ∧ w'.cell? ⟨gb151, 1, none⟩ = some (.int .i64 t149))) ?_ ?_
     rotate_left
     ·
      intro hCont
      refine two_ (i := 1) (j := 4) (Ni := some 25) (Nj := some 28) #[yq,yq,nq,yq,nq,nq,yq,yq,yq,yq,yq,yq,nq,nq,nq,nq,nq,nq,nq,nq] #[yq,nq,nq,yq,yq,nq,yq,yq,yq,yq,yq,yq,nq,nq,nq,nq,nq,nq,nq,nq] rfl rfl rfl rfl (two_of HT_.out (by kernel_rfl)) (by decide) (by decide) (fun K hK => ?_) (fun K hK => ?_)
      ·
       skip
       have hv_ : w33.cell? ⟨gb150, 0, none⟩ = some (.int .i64 t146) := (blk_cell BK150.out 0).trans rfl
       refine value_ (w1 := ?_) (v := ?_) (by rfl) rfl ?_ ?_
       rotate_left 2
       ·
        go_simp
        constructor
        ·
         rfl
        ·
         rfl
       refine hK.out _ _ ⟨hHeld.1, hHeld.2⟩ (fun hHeld => ?_)
       clear hK K
       refine norm_ (a' := ?_) ?_ ?_
       rotate_left
       ·
        show Act.put _ (some 25) _ = _
        simp only [Act.put, List.setIfInBounds_toArray, List.set_cons_zero, List.set_cons_succ, i64_w, i32_w]
        rfl
       refine pure_ (i := 2) (N := some 26) (v := ?_) (a' := ?_) #[yq,yq,yq,yq,nq,nq,yq,yq,yq,yq,yq,yq,nq,nq,nq,nq,nq,nq,nq,nq] rfl rfl (any_of HT_.out (by kernel_rfl)) (fun _ _ _ h => h) (Or.inl ⟨by rfl, ?_⟩) ?_ ?_
       rotate_left
       ·
        intro w'
        go_simp
        with_reducible rfl
       rotate_left
       ·
        simp only [Act.put, List.setIfInBounds_toArray, List.set_cons_zero, List.set_cons_succ, i64_w, i32_w]
        rfl
       refine one_ (i := 4) (N := some 28) #[yq,yq,yq,yq,yq,nq,yq,yq,yq,yq,yq,yq,nq,nq,nq,nq,nq,nq,nq,nq] rfl rfl (one_of HT_.out (by kernel_rfl)) (by decide) (fun K hK => ?_)
       have hv_ : w33.cell? ⟨gb150, 1, none⟩ = some (.int .i64 t147) := (blk_cell BK150.out 1).trans rfl
       refine value_ (w1 := ?_) (v := ?_) (by rfl) rfl ?_ ?_
       rotate_left 2
       ·
        go_simp
        constructor
        ·
         rfl
        ·
         rfl
       refine hK.out _ _ ⟨hHeld.1, hHeld.2⟩ (fun hHeld => ?_)
       clear hK K
       refine norm_ (a' := ?_) ?_ ?_
       rotate_left
       ·
        show Act.put _ (some 28) _ = _
        simp only [Act.put, List.setIfInBounds_toArray, List.set_cons_zero, List.set_cons_succ, i64_w, i32_w]
        rfl
       refine pure_ (i := 5) (N := some 29) (v := ?_) (a' := ?_) #[yq,yq,yq,yq,yq,yq,yq,yq,yq,yq,yq,yq,nq,nq,nq,nq,nq,nq,nq,nq] rfl rfl (any_of HT_.out (by kernel_rfl)) (fun _ _ _ h => h) (Or.inl ⟨by rfl, ?_⟩) ?_ ?_
       rotate_left
       ·
        intro w'
        go_simp
        with_reducible rfl
       rotate_left
       ·
        simp only [Act.put, List.setIfInBounds_toArray, List.set_cons_zero, List.set_cons_succ, i64_w, i32_w]
        rfl
       exact norm_ (by simp only [putAll, Act.put, List.setIfInBounds_toArray, List.set_cons_zero, List.set_cons_succ]) (hCont () _ ⟨rfl, hHeld⟩)
      ·
       skip
       have hv_ : w33.cell? ⟨gb150, 1, none⟩ = some (.int .i64 t147) := (blk_cell BK150.out 1).trans rfl
       refine value_ (w1 := ?_) (v := ?_) (by rfl) rfl ?_ ?_
       rotate_left 2
       ·
        go_simp
        constructor
        ·
         rfl
        ·
         rfl
       refine hK.out _ _ ⟨hHeld.1, hHeld.2⟩ (fun hHeld => ?_)
       clear hK K
       refine norm_ (a' := ?_) ?_ ?_
       rotate_left
       ·
        show Act.put _ (some 28) _ = _
        simp only [Act.put, List.setIfInBounds_toArray, List.set_cons_zero, List.set_cons_succ, i64_w, i32_w]
        rfl
       refine pure_ (i := 5) (N := some 29) (v := ?_) (a' := ?_) #[yq,nq,nq,yq,yq,yq,yq,yq,yq,yq,yq,yq,nq,nq,nq,nq,nq,nq,nq,nq] rfl rfl (any_of HT_.out (by kernel_rfl)) (fun _ _ _ h => h) (Or.inl ⟨by rfl, ?_⟩) ?_ ?_
       rotate_left
       ·
        intro w'
        go_simp
        with_reducible rfl
       rotate_left
       ·
        simp only [Act.put, List.setIfInBounds_toArray, List.set_cons_zero, List.set_cons_succ, i64_w, i32_w]
        rfl
       refine one_ (i := 1) (N := some 25) #[yq,yq,nq,yq,yq,yq,yq,yq,yq,yq,yq,yq,nq,nq,nq,nq,nq,nq,nq,nq] rfl rfl (one_of HT_.out (by kernel_rfl)) (by decide) (fun K hK => ?_)
       have hv_ : w33.cell? ⟨gb150, 0, none⟩ = some (.int .i64 t146) := (blk_cell BK150.out 0).trans rfl
       refine value_ (w1 := ?_) (v := ?_) (by rfl) rfl ?_ ?_
       rotate_left 2
       ·
        go_simp
        constructor
        ·
         rfl
        ·
         rfl
       refine hK.out _ _ ⟨hHeld.1, hHeld.2⟩ (fun hHeld => ?_)
       clear hK K
       refine norm_ (a' := ?_) ?_ ?_
       rotate_left
       ·
        show Act.put _ (some 25) _ = _
        simp only [Act.put, List.setIfInBounds_toArray, List.set_cons_zero, List.set_cons_succ, i64_w, i32_w]
        rfl
       refine pure_ (i := 2) (N := some 26) (v := ?_) (a' := ?_) #[yq,yq,yq,yq,yq,yq,yq,yq,yq,yq,yq,yq,nq,nq,nq,nq,nq,nq,nq,nq] rfl rfl (any_of HT_.out (by kernel_rfl)) (fun _ _ _ h => h) (Or.inl ⟨by rfl, ?_⟩) ?_ ?_
       rotate_left
       ·
        intro w'
        go_simp
        with_reducible rfl
       rotate_left
       ·
        simp only [Act.put, List.setIfInBounds_toArray, List.set_cons_zero, List.set_cons_succ, i64_w, i32_w]
        rfl
       exact norm_ (by simp only [putAll, Act.put, List.setIfInBounds_toArray, List.set_cons_zero, List.set_cons_succ]) (hCont () _ ⟨rfl, hHeld⟩)
     rintro _ w' ⟨rfl, hHeld⟩
     refine norm_ (a' := ?_) ?_ ?_
     rotate_left
     ·
      simp only [putAll, Act.put, List.setIfInBounds_toArray, List.set_cons_zero, List.set_cons_succ]
      rfl
     refine pure_ (i := 12) (N := some 36) (v := ?_) (a' := ?_) #[yq,yq,yq,yq,yq,yq,yq,yq,yq,yq,yq,yq,yq,nq,nq,nq,nq,nq,nq,nq] rfl rfl (any_of HT_.out (by kernel_rfl)) (fun _ _ _ h => h) (Or.inl ⟨by rfl, ?_⟩) ?_ ?_
     rotate_left
     ·
      intro w'
      go_simp
      with_reducible rfl
     rotate_left
     ·
      simp only [Act.put, List.setIfInBounds_toArray, List.set_cons_zero, List.set_cons_succ, i64_w, i32_w]
      rfl
     refine one_ (i := 13) (N := none) #[yq,yq,yq,yq,yq,yq,yq,yq,yq,yq,yq,yq,yq,yq,nq,nq,nq,nq,nq,nq] rfl rfl (one_of HT_.out (by kernel_rfl)) (by decide) (fun K hK => ?_)
     have hs34 : w33.cell? ⟨gb150, 0, none⟩ = some (.int .i64 t146) := (blk_cell BK150.out 0).trans rfl
     have hfs34 := blk_frozen BK150.out 0
     have hns34_1 := NB151_150.out
     have hms34_1 := NB150_151.out
     refine skip_ (w1 := ?_) (by rfl) rfl ?_ ?_
     rotate_left
     ·
      go_simp
      rfl
     refine hK.out _ _ ⟨((cell_far (p := ⟨gb150, _, none⟩) NB151_150.out _).trans (hHeld.1)), ((cell_far (p := ⟨gb150, _, none⟩) NB151_150.out _).trans (hHeld.2))⟩ (fun hHeld => ?_)
     clear hK K
     refine pure_ (i := 14) (N := some 37) (v := ?_) (a' := ?_) #[yq,yq,yq,yq,yq,yq,yq,yq,yq,yq,yq,yq,yq,yq,yq,nq,nq,nq,nq,nq] rfl rfl (any_of HT_.out (by kernel_rfl)) (fun _ _ _ h => h) (Or.inl ⟨by rfl, ?_⟩) ?_ ?_
     rotate_left
     ·
      intro w'
      go_simp
      with_reducible rfl
     rotate_left
     ·
      simp only [Act.put, List.setIfInBounds_toArray, List.set_cons_zero, List.set_cons_succ, i64_w, i32_w]
      rfl
     refine one_ (i := 15) (N := none) #[yq,yq,yq,yq,yq,yq,yq,yq,yq,yq,yq,yq,yq,yq,yq,yq,nq,nq,nq,nq] rfl rfl (one_of HT_.out (by kernel_rfl)) (by decide) (fun K hK => ?_)
     have hs35 : w33.cell? ⟨gb150, 1, none⟩ = some (.int .i64 t147) := (blk_cell BK150.out 1).trans rfl
     have hfs35 := blk_frozen BK150.out 1
     have hns35_1 := NB151_150.out
     have hms35_1 := NB150_151.out
     refine skip_ (w1 := ?_) (by rfl) rfl ?_ ?_
     rotate_left
     ·
      go_simp
      rfl
     refine hK.out _ _ ⟨((cell_far (p := ⟨gb150, _, none⟩) NB151_150.out _).trans (hHeld.1)), ((cell_far (p := ⟨gb150, _, none⟩) NB151_150.out _).trans (hHeld.2))⟩ (fun hHeld => ?_)
     clear hK K
     refine pure_ (i := 16) (N := some 38) (v := ?_) (a' := ?_) #[yq,yq,yq,yq,yq,yq,yq,yq,yq,yq,yq,yq,yq,yq,yq,yq,yq,nq,nq,nq] rfl rfl (any_of HT_.out (by kernel_rfl)) (fun _ _ _ h => h) (Or.inl ⟨by rfl, ?_⟩) ?_ ?_
     rotate_left
     ·
      intro w'
      go_simp
      with_reducible rfl
     rotate_left
     ·
      simp only [Act.put, List.setIfInBounds_toArray, List.set_cons_zero, List.set_cons_succ, i64_w, i32_w]
      rfl
     refine last_ (i := 17) (N := none) #[yq,yq,yq,yq,yq,yq,yq,yq,yq,yq,yq,yq,yq,yq,yq,yq,yq,yq,nq,nq] rfl rfl (one_of HT_.out (by kernel_rfl)) (by decide) (fun K hK => ?_)
     have hs36 : w33.cell? ⟨gb151, 0, none⟩ = some (.int .i64 t148) := (blk_cell BK151.out 0).trans rfl
     have hfs36 := blk_frozen BK151.out 0
     have hns36_0 := NB150_151.out
     have hms36_0 := NB151_150.out
     refine skip_ (w1 := ?_) (by rfl) rfl ?_ ?_
     rotate_left
     ·
      go_simp
      rfl
     refine hK.out _ _ ?_
     clear hK K
     refine pure_ (i := 18) (N := some 39) (v := ?_) (a' := ?_) #[yq,yq,yq,yq,yq,yq,yq,yq,yq,yq,yq,yq,yq,yq,yq,yq,yq,yq,yq,nq] rfl rfl (any_of HT_.out (by kernel_rfl)) (fun _ _ _ h => h) (Or.inl ⟨by rfl, ?_⟩) ?_ ?_
     rotate_left
     ·
      intro w'
      go_simp
      with_reducible rfl
     rotate_left
     ·
      simp only [Act.put, List.setIfInBounds_toArray, List.set_cons_zero, List.set_cons_succ, i64_w, i32_w]
      rfl
     refine last_ (i := 19) (N := none) #[yq,yq,yq,yq,yq,yq,yq,yq,yq,yq,yq,yq,yq,yq,yq,yq,yq,yq,yq,yq] rfl rfl (one_of HT_.out (by kernel_rfl)) (by decide) (fun K hK => ?_)
     have hs37 : w33.cell? ⟨gb151, 1, none⟩ = some (.int .i64 t149) := (blk_cell BK151.out 1).trans rfl
     have hfs37 := blk_frozen BK151.out 1
     have hns37_0 := NB150_151.out
     have hms37_0 := NB151_150.out
     refine skip_ (w1 := ?_) (by rfl) rfl ?_ ?_
     rotate_left
     ·
      go_simp
      rfl
     refine hK.out _ _ ?_
     clear hK K
     refine done_ (done_of HT_.out (by kernel_rfl)) ?_
     try go_wp2
     have n0_ : Aside0 (((((w33.setCell ⟨gb150, 0, none⟩ (.int .i64 (t146 / 256))).setCell ⟨gb150, 1, none⟩ (.int .i64 (t147 / 256))).setCell ⟨gb151, 0, none⟩ (.int .i64 (t148 / 256))).setCell ⟨gb151, 1, none⟩ (.int .i64 (t149 / 256))).heap[gb150]? = some (.cells #[.int .i64 (t146 / 256), .int .i64 (t147 / 256)] 24 (0, 0))) := ⟨by (with_reducible repeat (first | refine blk_drewN ?_ _ | refine blk_drew ?_ | refine blk_alloc ?_ _)); refine blk_far ?_ NB150_151.out _; (with_reducible repeat (first | refine blk_drewN ?_ _ | refine blk_drew ?_ | refine blk_alloc ?_ _)); refine blk_far ?_ NB150_151.out _; (with_reducible repeat (first | refine blk_drewN ?_ _ | refine blk_drew ?_ | refine blk_alloc ?_ _)); refine blk_put (cs := #[.int .i64 (t146 / 256), .int .i64 t147]) ?_ 1 _ rfl; (with_reducible repeat (first | refine blk_drewN ?_ _ | refine blk_drew ?_ | refine blk_alloc ?_ _)); refine blk_put (cs := #[.int .i64 t146, .int .i64 t147]) ?_ 0 _ rfl; (with_reducible repeat (first | refine blk_drewN ?_ _ | refine blk_drew ?_ | refine blk_alloc ?_ _)); exact BK150.out⟩
     have n1_ : Aside0 (((((w33.setCell ⟨gb150, 0, none⟩ (.int .i64 (t146 / 256))).setCell ⟨gb150, 1, none⟩ (.int .i64 (t147 / 256))).setCell ⟨gb151, 0, none⟩ (.int .i64 (t148 / 256))).setCell ⟨gb151, 1, none⟩ (.int .i64 (t149 / 256))).heap[gb151]? = some (.cells #[.int .i64 (t148 / 256), .int .i64 (t149 / 256)] 24 (0, 0))) := ⟨by (with_reducible repeat (first | refine blk_drewN ?_ _ | refine blk_drew ?_ | refine blk_alloc ?_ _)); refine blk_put (cs := #[.int .i64 (t148 / 256), .int .i64 t149]) ?_ 1 _ rfl; (with_reducible repeat (first | refine blk_drewN ?_ _ | refine blk_drew ?_ | refine blk_alloc ?_ _)); refine blk_put (cs := #[.int .i64 t148, .int .i64 t149]) ?_ 0 _ rfl; (with_reducible repeat (first | refine blk_drewN ?_ _ | refine blk_drew ?_ | refine blk_alloc ?_ _)); refine blk_far ?_ NB151_150.out _; (with_reducible repeat (first | refine blk_drewN ?_ _ | refine blk_drew ?_ | refine blk_alloc ?_ _)); refine blk_far ?_ NB151_150.out _; (with_reducible repeat (first | refine blk_drewN ?_ _ | refine blk_drew ?_ | refine blk_alloc ?_ _)); exact BK151.out⟩
     have n2_ : Aside0 (Below w.heap.size w ((((w33.setCell ⟨gb150, 0, none⟩ (.int .i64 (t146 / 256))).setCell ⟨gb150, 1, none⟩ (.int .i64 (t147 / 256))).setCell ⟨gb151, 0, none⟩ (.int .i64 (t148 / 256))).setCell ⟨gb151, 1, none⟩ (.int .i64 (t149 / 256)))) := ⟨by repeat (first | (with_reducible first | exact HB.out | apply below_alloc | apply pw_below_drewN | apply below_drew1 | refine below_set ?_ GE150.out | refine below_set ?_ GE151.out) | exact HB.out)⟩
     (try clear BK150)
     (try clear BK151)
     (try clear HB)
     generalize ((((w33.setCell ⟨gb150, 0, none⟩ (.int .i64 (t146 / 256))).setCell ⟨gb150, 1, none⟩ (.int .i64 (t147 / 256))).setCell ⟨gb151, 0, none⟩ (.int .i64 (t148 / 256))).setCell ⟨gb151, 1, none⟩ (.int .i64 (t149 / 256))) = w38 at n0_ n1_ n2_ ⊢
     have BK150 := n0_
     have BK151 := n1_
     have HB := n2_
     clear n0_ n1_ n2_
     have n0_ := Aside0.mk (blk_drew BK150.out)
     have n1_ := Aside0.mk (blk_drew BK151.out)
     have n2_ := Aside0.mk (below_drew1 HB.out)
     clear BK150
     clear BK151
     clear HB
     have BK150 := n0_
     have BK151 := n1_
     have HB := n2_
     clear n0_ n1_ n2_
     refine start_ (n := 8) (S := fun w' => w'.cell? ⟨gb150, 0, none⟩ = some (.int .i64 (t146 / 256)) ∧ w'.cell? ⟨gb150, 1, none⟩ = some (.int .i64 (t147 / 256)) ∧ w'.cell? ⟨gb151, 0, none⟩ = some (.int .i64 (t148 / 256)) ∧ w'.cell? ⟨gb151, 1, none⟩ = some (.int .i64 (t149 / 256))) (ds := []) #[nq,nq,nq,nq,nq,nq,nq,nq] (by kernel_rfl) rfl rfl ⟨(blk_cell BK150.out 0).trans rfl, (blk_cell BK150.out 1).trans rfl, (blk_cell BK151.out 0).trans rfl, (blk_cell BK151.out 1).trans rfl⟩ (fun hHeld => ?_); refine with_tabW tourkeep1_VecProducts.tab5 tourkeep1_VecProducts.bits5 (fun HT_ HW_ => ?_)
     generalize w38.drew = w39 at BK150 BK151 HB hHeld ⊢
     refine take_ (i := 0) (N := some 40) (v := ?_) (a' := ?_) #[yq,nq,nq,nq,nq,nq,nq,nq] rfl rfl (take_ofW HT_.out HW_.out (by kernel_rfl)) (fun _ _ _ h => h) (Or.inl ⟨by rfl, ?_⟩) hHeld ?_ ?_
     rotate_left
     ·
      rintro w' ⟨s0, s1, s2, s3⟩
      go_simp
      with_reducible rfl
     rotate_left
     ·
      simp only [Act.put, List.setIfInBounds_toArray, List.set_cons_zero, List.set_cons_succ, i64_w, i32_w]
      rfl
     refine take_ (i := 1) (N := some 41) (v := ?_) (a' := ?_) #[yq,yq,nq,nq,nq,nq,nq,nq] rfl rfl (take_ofW HT_.out HW_.out (by kernel_rfl)) (fun _ _ _ h => h) (Or.inl ⟨by rfl, ?_⟩) hHeld ?_ ?_
     rotate_left
     ·
      rintro w' ⟨s0, s1, s2, s3⟩
      go_simp
      with_reducible rfl
     rotate_left
     ·
      simp only [Act.put, List.setIfInBounds_toArray, List.set_cons_zero, List.set_cons_succ, i64_w, i32_w]
      rfl
     refine take_ (i := 3) (N := some 43) (v := ?_) (a' := ?_) #[yq,yq,nq,yq,nq,nq,nq,nq] rfl rfl (take_ofW HT_.out HW_.out (by kernel_rfl)) (fun _ _ _ h => h) (Or.inl ⟨by rfl, ?_⟩) hHeld ?_ ?_
     rotate_left
     ·
      rintro w' ⟨s0, s1, s2, s3⟩
      go_simp
      with_reducible rfl
     rotate_left
     ·
      simp only [Act.put, List.setIfInBounds_toArray, List.set_cons_zero, List.set_cons_succ, i64_w, i32_w]
      rfl
     refine take_ (i := 4) (N := some 44) (v := ?_) (a' := ?_) #[yq,yq,nq,yq,yq,nq,nq,nq] rfl rfl (take_ofW HT_.out HW_.out (by kernel_rfl)) (fun _ _ _ h => h) (Or.inl ⟨by rfl, ?_⟩) hHeld ?_ ?_
     rotate_left
     ·
      rintro w' ⟨s0, s1, s2, s3⟩
      go_simp
      with_reducible rfl
     rotate_left
     ·
      simp only [Act.put, List.setIfInBounds_toArray, List.set_cons_zero, List.set_cons_succ, i64_w, i32_w]
      rfl
     refine one_ (i := 2) (N := some 42) #[yq,yq,yq,yq,yq,nq,nq,nq] rfl rfl (one_of HT_.out (by kernel_rfl)) (by decide) (fun K hK => ?_)
     refine goes_ Try.func19 (by kernel_rfl) rfl #[.agg #[.int .i64 (t146 / 256), .int .i64 (t147 / 256)], .agg #[.int .i64 (t148 / 256), .int .i64 (t149 / 256)]] (by rfl) rfl rfl (by (try simp only [List.map_toArray, List.map_cons, List.map_nil]); first | done | rfl | (simp only [List.length_drop, List.length_take]; rfl)) ?_
     with_reducible refine (vec_Dot.calls k (t146 / 256) (t147 / 256) (t148 / 256) (t149 / 256) t152 _ A9.out).mono ?_
     rintro e w40 ⟨rfl, hb⟩
     refine ⟨_, rfl, ?_⟩
     have n0_ := Aside0.mk (blk_below (g := gb150) (o := .cells #[.int .i64 (t146 / 256), .int .i64 (t147 / 256)] 24 (0, 0)) (by (with_reducible repeat (first | refine blk_drewN ?_ _ | refine blk_drew ?_ | refine blk_alloc ?_ _)); exact BK150.out) hb)
     have n1_ := Aside0.mk (blk_below (g := gb151) (o := .cells #[.int .i64 (t148 / 256), .int .i64 (t149 / 256)] 24 (0, 0)) (by (with_reducible repeat (first | refine blk_drewN ?_ _ | refine blk_drew ?_ | refine blk_alloc ?_ _)); exact BK151.out) hb)
     have n2_ := Aside0.mk (below_step (by repeat (first | (with_reducible first | exact HB.out | apply below_alloc | apply pw_below_drewN | apply below_drew1 | refine below_set ?_ GE150.out | refine below_set ?_ GE151.out) | exact HB.out)) hb)
     clear BK150
     clear BK151
     clear HB
     have BK150 := n0_
     have BK151 := n1_
     have HB := n2_
     clear n0_ n1_ n2_
     (try clear hb)
     (try clear hb2)
     (try clear hk)
     (try clear hi)
     refine hK.out _ _ ⟨(blk_cell BK150.out 0).trans rfl, (blk_cell BK150.out 1).trans rfl, (blk_cell BK151.out 0).trans rfl, (blk_cell BK151.out 1).trans rfl⟩ (fun hHeld => ?_)
     clear hK K
     refine norm_ (a' := ?_) ?_ ?_
     rotate_left
     ·
      show Act.put _ (some 42) _ = _
      simp only [Act.put, List.setIfInBounds_toArray, List.set_cons_zero, List.set_cons_succ, i64_w, i32_w]
      rfl
     refine one_ (i := 5) (N := some 45) #[yq,yq,yq,yq,yq,yq,nq,nq] rfl rfl (one_of HT_.out (by kernel_rfl)) (by decide) (fun K hK => ?_)
     refine goes_ Try.func20 (by kernel_rfl) rfl #[.agg #[.int .i64 (t146 / 256), .int .i64 (t147 / 256)], .agg #[.int .i64 (t148 / 256), .int .i64 (t149 / 256)]] (by rfl) rfl rfl (by (try simp only [List.map_toArray, List.map_cons, List.map_nil]); first | done | rfl | (simp only [List.length_drop, List.length_take]; rfl)) ?_
     with_reducible refine (vec_Cross.calls k (t146 / 256) (t147 / 256) (t148 / 256) (t149 / 256) t153 _ A10.out).mono ?_
     rintro e w41 ⟨rfl, hb⟩
     refine ⟨_, rfl, ?_⟩
     have n0_ := Aside0.mk (blk_below (g := gb150) (o := .cells #[.int .i64 (t146 / 256), .int .i64 (t147 / 256)] 24 (0, 0)) (by (with_reducible repeat (first | refine blk_drewN ?_ _ | refine blk_drew ?_ | refine blk_alloc ?_ _)); exact BK150.out) hb)
     have n1_ := Aside0.mk (blk_below (g := gb151) (o := .cells #[.int .i64 (t148 / 256), .int .i64 (t149 / 256)] 24 (0, 0)) (by (with_reducible repeat (first | refine blk_drewN ?_ _ | refine blk_drew ?_ | refine blk_alloc ?_ _)); exact BK151.out) hb)
     have n2_ := Aside0.mk (below_step (by repeat (first | (with_reducible first | exact HB.out | apply below_alloc | apply pw_below_drewN | apply below_drew1 | refine below_set ?_ GE150.out | refine below_set ?_ GE151.out) | exact HB.out)) hb)
     clear BK150
     clear BK151
     clear HB
     have BK150 := n0_
     have BK151 := n1_
     have HB := n2_
     clear n0_ n1_ n2_
     (try clear hb)
     (try clear hb2)
     (try clear hk)
     (try clear hi)
     refine hK.out _ _ ⟨(blk_cell BK150.out 0).trans rfl, (blk_cell BK150.out 1).trans rfl, (blk_cell BK151.out 0).trans rfl, (blk_cell BK151.out 1).trans rfl⟩ (fun hHeld => ?_)
     clear hK K
     refine norm_ (a' := ?_) ?_ ?_
     rotate_left
     ·
      show Act.put _ (some 45) _ = _
      simp only [Act.put, List.setIfInBounds_toArray, List.set_cons_zero, List.set_cons_succ, i64_w, i32_w]
      rfl
     refine pure_ (i := 6) (N := some 11) (v := ?_) (a' := ?_) #[yq,yq,yq,yq,yq,yq,yq,nq] rfl rfl (any_of HT_.out (by kernel_rfl)) (fun _ _ _ h => h) (Or.inl ⟨by rfl, ?_⟩) ?_ ?_
     rotate_left
     ·
      intro w'
      go_simp
      with_reducible rfl
     rotate_left
     ·
      simp only [Act.put, List.setIfInBounds_toArray, List.set_cons_zero, List.set_cons_succ, i64_w, i32_w]
      rfl
     refine pure_ (i := 7) (N := some 12) (v := ?_) (a' := ?_) #[yq,yq,yq,yq,yq,yq,yq,yq] rfl rfl (any_of HT_.out (by kernel_rfl)) (fun _ _ _ h => h) (Or.inl ⟨by rfl, ?_⟩) ?_ ?_
     rotate_left
     ·
      intro w'
      go_simp
      with_reducible rfl
     rotate_left
     ·
      simp only [Act.put, List.setIfInBounds_toArray, List.set_cons_zero, List.set_cons_succ, i64_w, i32_w]
      rfl
     refine done_ (done_of HT_.out (by kernel_rfl)) ?_
     have hcz42_0 : w41.cell? ⟨gb150, 0, none⟩ = some (.int .i64 (t146 / 256)) := (blk_cell BK150.out 0).trans rfl
     have hcz42_1 : w41.cell? ⟨gb150, 1, none⟩ = some (.int .i64 (t147 / 256)) := (blk_cell BK150.out 1).trans rfl
     have hfz42_0 := blk_frozen BK150.out 0
     have hfz42_1 := blk_frozen BK150.out 1
     try go_wp2_with (first | ((with_reducible refine gate_callee (f := 19) rfl ?_); refine goesL_ (some 67) rfl rfl Try.func19 (by kernel_rfl) rfl #[.agg #[.int .i64 (t146 / 256), .int .i64 (t147 / 256)], .agg #[.int .i64 (t146 / 256), .int .i64 (t147 / 256)]] rfl (by (try simp only [List.map_toArray, List.map_cons, List.map_nil]); first | done | rfl | (simp only [List.length_drop, List.length_take]; rfl)) ?_; (with_reducible refine (vec_Dot.calls k (t146 / 256) (t147 / 256) (t146 / 256) (t147 / 256) t154 _ A13.out).mono ?_); rintro e w43 ⟨rfl, hb⟩; refine ⟨_, rfl, ?_⟩; have n0_ := Aside0.mk (blk_below (g := gb150) (o := .cells #[.int .i64 (t146 / 256), .int .i64 (t147 / 256)] 24 (0, 0)) (by (with_reducible repeat (first | refine blk_drewN ?_ _ | refine blk_drew ?_ | refine blk_alloc ?_ _)); exact BK150.out) hb); have n1_ := Aside0.mk (blk_below (g := gb151) (o := .cells #[.int .i64 (t148 / 256), .int .i64 (t149 / 256)] 24 (0, 0)) (by (with_reducible repeat (first | refine blk_drewN ?_ _ | refine blk_drew ?_ | refine blk_alloc ?_ _)); exact BK151.out) hb); have n2_ := Aside0.mk (below_step (by repeat (first | (with_reducible first | exact HB.out | apply below_alloc | apply pw_below_drewN | apply below_drew1 | refine below_set ?_ GE150.out | refine below_set ?_ GE151.out) | exact HB.out)) hb); clear BK150; clear BK151; clear HB; have BK150 := n0_; have BK151 := n1_; have HB := n2_; clear n0_ n1_ n2_; (try clear hb); (try clear hb2); (try clear hk); (try clear hi)))
     have n0_ := Aside0.mk (blk_drew BK150.out)
     have n1_ := Aside0.mk (blk_drew BK151.out)
     have n2_ := Aside0.mk (below_drew1 HB.out)
     clear BK150
     clear BK151
     clear HB
     have BK150 := n0_
     have BK151 := n1_
     have HB := n2_
     clear n0_ n1_ n2_
     refine start_ (n := 44) (S := fun w' => w'.cell? ⟨gb151, 0, none⟩ = some (.int .i64 (t148 / 256)) ∧ w'.cell? ⟨gb151, 1, none⟩ = some (.int .i64 (t149 / 256)) ∧ w'.cell? ⟨gb150, 0, none⟩ = some (.int .i64 (t146 / 256)) ∧ w'.cell? ⟨gb150, 1, none⟩ = some (.int .i64 (t147 / 256))) (ds := []) #[nq,nq,nq,nq,nq,nq,nq,nq,nq,nq,nq,nq,nq,nq,nq,nq,nq,nq,nq,nq,nq,nq,nq,nq,nq,nq,nq,nq,nq,nq,nq,nq,nq,nq,nq,nq,nq,nq,nq,nq,nq,nq,nq,nq] (by kernel_rfl) rfl rfl ⟨(blk_cell BK151.out 0).trans rfl, (blk_cell BK151.out 1).trans rfl, (blk_cell BK150.out 0).trans rfl, (blk_cell BK150.out 1).trans rfl⟩ (fun hHeld => ?_); refine with_tabW tourkeep1_VecProducts.tab9 tourkeep1_VecProducts.bits9 (fun HT_ HW_ => ?_)
     generalize w43.drew = w44 at BK150 BK151 HB hHeld ⊢
     refine pure_ (i := 3) (N := some 71) (v := ?_) (a' := ?_) #[nq,nq,nq,yq,nq,nq,nq,nq,nq,nq,nq,nq,nq,nq,nq,nq,nq,nq,nq,nq,nq,nq,nq,nq,nq,nq,nq,nq,nq,nq,nq,nq,nq,nq,nq,nq,nq,nq,nq,nq,nq,nq,nq,nq] rfl rfl (any_of HT_.out (by kernel_rfl)) (fun _ _ _ h => h) (Or.inl ⟨by rfl, ?_⟩) ?_ ?_
     rotate_left
     ·
      intro w'
      go_simp
      with_reducible rfl
     rotate_left
     ·
      simp only [Act.put, List.setIfInBounds_toArray, List.set_cons_zero, List.set_cons_succ, i64_w, i32_w]
      rfl
     refine take_ (i := 0) (N := some 68) (v := ?_) (a' := ?_) #[yq,nq,nq,yq,nq,nq,nq,nq,nq,nq,nq,nq,nq,nq,nq,nq,nq,nq,nq,nq,nq,nq,nq,nq,nq,nq,nq,nq,nq,nq,nq,nq,nq,nq,nq,nq,nq,nq,nq,nq,nq,nq,nq,nq] rfl rfl (take_ofW HT_.out HW_.out (by kernel_rfl)) (fun _ _ _ h => h) (Or.inl ⟨by rfl, ?_⟩) hHeld ?_ ?_
     rotate_left
     ·
      rintro w' ⟨s0, s1, s2, s3⟩
      go_simp
      with_reducible rfl
     rotate_left
     ·
      simp only [Act.put, List.setIfInBounds_toArray, List.set_cons_zero, List.set_cons_succ, i64_w, i32_w]
      rfl
     refine take_ (i := 1) (N := some 69) (v := ?_) (a' := ?_) #[yq,yq,nq,yq,nq,nq,nq,nq,nq,nq,nq,nq,nq,nq,nq,nq,nq,nq,nq,nq,nq,nq,nq,nq,nq,nq,nq,nq,nq,nq,nq,nq,nq,nq,nq,nq,nq,nq,nq,nq,nq,nq,nq,nq] rfl rfl (take_ofW HT_.out HW_.out (by kernel_rfl)) (fun _ _ _ h => h) (Or.inl ⟨by rfl, ?_⟩) hHeld ?_ ?_
     rotate_left
     ·
      rintro w' ⟨s0, s1, s2, s3⟩
      go_simp
      with_reducible rfl
     rotate_left
     ·
      simp only [Act.put, List.setIfInBounds_toArray, List.set_cons_zero, List.set_cons_succ, i64_w, i32_w]
      rfl
     refine one_ (i := 2) (N := some 70) #[yq,yq,yq,yq,nq,nq,nq,nq,nq,nq,nq,nq,nq,nq,nq,nq,nq,nq,nq,nq,nq,nq,nq,nq,nq,nq,nq,nq,nq,nq,nq,nq,nq,nq,nq,nq,nq,nq,nq,nq,nq,nq,nq,nq] rfl rfl (one_of HT_.out (by kernel_rfl)) (by decide) (fun K hK => ?_)
     refine goes_ Try.func19 (by kernel_rfl) rfl #[.agg #[.int .i64 (t148 / 256), .int .i64 (t149 / 256)], .agg #[.int .i64 (t146 / 256), .int .i64 (t147 / 256)]] (by rfl) rfl rfl (by (try simp only [List.map_toArray, List.map_cons, List.map_nil]); first | done | rfl | (simp only [List.length_drop, List.length_take]; rfl)) ?_
     with_reducible refine (vec_Dot.calls k (t148 / 256) (t149 / 256) (t146 / 256) (t147 / 256) t155 _ A14.out).mono ?_
     rintro e w45 ⟨rfl, hb⟩
     refine ⟨_, rfl, ?_⟩
     have n0_ := Aside0.mk (blk_below (g := gb150) (o := .cells #[.int .i64 (t146 / 256), .int .i64 (t147 / 256)] 24 (0, 0)) (by (with_reducible repeat (first | refine blk_drewN ?_ _ | refine blk_drew ?_ | refine blk_alloc ?_ _)); exact BK150.out) hb)
     have n1_ := Aside0.mk (blk_below (g := gb151) (o := .cells #[.int .i64 (t148 / 256), .int .i64 (t149 / 256)] 24 (0, 0)) (by (with_reducible repeat (first | refine blk_drewN ?_ _ | refine blk_drew ?_ | refine blk_alloc ?_ _)); exact BK151.out) hb)
     have n2_ := Aside0.mk (below_step (by repeat (first | (with_reducible first | exact HB.out | apply below_alloc | apply pw_below_drewN | apply below_drew1 | refine below_set ?_ GE150.out | refine below_set ?_ GE151.out) | exact HB.out)) hb)
     clear BK150
     clear BK151
     clear HB
     have BK150 := n0_
     have BK151 := n1_
     have HB := n2_
     clear n0_ n1_ n2_
     (try clear hb)
     (try clear hb2)
     (try clear hk)
     (try clear hi)
     refine hK.out _ _ ⟨(blk_cell BK151.out 0).trans rfl, (blk_cell BK151.out 1).trans rfl, (blk_cell BK150.out 0).trans rfl, (blk_cell BK150.out 1).trans rfl⟩ (fun hHeld => ?_)
     clear hK K
     refine norm_ (a' := ?_) ?_ ?_
     rotate_left
     ·
      show Act.put _ (some 70) _ = _
      simp only [Act.put, List.setIfInBounds_toArray, List.set_cons_zero, List.set_cons_succ, i64_w, i32_w]
      rfl
     refine pure_ (i := 4) (N := some 72) (v := ?_) (a' := ?_) #[yq,yq,yq,yq,yq,nq,nq,nq,nq,nq,nq,nq,nq,nq,nq,nq,nq,nq,nq,nq,nq,nq,nq,nq,nq,nq,nq,nq,nq,nq,nq,nq,nq,nq,nq,nq,nq,nq,nq,nq,nq,nq,nq,nq] rfl rfl (any_of HT_.out (by kernel_rfl)) (fun _ _ _ h => h) (Or.inl ⟨by rfl, ?_⟩) ?_ ?_
     rotate_left
     ·
      intro w'
      go_simp
      with_reducible rfl
     rotate_left
     ·
      simp only [Act.put, List.setIfInBounds_toArray, List.set_cons_zero, List.set_cons_succ, i64_w, i32_w]
      rfl
     refine pure_ (i := 5) (N := some 73) (v := ?_) (a' := ?_) #[yq,yq,yq,yq,yq,yq,nq,nq,nq,nq,nq,nq,nq,nq,nq,nq,nq,nq,nq,nq,nq,nq,nq,nq,nq,nq,nq,nq,nq,nq,nq,nq,nq,nq,nq,nq,nq,nq,nq,nq,nq,nq,nq,nq] rfl rfl (any_of HT_.out (by kernel_rfl)) (fun _ _ _ h => h) (Or.inl ⟨by rfl, ?_⟩) ?_ ?_
     rotate_left
     ·
      intro w'
      go_simp
      with_reducible rfl
     rotate_left
     ·
      simp only [Act.put, List.setIfInBounds_toArray, List.set_cons_zero, List.set_cons_succ, i64_w, i32_w]
      rfl
     refine pure_ (i := 9) (N := some 77) (v := ?_) (a' := ?_) #[yq,yq,yq,yq,yq,yq,nq,nq,nq,yq,nq,nq,nq,nq,nq,nq,nq,nq,nq,nq,nq,nq,nq,nq,nq,nq,nq,nq,nq,nq,nq,nq,nq,nq,nq,nq,nq,nq,nq,nq,nq,nq,nq,nq] rfl rfl (any_of HT_.out (by kernel_rfl)) (fun _ _ _ h => h) (Or.inl ⟨by rfl, ?_⟩) ?_ ?_
     rotate_left
     ·
      intro w'
      go_simp
      with_reducible rfl
     rotate_left
     ·
      simp only [Act.put, List.setIfInBounds_toArray, List.set_cons_zero, List.set_cons_succ, i64_w, i32_w]
      rfl
     refine pure_ (i := 10) (N := some 78) (v := ?_) (a' := ?_) #[yq,yq,yq,yq,yq,yq,nq,nq,nq,yq,yq,nq,nq,nq,nq,nq,nq,nq,nq,nq,nq,nq,nq,nq,nq,nq,nq,nq,nq,nq,nq,nq,nq,nq,nq,nq,nq,nq,nq,nq,nq,nq,nq,nq] rfl rfl (any_of HT_.out (by kernel_rfl)) (fun _ _ _ h => h) (Or.inl ⟨by rfl, ?_⟩) ?_ ?_
     rotate_left
     ·
      intro w'
      go_simp
      with_reducible rfl
     rotate_left
     ·
      simp only [Act.put, List.setIfInBounds_toArray, List.set_cons_zero, List.set_cons_succ, i64_w, i32_w]
      rfl
     refine take_ (i := 6) (N := some 74) (v := ?_) (a' := ?_) #[yq,yq,yq,yq,yq,yq,yq,nq,nq,yq,yq,nq,nq,nq,nq,nq,nq,nq,nq,nq,nq,nq,nq,nq,nq,nq,nq,nq,nq,nq,nq,nq,nq,nq,nq,nq,nq,nq,nq,nq,nq,nq,nq,nq] rfl rfl (take_ofW HT_.out HW_.out (by kernel_rfl)) (fun _ _ _ h => h) (Or.inl ⟨by rfl, ?_⟩) hHeld ?_ ?_
     rotate_left
     ·
      rintro w' ⟨s0, s1, s2, s3⟩
      go_simp
      with_reducible rfl
     rotate_left
     ·
      simp only [Act.put, List.setIfInBounds_toArray, List.set_cons_zero, List.set_cons_succ, i64_w, i32_w]
      rfl
     refine take_ (i := 7) (N := some 75) (v := ?_) (a' := ?_) #[yq,yq,yq,yq,yq,yq,yq,yq,nq,yq,yq,nq,nq,nq,nq,nq,nq,nq,nq,nq,nq,nq,nq,nq,nq,nq,nq,nq,nq,nq,nq,nq,nq,nq,nq,nq,nq,nq,nq,nq,nq,nq,nq,nq] rfl rfl (take_ofW HT_.out HW_.out (by kernel_rfl)) (fun _ _ _ h => h) (Or.inl ⟨by rfl, ?_⟩) hHeld ?_ ?_
     rotate_left
     ·
      rintro w' ⟨s0, s1, s2, s3⟩
      go_simp
      with_reducible rfl
     rotate_left
     ·
      simp only [Act.put, List.setIfInBounds_toArray, List.set_cons_zero, List.set_cons_succ, i64_w, i32_w]
      rfl
     refine one_ (i := 8) (N := some 76) #[yq,yq,yq,yq,yq,yq,yq,yq,yq,yq,yq,nq,nq,nq,nq,nq,nq,nq,nq,nq,nq,nq,nq,nq,nq,nq,nq,nq,nq,nq,nq,nq,nq,nq,nq,nq,nq,nq,nq,nq,nq,nq,nq,nq] rfl rfl (one_of HT_.out (by kernel_rfl)) (by decide) (fun K hK => ?_)
     refine goes_ Try.func20 (by kernel_rfl) rfl #[.agg #[.int .i64 (t148 / 256), .int .i64 (t149 / 256)], .agg #[.int .i64 (t146 / 256), .int .i64 (t147 / 256)]] (by rfl) rfl rfl (by (try simp only [List.map_toArray, List.map_cons, List.map_nil]); first | done | rfl | (simp only [List.length_drop, List.length_take]; rfl)) ?_
     with_reducible refine (vec_Cross.calls k (t148 / 256) (t149 / 256) (t146 / 256) (t147 / 256) t156 _ A16.out).mono ?_
     rintro e w46 ⟨rfl, hb⟩
     refine ⟨_, rfl, ?_⟩
     have n0_ := Aside0.mk (blk_below (g := gb150) (o := .cells #[.int .i64 (t146 / 256), .int .i64 (t147 / 256)] 24 (0, 0)) (by (with_reducible repeat (first | refine blk_drewN ?_ _ | refine blk_drew ?_ | refine blk_alloc ?_ _)); exact BK150.out) hb)
     have n1_ := Aside0.mk (blk_below (g := gb151) (o := .cells #[.int .i64 (t148 / 256), .int .i64 (t149 / 256)] 24 (0, 0)) (by (with_reducible repeat (first | refine blk_drewN ?_ _ | refine blk_drew ?_ | refine blk_alloc ?_ _)); exact BK151.out) hb)
     have n2_ := Aside0.mk (below_step (by repeat (first | (with_reducible first | exact HB.out | apply below_alloc | apply pw_below_drewN | apply below_drew1 | refine below_set ?_ GE150.out | refine below_set ?_ GE151.out) | exact HB.out)) hb)
     clear BK150
     clear BK151
     clear HB
     have BK150 := n0_
     have BK151 := n1_
     have HB := n2_
     clear n0_ n1_ n2_
     (try clear hb)
     (try clear hb2)
     (try clear hk)
     (try clear hi)
     refine hK.out _ _ ⟨(blk_cell BK151.out 0).trans rfl, (blk_cell BK151.out 1).trans rfl, (blk_cell BK150.out 0).trans rfl, (blk_cell BK150.out 1).trans rfl⟩ (fun hHeld => ?_)
     clear hK K
     refine norm_ (a' := ?_) ?_ ?_
     rotate_left
     ·
      show Act.put _ (some 76) _ = _
      simp only [Act.put, List.setIfInBounds_toArray, List.set_cons_zero, List.set_cons_succ, i64_w, i32_w]
      rfl
     refine pure_ (i := 11) (N := some 79) (v := ?_) (a' := ?_) #[yq,yq,yq,yq,yq,yq,yq,yq,yq,yq,yq,yq,nq,nq,nq,nq,nq,nq,nq,nq,nq,nq,nq,nq,nq,nq,nq,nq,nq,nq,nq,nq,nq,nq,nq,nq,nq,nq,nq,nq,nq,nq,nq,nq] rfl rfl (any_of HT_.out (by kernel_rfl)) (fun _ _ _ h => h) (Or.inl ⟨by rfl, ?_⟩) ?_ ?_
     rotate_left
     ·
      intro w'
      go_simp
      with_reducible rfl
     rotate_left
     ·
      simp only [Act.put, List.setIfInBounds_toArray, List.set_cons_zero, List.set_cons_succ, i64_w, i32_w]
      rfl
     refine pure_ (i := 12) (N := some 80) (v := ?_) (a' := ?_) #[yq,yq,yq,yq,yq,yq,yq,yq,yq,yq,yq,yq,yq,nq,nq,nq,nq,nq,nq,nq,nq,nq,nq,nq,nq,nq,nq,nq,nq,nq,nq,nq,nq,nq,nq,nq,nq,nq,nq,nq,nq,nq,nq,nq] rfl rfl (any_of HT_.out (by kernel_rfl)) (fun _ _ _ h => h) (Or.inl ⟨by rfl, ?_⟩) ?_ ?_
     rotate_left
     ·
      intro w'
      go_simp
      with_reducible rfl
     rotate_left
     ·
      simp only [Act.put, List.setIfInBounds_toArray, List.set_cons_zero, List.set_cons_succ, i64_w, i32_w]
      rfl
     refine pure_ (i := 13) (N := some 81) (v := ?_) (a' := ?_) #[yq,yq,yq,yq,yq,yq,yq,yq,yq,yq,yq,yq,yq,yq,nq,nq,nq,nq,nq,nq,nq,nq,nq,nq,nq,nq,nq,nq,nq,nq,nq,nq,nq,nq,nq,nq,nq,nq,nq,nq,nq,nq,nq,nq] rfl rfl (any_of HT_.out (by kernel_rfl)) (fun _ _ _ h => h) (Or.inl ⟨by rfl, ?_⟩) ?_ ?_
     rotate_left
     ·
      intro w'
      go_simp
      with_reducible rfl
     rotate_left
     ·
      simp only [Act.put, List.setIfInBounds_toArray, List.set_cons_zero, List.set_cons_succ, i64_w, i32_w]
      rfl
     refine take_ (i := 14) (N := some 82) (v := ?_) (a' := ?_) #[yq,yq,yq,yq,yq,yq,yq,yq,yq,yq,yq,yq,yq,yq,yq,nq,nq,nq,nq,nq,nq,nq,nq,nq,nq,nq,nq,nq,nq,nq,nq,nq,nq,nq,nq,nq,nq,nq,nq,nq,nq,nq,nq,nq] rfl rfl (take_ofW HT_.out HW_.out (by kernel_rfl)) (fun _ _ _ h => h) (Or.inl ⟨by rfl, ?_⟩) hHeld ?_ ?_
     rotate_left
     ·
      rintro w' ⟨s0, s1, s2, s3⟩
      go_simp
      with_reducible rfl
     rotate_left
     ·
      simp only [Act.put, List.setIfInBounds_toArray, List.set_cons_zero, List.set_cons_succ, i64_w, i32_w]
      rfl
     refine take_ (i := 15) (N := some 83) (v := ?_) (a' := ?_) #[yq,yq,yq,yq,yq,yq,yq,yq,yq,yq,yq,yq,yq,yq,yq,yq,nq,nq,nq,nq,nq,nq,nq,nq,nq,nq,nq,nq,nq,nq,nq,nq,nq,nq,nq,nq,nq,nq,nq,nq,nq,nq,nq,nq] rfl rfl (take_ofW HT_.out HW_.out (by kernel_rfl)) (fun _ _ _ h => h) (Or.inl ⟨by rfl, ?_⟩) hHeld ?_ ?_
     rotate_left
     ·
      rintro w' ⟨s0, s1, s2, s3⟩
      go_simp
      with_reducible rfl
     rotate_left
     ·
      simp only [Act.put, List.setIfInBounds_toArray, List.set_cons_zero, List.set_cons_succ, i64_w, i32_w]
      rfl
     refine one_ (i := 16) (N := some 84) #[yq,yq,yq,yq,yq,yq,yq,yq,yq,yq,yq,yq,yq,yq,yq,yq,yq,nq,nq,nq,nq,nq,nq,nq,nq,nq,nq,nq,nq,nq,nq,nq,nq,nq,nq,nq,nq,nq,nq,nq,nq,nq,nq,nq] rfl rfl (one_of HT_.out (by kernel_rfl)) (by decide) (fun K hK => ?_)
     refine goes_ Try.func20 (by kernel_rfl) rfl #[.agg #[.int .i64 (t146 / 256), .int .i64 (t147 / 256)], .agg #[.int .i64 (t146 / 256), .int .i64 (t147 / 256)]] (by rfl) rfl rfl (by (try simp only [List.map_toArray, List.map_cons, List.map_nil]); first | done | rfl | (simp only [List.length_drop, List.length_take]; rfl)) ?_
     with_reducible refine (vec_Cross.calls k (t146 / 256) (t147 / 256) (t146 / 256) (t147 / 256) t157 _ A18.out).mono ?_
     rintro e w47 ⟨rfl, hb⟩
     refine ⟨_, rfl, ?_⟩
     have n0_ := Aside0.mk (blk_below (g := gb150) (o := .cells #[.int .i64 (t146 / 256), .int .i64 (t147 / 256)] 24 (0, 0)) (by (with_reducible repeat (first | refine blk_drewN ?_ _ | refine blk_drew ?_ | refine blk_alloc ?_ _)); exact BK150.out) hb)
     have n1_ := Aside0.mk (blk_below (g := gb151) (o := .cells #[.int .i64 (t148 / 256), .int .i64 (t149 / 256)] 24 (0, 0)) (by (with_reducible repeat (first | refine blk_drewN ?_ _ | refine blk_drew ?_ | refine blk_alloc ?_ _)); exact BK151.out) hb)
     have n2_ := Aside0.mk (below_step (by repeat (first | (with_reducible first | exact HB.out | apply below_alloc | apply pw_below_drewN | apply below_drew1 | refine below_set ?_ GE150.out | refine below_set ?_ GE151.out) | exact HB.out)) hb)
     clear BK150
     clear BK151
     clear HB
     have BK150 := n0_
     have BK151 := n1_
     have HB := n2_
     clear n0_ n1_ n2_
     (try clear hb)
     (try clear hb2)
     (try clear hk)
     (try clear hi)
     refine hK.out _ _ ⟨(blk_cell BK151.out 0).trans rfl, (blk_cell BK151.out 1).trans rfl, (blk_cell BK150.out 0).trans rfl, (blk_cell BK150.out 1).trans rfl⟩ (fun hHeld => ?_)
     clear hK K
     refine norm_ (a' := ?_) ?_ ?_
     rotate_left
     ·
      show Act.put _ (some 84) _ = _
      simp only [Act.put, List.setIfInBounds_toArray, List.set_cons_zero, List.set_cons_succ, i64_w, i32_w]
      rfl
     refine pure_ (i := 17) (N := some 85) (v := ?_) (a' := ?_) #[yq,yq,yq,yq,yq,yq,yq,yq,yq,yq,yq,yq,yq,yq,yq,yq,yq,yq,nq,nq,nq,nq,nq,nq,nq,nq,nq,nq,nq,nq,nq,nq,nq,nq,nq,nq,nq,nq,nq,nq,nq,nq,nq,nq] rfl rfl (any_of HT_.out (by kernel_rfl)) (fun _ _ _ h => h) (Or.inl ⟨by rfl, ?_⟩) ?_ ?_
     rotate_left
     ·
      intro w'
      go_simp
      with_reducible rfl
     rotate_left
     ·
      simp only [Act.put, List.setIfInBounds_toArray, List.set_cons_zero, List.set_cons_succ, i64_w, i32_w]
      rfl
     refine pure_ (i := 18) (N := some 86) (v := ?_) (a' := ?_) #[yq,yq,yq,yq,yq,yq,yq,yq,yq,yq,yq,yq,yq,yq,yq,yq,yq,yq,yq,nq,nq,nq,nq,nq,nq,nq,nq,nq,nq,nq,nq,nq,nq,nq,nq,nq,nq,nq,nq,nq,nq,nq,nq,nq] rfl rfl (any_of HT_.out (by kernel_rfl)) (fun _ _ _ h => h) (Or.inl ⟨by rfl, ?_⟩) ?_ ?_
     rotate_left
     ·
      intro w'
      go_simp
      with_reducible rfl
     rotate_left
     ·
      simp only [Act.put, List.setIfInBounds_toArray, List.set_cons_zero, List.set_cons_succ, i64_w, i32_w]
      rfl
     refine pure_ (i := 19) (N := some 87) (v := ?_) (a' := ?_) #[yq,yq,yq,yq,yq,yq,yq,yq,yq,yq,yq,yq,yq,yq,yq,yq,yq,yq,yq,yq,nq,nq,nq,nq,nq,nq,nq,nq,nq,nq,nq,nq,nq,nq,nq,nq,nq,nq,nq,nq,nq,nq,nq,nq] rfl rfl (any_of HT_.out (by kernel_rfl)) (fun _ _ _ h => h) (Or.inl ⟨by rfl, ?_⟩) ?_ ?_
     rotate_left
     ·
      intro w'
      go_simp
      with_reducible rfl
     rotate_left
     ·
      simp only [Act.put, List.setIfInBounds_toArray, List.set_cons_zero, List.set_cons_succ, i64_w, i32_w]
      rfl
     refine pure_ (i := 20) (N := some 88) (v := ?_) (a' := ?_) #[yq,yq,yq,yq,yq,yq,yq,yq,yq,yq,yq,yq,yq,yq,yq,yq,yq,yq,yq,yq,yq,nq,nq,nq,nq,nq,nq,nq,nq,nq,nq,nq,nq,nq,nq,nq,nq,nq,nq,nq,nq,nq,nq,nq] rfl rfl (any_of HT_.out (by kernel_rfl)) (fun _ _ _ h => h) (Or.inl ⟨by rfl, ?_⟩) ?_ ?_
     rotate_left
     ·
      intro w'
      go_simp
      with_reducible rfl
     rotate_left
     ·
      simp only [Act.put, List.setIfInBounds_toArray, List.set_cons_zero, List.set_cons_succ, i64_w, i32_w]
      rfl
     refine pure_ (i := 21) (N := some 89) (v := ?_) (a' := ?_) #[yq,yq,yq,yq,yq,yq,yq,yq,yq,yq,yq,yq,yq,yq,yq,yq,yq,yq,yq,yq,yq,yq,nq,nq,nq,nq,nq,nq,nq,nq,nq,nq,nq,nq,nq,nq,nq,nq,nq,nq,nq,nq,nq,nq] rfl rfl (any_of HT_.out (by kernel_rfl)) (fun _ _ _ h => h) (Or.inl ⟨by rfl, ?_⟩) ?_ ?_
     rotate_left
     ·
      intro w'
      go_simp
      with_reducible rfl
     rotate_left
     ·
      simp only [Act.put, List.setIfInBounds_toArray, List.set_cons_zero, List.set_cons_succ, i64_w, i32_w]
      rfl
     refine pure_ (i := 22) (N := some 90) (v := ?_) (a' := ?_) #[yq,yq,yq,yq,yq,yq,yq,yq,yq,yq,yq,yq,yq,yq,yq,yq,yq,yq,yq,yq,yq,yq,yq,nq,nq,nq,nq,nq,nq,nq,nq,nq,nq,nq,nq,nq,nq,nq,nq,nq,nq,nq,nq,nq] rfl rfl (any_of HT_.out (by kernel_rfl)) (fun _ _ _ h => h) (Or.inl ⟨by rfl, ?_⟩) ?_ ?_
     rotate_left
     ·
      intro w'
      go_simp
      with_reducible rfl
     rotate_left
     ·
      simp only [Act.put, List.setIfInBounds_toArray, List.set_cons_zero, List.set_cons_succ, i64_w, i32_w]
      rfl
     refine pure_ (i := 28) (N := some 96) (v := ?_) (a' := ?_) #[yq,yq,yq,yq,yq,yq,yq,yq,yq,yq,yq,yq,yq,yq,yq,yq,yq,yq,yq,yq,yq,yq,yq,nq,nq,nq,nq,nq,yq,nq,nq,nq,nq,nq,nq,nq,nq,nq,nq,nq,nq,nq,nq,nq] rfl rfl (any_of HT_.out (by kernel_rfl)) (fun _ _ _ h => h) (Or.inl ⟨by rfl, ?_⟩) ?_ ?_
     rotate_left
     ·
      intro w'
      go_simp
      with_reducible rfl
     rotate_left
     ·
      simp only [Act.put, List.setIfInBounds_toArray, List.set_cons_zero, List.set_cons_succ, i64_w, i32_w]
      rfl
     refine pure_ (i := 29) (N := some 97) (v := ?_) (a' := ?_) #[yq,yq,yq,yq,yq,yq,yq,yq,yq,yq,yq,yq,yq,yq,yq,yq,yq,yq,yq,yq,yq,yq,yq,nq,nq,nq,nq,nq,yq,yq,nq,nq,nq,nq,nq,nq,nq,nq,nq,nq,nq,nq,nq,nq] rfl rfl (any_of HT_.out (by kernel_rfl)) (fun _ _ _ h => h) (Or.inl ⟨by rfl, ?_⟩) ?_ ?_
     rotate_left
     ·
      intro w'
      go_simp
      with_reducible rfl
     rotate_left
     ·
      simp only [Act.put, List.setIfInBounds_toArray, List.set_cons_zero, List.set_cons_succ, i64_w, i32_w]
      rfl
     refine take_ (i := 23) (N := some 91) (v := ?_) (a' := ?_) #[yq,yq,yq,yq,yq,yq,yq,yq,yq,yq,yq,yq,yq,yq,yq,yq,yq,yq,yq,yq,yq,yq,yq,yq,nq,nq,nq,nq,yq,yq,nq,nq,nq,nq,nq,nq,nq,nq,nq,nq,nq,nq,nq,nq] rfl rfl (take_ofW HT_.out HW_.out (by kernel_rfl)) (fun _ _ _ h => h) (Or.inl ⟨by rfl, ?_⟩) hHeld ?_ ?_
     rotate_left
     ·
      rintro w' ⟨s0, s1, s2, s3⟩
      go_simp
      with_reducible rfl
     rotate_left
     ·
      simp only [Act.put, List.setIfInBounds_toArray, List.set_cons_zero, List.set_cons_succ, i64_w, i32_w]
      rfl
     refine take_ (i := 24) (N := some 92) (v := ?_) (a' := ?_) #[yq,yq,yq,yq,yq,yq,yq,yq,yq,yq,yq,yq,yq,yq,yq,yq,yq,yq,yq,yq,yq,yq,yq,yq,yq,nq,nq,nq,yq,yq,nq,nq,nq,nq,nq,nq,nq,nq,nq,nq,nq,nq,nq,nq] rfl rfl (take_ofW HT_.out HW_.out (by kernel_rfl)) (fun _ _ _ h => h) (Or.inl ⟨by rfl, ?_⟩) hHeld ?_ ?_
     rotate_left
     ·
      rintro w' ⟨s0, s1, s2, s3⟩
      go_simp
      with_reducible rfl
     rotate_left
     ·
      simp only [Act.put, List.setIfInBounds_toArray, List.set_cons_zero, List.set_cons_succ, i64_w, i32_w]
      rfl
     refine take_ (i := 30) (N := some 98) (v := ?_) (a' := ?_) #[yq,yq,yq,yq,yq,yq,yq,yq,yq,yq,yq,yq,yq,yq,yq,yq,yq,yq,yq,yq,yq,yq,yq,yq,yq,nq,nq,nq,yq,yq,yq,nq,nq,nq,nq,nq,nq,nq,nq,nq,nq,nq,nq,nq] rfl rfl (take_ofW HT_.out HW_.out (by kernel_rfl)) (fun _ _ _ h => h) (Or.inl ⟨by rfl, ?_⟩) hHeld ?_ ?_
     rotate_left
     ·
      rintro w' ⟨s0, s1, s2, s3⟩
      go_simp
      with_reducible rfl
     rotate_left
     ·
      simp only [Act.put, List.setIfInBounds_toArray, List.set_cons_zero, List.set_cons_succ, i64_w, i32_w]
      rfl
     refine take_ (i := 31) (N := some 99) (v := ?_) (a' := ?_) #[yq,yq,yq,yq,yq,yq,yq,yq,yq,yq,yq,yq,yq,yq,yq,yq,yq,yq,yq,yq,yq,yq,yq,yq,yq,nq,nq,nq,yq,yq,yq,yq,nq,nq,nq,nq,nq,nq,nq,nq,nq,nq,nq,nq] rfl rfl (take_ofW HT_.out HW_.out (by kernel_rfl)) (fun _ _ _ h => h) (Or.inl ⟨by rfl, ?_⟩) hHeld ?_ ?_
     rotate_left
     ·
      rintro w' ⟨s0, s1, s2, s3⟩
      go_simp
      with_reducible rfl
     rotate_left
     ·
      simp only [Act.put, List.setIfInBounds_toArray, List.set_cons_zero, List.set_cons_succ, i64_w, i32_w]
      rfl
     refine take_ (i := 35) (N := some 103) (v := ?_) (a' := ?_) #[yq,yq,yq,yq,yq,yq,yq,yq,yq,yq,yq,yq,yq,yq,yq,yq,yq,yq,yq,yq,yq,yq,yq,yq,yq,nq,nq,nq,yq,yq,yq,yq,nq,nq,nq,yq,nq,nq,nq,nq,nq,nq,nq,nq] rfl rfl (take_ofW HT_.out HW_.out (by kernel_rfl)) (fun _ _ _ h => h) (Or.inl ⟨by rfl, ?_⟩) hHeld ?_ ?_
     rotate_left
     ·
      rintro w' ⟨s0, s1, s2, s3⟩
      go_simp
      with_reducible rfl
     rotate_left
     ·
      simp only [Act.put, List.setIfInBounds_toArray, List.set_cons_zero, List.set_cons_succ, i64_w, i32_w]
      rfl
     refine take_ (i := 36) (N := some 104) (v := ?_) (a' := ?_) #[yq,yq,yq,yq,yq,yq,yq,yq,yq,yq,yq,yq,yq,yq,yq,yq,yq,yq,yq,yq,yq,yq,yq,yq,yq,nq,nq,nq,yq,yq,yq,yq,nq,nq,nq,yq,yq,nq,nq,nq,nq,nq,nq,nq] rfl rfl (take_ofW HT_.out HW_.out (by kernel_rfl)) (fun _ _ _ h => h) (Or.inl ⟨by rfl, ?_⟩) hHeld ?_ ?_
     rotate_left
     ·
      rintro w' ⟨s0, s1, s2, s3⟩
      go_simp
      with_reducible rfl
     rotate_left
     ·
      simp only [Act.put, List.setIfInBounds_toArray, List.set_cons_zero, List.set_cons_succ, i64_w, i32_w]
      rfl
     refine one_ (i := 25) (N := some 93) #[yq,yq,yq,yq,yq,yq,yq,yq,yq,yq,yq,yq,yq,yq,yq,yq,yq,yq,yq,yq,yq,yq,yq,yq,yq,yq,nq,nq,yq,yq,yq,yq,nq,nq,nq,yq,yq,nq,nq,nq,nq,nq,nq,nq] rfl rfl (one_of HT_.out (by kernel_rfl)) (by decide) (fun K hK => ?_)
     refine goes_ Try.func19 (by kernel_rfl) rfl #[.agg #[.int .i64 (t148 / 256), .int .i64 (t149 / 256)], .agg #[.int .i64 (t148 / 256), .int .i64 (t149 / 256)]] (by rfl) rfl rfl (by (try simp only [List.map_toArray, List.map_cons, List.map_nil]); first | done | rfl | (simp only [List.length_drop, List.length_take]; rfl)) ?_
     with_reducible refine (vec_Dot.calls k (t148 / 256) (t149 / 256) (t148 / 256) (t149 / 256) t158 _ A20.out).mono ?_
     rintro e w48 ⟨rfl, hb⟩
     refine ⟨_, rfl, ?_⟩
     have n0_ := Aside0.mk (blk_below (g := gb150) (o := .cells #[.int .i64 (t146 / 256), .int .i64 (t147 / 256)] 24 (0, 0)) (by (with_reducible repeat (first | refine blk_drewN ?_ _ | refine blk_drew ?_ | refine blk_alloc ?_ _)); exact BK150.out) hb)
     have n1_ := Aside0.mk (blk_below (g := gb151) (o := .cells #[.int .i64 (t148 / 256), .int .i64 (t149 / 256)] 24 (0, 0)) (by (with_reducible repeat (first | refine blk_drewN ?_ _ | refine blk_drew ?_ | refine blk_alloc ?_ _)); exact BK151.out) hb)
     have n2_ := Aside0.mk (below_step (by repeat (first | (with_reducible first | exact HB.out | apply below_alloc | apply pw_below_drewN | apply below_drew1 | refine below_set ?_ GE150.out | refine below_set ?_ GE151.out) | exact HB.out)) hb)
     clear BK150
     clear BK151
     clear HB
     have BK150 := n0_
     have BK151 := n1_
     have HB := n2_
     clear n0_ n1_ n2_
     (try clear hb)
     (try clear hb2)
     (try clear hk)
     (try clear hi)
     refine hK.out _ _ ⟨(blk_cell BK151.out 0).trans rfl, (blk_cell BK151.out 1).trans rfl, (blk_cell BK150.out 0).trans rfl, (blk_cell BK150.out 1).trans rfl⟩ (fun hHeld => ?_)
     clear hK K
     refine norm_ (a' := ?_) ?_ ?_
     rotate_left
     ·
      show Act.put _ (some 93) _ = _
      simp only [Act.put, List.setIfInBounds_toArray, List.set_cons_zero, List.set_cons_succ, i64_w, i32_w]
      rfl
     refine pure_ (i := 26) (N := some 94) (v := ?_) (a' := ?_) #[yq,yq,yq,yq,yq,yq,yq,yq,yq,yq,yq,yq,yq,yq,yq,yq,yq,yq,yq,yq,yq,yq,yq,yq,yq,yq,yq,nq,yq,yq,yq,yq,nq,nq,nq,yq,yq,nq,nq,nq,nq,nq,nq,nq] rfl rfl (any_of HT_.out (by kernel_rfl)) (fun _ _ _ h => h) (Or.inl ⟨by rfl, ?_⟩) ?_ ?_
     rotate_left
     ·
      intro w'
      go_simp
      with_reducible rfl
     rotate_left
     ·
      simp only [Act.put, List.setIfInBounds_toArray, List.set_cons_zero, List.set_cons_succ, i64_w, i32_w]
      rfl
     refine pure_ (i := 27) (N := some 95) (v := ?_) (a' := ?_) #[yq,yq,yq,yq,yq,yq,yq,yq,yq,yq,yq,yq,yq,yq,yq,yq,yq,yq,yq,yq,yq,yq,yq,yq,yq,yq,yq,yq,yq,yq,yq,yq,nq,nq,nq,yq,yq,nq,nq,nq,nq,nq,nq,nq] rfl rfl (any_of HT_.out (by kernel_rfl)) (fun _ _ _ h => h) (Or.inl ⟨by rfl, ?_⟩) ?_ ?_
     rotate_left
     ·
      intro w'
      go_simp
      with_reducible rfl
     rotate_left
     ·
      simp only [Act.put, List.setIfInBounds_toArray, List.set_cons_zero, List.set_cons_succ, i64_w, i32_w]
      rfl
     refine one_ (i := 32) (N := some 100) #[yq,yq,yq,yq,yq,yq,yq,yq,yq,yq,yq,yq,yq,yq,yq,yq,yq,yq,yq,yq,yq,yq,yq,yq,yq,yq,yq,yq,yq,yq,yq,yq,yq,nq,nq,yq,yq,nq,nq,nq,nq,nq,nq,nq] rfl rfl (one_of HT_.out (by kernel_rfl)) (by decide) (fun K hK => ?_)
     refine goes_ Try.func19 (by kernel_rfl) rfl #[.agg #[.int .i64 (t146 / 256), .int .i64 (t147 / 256)], .agg #[.int .i64 (t146 / 256), .int .i64 (t147 / 256)]] (by rfl) rfl rfl (by (try simp only [List.map_toArray, List.map_cons, List.map_nil]); first | done | rfl | (simp only [List.length_drop, List.length_take]; rfl)) ?_
     with_reducible refine (vec_Dot.calls k (t146 / 256) (t147 / 256) (t146 / 256) (t147 / 256) t159 _ A21.out).mono ?_
     rintro e w49 ⟨rfl, hb⟩
     refine ⟨_, rfl, ?_⟩
     have n0_ := Aside0.mk (blk_below (g := gb150) (o := .cells #[.int .i64 (t146 / 256), .int .i64 (t147 / 256)] 24 (0, 0)) (by (with_reducible repeat (first | refine blk_drewN ?_ _ | refine blk_drew ?_ | refine blk_alloc ?_ _)); exact BK150.out) hb)
     have n1_ := Aside0.mk (blk_below (g := gb151) (o := .cells #[.int .i64 (t148 / 256), .int .i64 (t149 / 256)] 24 (0, 0)) (by (with_reducible repeat (first | refine blk_drewN ?_ _ | refine blk_drew ?_ | refine blk_alloc ?_ _)); exact BK151.out) hb)
     have n2_ := Aside0.mk (below_step (by repeat (first | (with_reducible first | exact HB.out | apply below_alloc | apply pw_below_drewN | apply below_drew1 | refine below_set ?_ GE150.out | refine below_set ?_ GE151.out) | exact HB.out)) hb)
     clear BK150
     clear BK151
     clear HB
     have BK150 := n0_
     have BK151 := n1_
     have HB := n2_
     clear n0_ n1_ n2_
     (try clear hb)
     (try clear hb2)
     (try clear hk)
     (try clear hi)
     refine hK.out _ _ ⟨(blk_cell BK151.out 0).trans rfl, (blk_cell BK151.out 1).trans rfl, (blk_cell BK150.out 0).trans rfl, (blk_cell BK150.out 1).trans rfl⟩ (fun hHeld => ?_)
     clear hK K
     refine norm_ (a' := ?_) ?_ ?_
     rotate_left
     ·
      show Act.put _ (some 100) _ = _
      simp only [Act.put, List.setIfInBounds_toArray, List.set_cons_zero, List.set_cons_succ, i64_w, i32_w]
      rfl
     refine pure_ (i := 33) (N := some 101) (v := ?_) (a' := ?_) #[yq,yq,yq,yq,yq,yq,yq,yq,yq,yq,yq,yq,yq,yq,yq,yq,yq,yq,yq,yq,yq,yq,yq,yq,yq,yq,yq,yq,yq,yq,yq,yq,yq,yq,nq,yq,yq,nq,nq,nq,nq,nq,nq,nq] rfl rfl (any_of HT_.out (by kernel_rfl)) (fun _ _ _ h => h) (Or.inl ⟨by rfl, ?_⟩) ?_ ?_
     rotate_left
     ·
      intro w'
      go_simp
      with_reducible rfl
     rotate_left
     ·
      simp only [Act.put, List.setIfInBounds_toArray, List.set_cons_zero, List.set_cons_succ, i64_w, i32_w]
      rfl
     refine pure_ (i := 34) (N := some 102) (v := ?_) (a' := ?_) #[yq,yq,yq,yq,yq,yq,yq,yq,yq,yq,yq,yq,yq,yq,yq,yq,yq,yq,yq,yq,yq,yq,yq,yq,yq,yq,yq,yq,yq,yq,yq,yq,yq,yq,yq,yq,yq,nq,nq,nq,nq,nq,nq,nq] rfl rfl (any_of HT_.out (by kernel_rfl)) (fun _ _ _ h => h) (Or.inl ⟨by rfl, ?_⟩) ?_ ?_
     rotate_left
     ·
      intro w'
      go_simp
      with_reducible rfl
     rotate_left
     ·
      simp only [Act.put, List.setIfInBounds_toArray, List.set_cons_zero, List.set_cons_succ, i64_w, i32_w]
      rfl
     refine one_ (i := 37) (N := some 105) #[yq,yq,yq,yq,yq,yq,yq,yq,yq,yq,yq,yq,yq,yq,yq,yq,yq,yq,yq,yq,yq,yq,yq,yq,yq,yq,yq,yq,yq,yq,yq,yq,yq,yq,yq,yq,yq,yq,nq,nq,nq,nq,nq,nq] rfl rfl (one_of HT_.out (by kernel_rfl)) (by decide) (fun K hK => ?_)
     refine goes_ Try.func19 (by kernel_rfl) rfl #[.agg #[.int .i64 (t148 / 256), .int .i64 (t149 / 256)], .agg #[.int .i64 (t148 / 256), .int .i64 (t149 / 256)]] (by rfl) rfl rfl (by (try simp only [List.map_toArray, List.map_cons, List.map_nil]); first | done | rfl | (simp only [List.length_drop, List.length_take]; rfl)) ?_
     with_reducible refine (vec_Dot.calls k (t148 / 256) (t149 / 256) (t148 / 256) (t149 / 256) t160 _ A22.out).mono ?_
     rintro e w50 ⟨rfl, hb⟩
     refine ⟨_, rfl, ?_⟩
     have n0_ := Aside0.mk (blk_below (g := gb150) (o := .cells #[.int .i64 (t146 / 256), .int .i64 (t147 / 256)] 24 (0, 0)) (by (with_reducible repeat (first | refine blk_drewN ?_ _ | refine blk_drew ?_ | refine blk_alloc ?_ _)); exact BK150.out) hb)
     have n1_ := Aside0.mk (blk_below (g := gb151) (o := .cells #[.int .i64 (t148 / 256), .int .i64 (t149 / 256)] 24 (0, 0)) (by (with_reducible repeat (first | refine blk_drewN ?_ _ | refine blk_drew ?_ | refine blk_alloc ?_ _)); exact BK151.out) hb)
     have n2_ := Aside0.mk (below_step (by repeat (first | (with_reducible first | exact HB.out | apply below_alloc | apply pw_below_drewN | apply below_drew1 | refine below_set ?_ GE150.out | refine below_set ?_ GE151.out) | exact HB.out)) hb)
     clear BK150
     clear BK151
     clear HB
     have BK150 := n0_
     have BK151 := n1_
     have HB := n2_
     clear n0_ n1_ n2_
     (try clear hb)
     (try clear hb2)
     (try clear hk)
     (try clear hi)
     refine hK.out _ _ ⟨(blk_cell BK151.out 0).trans rfl, (blk_cell BK151.out 1).trans rfl, (blk_cell BK150.out 0).trans rfl, (blk_cell BK150.out 1).trans rfl⟩ (fun hHeld => ?_)
     clear hK K
     refine norm_ (a' := ?_) ?_ ?_
     rotate_left
     ·
      show Act.put _ (some 105) _ = _
      simp only [Act.put, List.setIfInBounds_toArray, List.set_cons_zero, List.set_cons_succ, i64_w, i32_w]
      rfl
     refine pure_ (i := 38) (N := some 106) (v := ?_) (a' := ?_) #[yq,yq,yq,yq,yq,yq,yq,yq,yq,yq,yq,yq,yq,yq,yq,yq,yq,yq,yq,yq,yq,yq,yq,yq,yq,yq,yq,yq,yq,yq,yq,yq,yq,yq,yq,yq,yq,yq,yq,nq,nq,nq,nq,nq] rfl rfl (any_of HT_.out (by kernel_rfl)) (fun _ _ _ h => h) (Or.inl ⟨by rfl, ?_⟩) ?_ ?_
     rotate_left
     ·
      intro w'
      go_simp
      with_reducible rfl
     rotate_left
     ·
      simp only [Act.put, List.setIfInBounds_toArray, List.set_cons_zero, List.set_cons_succ, i64_w, i32_w]
      rfl
     refine pure_ (i := 39) (N := some 107) (v := ?_) (a' := ?_) #[yq,yq,yq,yq,yq,yq,yq,yq,yq,yq,yq,yq,yq,yq,yq,yq,yq,yq,yq,yq,yq,yq,yq,yq,yq,yq,yq,yq,yq,yq,yq,yq,yq,yq,yq,yq,yq,yq,yq,yq,nq,nq,nq,nq] rfl rfl (any_of HT_.out (by kernel_rfl)) (fun _ _ _ h => h) (Or.inl ⟨by rfl, ?_⟩) ?_ ?_
     rotate_left
     ·
      intro w'
      go_simp
      with_reducible rfl
     rotate_left
     ·
      simp only [Act.put, List.setIfInBounds_toArray, List.set_cons_zero, List.set_cons_succ, i64_w, i32_w]
      rfl
     refine pure_ (i := 40) (N := some 108) (v := ?_) (a' := ?_) #[yq,yq,yq,yq,yq,yq,yq,yq,yq,yq,yq,yq,yq,yq,yq,yq,yq,yq,yq,yq,yq,yq,yq,yq,yq,yq,yq,yq,yq,yq,yq,yq,yq,yq,yq,yq,yq,yq,yq,yq,yq,nq,nq,nq] rfl rfl (any_of HT_.out (by kernel_rfl)) (fun _ _ _ h => h) (Or.inl ⟨by rfl, ?_⟩) ?_ ?_
     rotate_left
     ·
      intro w'
      go_simp
      with_reducible rfl
     rotate_left
     ·
      simp only [Act.put, List.setIfInBounds_toArray, List.set_cons_zero, List.set_cons_succ, i64_w, i32_w]
      rfl
     refine one_ (i := 41) (N := some 109) #[yq,yq,yq,yq,yq,yq,yq,yq,yq,yq,yq,yq,yq,yq,yq,yq,yq,yq,yq,yq,yq,yq,yq,yq,yq,yq,yq,yq,yq,yq,yq,yq,yq,yq,yq,yq,yq,yq,yq,yq,yq,yq,nq,nq] rfl rfl (one_of HT_.out (by kernel_rfl)) (by decide) (fun K hK => ?_)
     refine goes_ Try.func18 (by kernel_rfl) rfl #[.int .i64 (wrap64 (Int.tdiv (wrap64 ((wrap64 (t152 * t152)) + (wrap64 (t153 * t153)))) 65536)), .int .i64 (wrap64 (Int.tdiv (wrap64 (t154 * t158)) 65536)), .int .i64 (wrap64 ((wrap64 ((wrap64 ((wrap64 (Int.tdiv (wrap64 ((wrap64 ((wrap64 (2 * (ji11))) + (wrap64 (2 * (ji12))))) + 2)) 65536)) + (wrap64 (Int.tdiv t159 65536)))) + (wrap64 (Int.tdiv t160 65536)))) + 5))] (by rfl) rfl rfl (by (try simp only [List.map_toArray, List.map_cons, List.map_nil]); first | done | (simp only [hji11, hji12]; rfl) | rfl | (simp only [List.length_drop, List.length_take]; rfl)) ?_
     with_reducible refine (tourkeep1_near.calls (wrap64 (Int.tdiv (wrap64 ((wrap64 (t152 * t152)) + (wrap64 (t153 * t153)))) 65536)) (wrap64 (Int.tdiv (wrap64 (t154 * t158)) 65536)) (wrap64 ((wrap64 ((wrap64 ((wrap64 (Int.tdiv (wrap64 ((wrap64 ((wrap64 (2 * (ji11))) + (wrap64 (2 * (ji12))))) + 2)) 65536)) + (wrap64 (Int.tdiv t159 65536)))) + (wrap64 (Int.tdiv t160 65536)))) + 5)) t161 _ A23.out).mono ?_
     rintro e w' ⟨rfl, ⟨nd, rfl⟩⟩
     refine ⟨_, rfl, ?_⟩
     refine hK.out _ _ ⟨(blk_cell BK151.out 0).trans rfl, (blk_cell BK151.out 1).trans rfl, (blk_cell BK150.out 0).trans rfl, (blk_cell BK150.out 1).trans rfl⟩ (fun hHeld => ?_)
     clear hK K
     refine norm_ (a' := ?_) ?_ ?_
     rotate_left
     ·
      show Act.put _ (some 109) _ = _
      simp only [Act.put, List.setIfInBounds_toArray, List.set_cons_zero, List.set_cons_succ, i64_w, i32_w]
      rfl
     refine pure_ (i := 42) (N := some 110) (v := ?_) (a' := ?_) #[yq,yq,yq,yq,yq,yq,yq,yq,yq,yq,yq,yq,yq,yq,yq,yq,yq,yq,yq,yq,yq,yq,yq,yq,yq,yq,yq,yq,yq,yq,yq,yq,yq,yq,yq,yq,yq,yq,yq,yq,yq,yq,yq,nq] rfl rfl (any_of HT_.out (by kernel_rfl)) (fun _ _ _ h => h) (Or.inl ⟨by rfl, ?_⟩) ?_ ?_
     rotate_left
     ·
      intro w'
      go_simp
      with_reducible rfl
     rotate_left
     ·
      simp only [Act.put, List.setIfInBounds_toArray, List.set_cons_zero, List.set_cons_succ, i64_w, i32_w]
      rfl
     refine pure_ (i := 43) (N := some 8) (v := ?_) (a' := ?_) #[yq,yq,yq,yq,yq,yq,yq,yq,yq,yq,yq,yq,yq,yq,yq,yq,yq,yq,yq,yq,yq,yq,yq,yq,yq,yq,yq,yq,yq,yq,yq,yq,yq,yq,yq,yq,yq,yq,yq,yq,yq,yq,yq,yq] rfl rfl (any_of HT_.out (by kernel_rfl)) (fun _ _ _ h => h) (Or.inl ⟨by rfl, ?_⟩) ?_ ?_
     rotate_left
     ·
      intro w'
      go_simp
      with_reducible rfl
     rotate_left
     ·
      simp only [Act.put, List.setIfInBounds_toArray, List.set_cons_zero, List.set_cons_succ, i64_w, i32_w]
      rfl
     refine done_ (done_of HT_.out (by kernel_rfl)) ?_
     try go_wp2
     go_ret
     exact ⟨by first | rfl | (simp [errW_none, errW_some] <;> rfl) | (simp only [← hji11, ← hji12]; first | rfl | (simp [errW_none, errW_some] <;> rfl)) | (simp [*, errW_none, errW_some] <;> rfl), by repeat (first | (with_reducible first | exact HB.out | apply below_alloc | apply pw_below_drewN | apply below_drew1 | refine below_set ?_ GE150.out | refine below_set ?_ GE151.out) | exact HB.out)⟩
    ·
     rw [if_neg c19] at H
     have c19b0 : (t157 == 0) = false := beq_eq_false_iff_ne.mpr c19
     have c19b1 : (t157 != 0) = true := bne_iff_ne.mpr c19
     exact absurd H (by simp)
   ·
    rw [if_neg c17] at H
    have c17b0 : (t156 == (wrap64 (-t153))) = false := beq_eq_false_iff_ne.mpr c17
    have c17b1 : (t156 != (wrap64 (-t153))) = true := bne_iff_ne.mpr c17
    exact absurd H (by simp)
  ·
   rw [if_neg c15] at H
   have c15b0 : (t155 == t152) = false := beq_eq_false_iff_ne.mpr c15
   have c15b1 : (t155 != t152) = true := bne_iff_ne.mpr c15
   exact absurd H (by simp)
 ·
  replace c6 := Bool.eq_false_iff.mpr c6
  subst c6
  have H1 : (none) = some r := by rw [if_neg (show ¬ (false = true) by decide)] at H; exact H
  clear H
  have H := H1
  clear H1
  exact absurd H (by simp)

/-- THE ONE PURE STATEMENT of tourkeep1_VecProducts: yours. -/
def tourkeep1_VecProducts.Pure : Prop := ∀ (a0 : Int) (a1 : Int) (a2 : Int) (a3 : Int), (Lit.int .i64 a0).wf = true → (Lit.int .i64 a1).wf = true → (Lit.int .i64 a2).wf = true → (Lit.int .i64 a3).wf = true → ∃ k, tourkeep1_VecProducts.f k a0 a1 a2 a3 = some true
theorem tourkeep1_VecProducts.walk (P : tourkeep1_VecProducts.Pure) (a0 : Int) (a1 : Int) (a2 : Int) (a3 : Int) (w : World) (w0 : (Lit.int .i64 a0).wf = true) (w1 : (Lit.int .i64 a1).wf = true) (w2 : (Lit.int .i64 a2).wf = true) (w3 : (Lit.int .i64 a3).wf = true) :
  Calls Try.prog 5 #[.int .i64 a0, .int .i64 a1, .int .i64 a2, .int .i64 a3] w fun e w' => e = .returned (.bool true) ∧ Below w.heap.size w w' := by
 obtain ⟨k, h⟩ := P a0 a1 a2 a3 w0 w1 w2 w3
 refine (tourkeep1_VecProducts.calls k a0 a1 a2 a3 true w h).mono ?_
 rintro e w' ⟨rfl, hd⟩
 exact ⟨rfl, hd⟩

end Go.Proofs.Ytnadffanmnbfcaa.P
