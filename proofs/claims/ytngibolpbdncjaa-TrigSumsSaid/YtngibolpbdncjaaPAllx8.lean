/- Functions of this seat in plain Lean and their contracts, written by a turned copy of the kit's print (turns: wip/pr/make.py of this session). No condition. -/
import Derived.Test.YtngibolpbdncjaaPAllx0
namespace Go.Proofs.Ytngibolpbdncjaa.P
open Go.RowKit Go.Proofs.YtngibolpbdncjaaW.PrintWords Go.Proofs.YtngibolpbdncjaaW.PrintLast Go.Proofs.YtngibolpbdncjaaW.PrintMore
attribute [local go_sem] max2_int min2_int max_two min_two max_three min_three max_four min_four   -- for this text's walks alone
attribute [local go_sem] bld46
set_option linter.unusedVariables false
set_option linter.unusedSimpArgs false

/-! ### vec_through: function 43 -/
def vec_through.f (a0 : Int) (a1 : Int) : Option (Int) := if (wrap64 (2 * a1)) = 0 then (none) else (if (wrap64 ((wrap64 ((wrap64 (2 * a0)) * 65536)) + a1)) < 0 then (if (Int.tmod (wrap64 ((wrap64 ((wrap64 (2 * a0)) * 65536)) + a1)) (wrap64 (2 * a1))) = 0 then (some (wrap64 (Int.tdiv (wrap64 ((wrap64 ((wrap64 (2 * a0)) * 65536)) + a1)) (wrap64 (2 * a1))))) else (some (wrap64 ((wrap64 (Int.tdiv (wrap64 ((wrap64 ((wrap64 (2 * a0)) * 65536)) + a1)) (wrap64 (2 * a1)))) - 1)))) else (some (wrap64 (Int.tdiv (wrap64 ((wrap64 ((wrap64 (2 * a0)) * 65536)) + a1)) (wrap64 (2 * a1))))))
set_option maxHeartbeats 8000000 in
set_option maxRecDepth 100000 in
theorem vec_through.calls (a0 : Int) (a1 : Int) (r : Int) (w : World) (h : vec_through.f a0 a1 = some r) :
    Calls Try.prog 43 #[.int .i64 a0, .int .i64 a1] w fun e w' => e = .returned (.int .i64 r) ∧ Drawn0 w w' := by
  have H : (if (wrap64 (2 * a1)) = 0 then (none) else (if (wrap64 ((wrap64 ((wrap64 (2 * a0)) * 65536)) + a1)) < 0 then (if (Int.tmod (wrap64 ((wrap64 ((wrap64 (2 * a0)) * 65536)) + a1)) (wrap64 (2 * a1))) = 0 then (some (wrap64 (Int.tdiv (wrap64 ((wrap64 ((wrap64 (2 * a0)) * 65536)) + a1)) (wrap64 (2 * a1))))) else (some (wrap64 ((wrap64 (Int.tdiv (wrap64 ((wrap64 ((wrap64 (2 * a0)) * 65536)) + a1)) (wrap64 (2 * a1)))) - 1)))) else (some (wrap64 (Int.tdiv (wrap64 ((wrap64 ((wrap64 (2 * a0)) * 65536)) + a1)) (wrap64 (2 * a1))))))) = some r := h
  clear h
  by_cases c3 : (wrap64 (2 * a1)) = 0
  · rw [if_pos c3] at H
    exact absurd H (by simp)
  · rw [if_neg c3] at H
    have c3b0 : ((wrap64 (2 * a1)) == 0) = false := beq_eq_false_iff_ne.mpr c3
    have c3b1 : ((wrap64 (2 * a1)) != 0) = true := bne_iff_ne.mpr c3
    by_cases c4 : (wrap64 ((wrap64 ((wrap64 (2 * a0)) * 65536)) + a1)) < 0
    · rw [if_pos c4] at H
      have c4b0 : decide ((wrap64 ((wrap64 ((wrap64 (2 * a0)) * 65536)) + a1)) < 0) = true := decide_eq_true c4
      clear c4
      by_cases c5 : (Int.tmod (wrap64 ((wrap64 ((wrap64 (2 * a0)) * 65536)) + a1)) (wrap64 (2 * a1))) = 0
      · rw [if_pos c5] at H
        have c5b0 : ((Int.tmod (wrap64 ((wrap64 ((wrap64 (2 * a0)) * 65536)) + a1)) (wrap64 (2 * a1))) == 0) = true := beq_iff_eq.mpr c5
        have c5b1 : ((Int.tmod (wrap64 ((wrap64 ((wrap64 (2 * a0)) * 65536)) + a1)) (wrap64 (2 * a1))) != 0) = false := bne_eq_false_iff_eq.mpr c5
        clear c5
        obtain rfl := Option.some.inj H
        go_enter Try.func43, Try.ntmps43
        go_wp2
        go_ret
        exact ⟨by first | rfl | (simp; done) | (simp [*]; done), by repeat (first | exact Drawn0.refl _ | apply Drawn0.step)⟩
      · rw [if_neg c5] at H
        have c5b0 : ((Int.tmod (wrap64 ((wrap64 ((wrap64 (2 * a0)) * 65536)) + a1)) (wrap64 (2 * a1))) == 0) = false := beq_eq_false_iff_ne.mpr c5
        have c5b1 : ((Int.tmod (wrap64 ((wrap64 ((wrap64 (2 * a0)) * 65536)) + a1)) (wrap64 (2 * a1))) != 0) = true := bne_iff_ne.mpr c5
        obtain rfl := Option.some.inj H
        go_enter Try.func43, Try.ntmps43
        go_wp2
        go_ret
        exact ⟨by first | rfl | (simp; done) | (simp [*]; done), by repeat (first | exact Drawn0.refl _ | apply Drawn0.step)⟩
    · rw [if_neg c4] at H
      have c4b0 : decide ((wrap64 ((wrap64 ((wrap64 (2 * a0)) * 65536)) + a1)) < 0) = false := decide_eq_false c4
      clear c4
      obtain rfl := Option.some.inj H
      go_enter Try.func43, Try.ntmps43
      go_wp2
      go_ret
      exact ⟨by first | rfl | (simp; done) | (simp [*]; done), by repeat (first | exact Drawn0.refl _ | apply Drawn0.step)⟩

end Go.Proofs.Ytngibolpbdncjaa.P
