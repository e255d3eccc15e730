/- The plain statement of FixSigns: for every input the law's printed function returns true. No condition. -/
import Derived.Test.YtfleknmconpleaaPAllx7
import Derived.Test.YtfleknmconpleaaQFix
namespace Go.Proofs.Ytfleknmconpleaa.Pure
open Go Go.RowKit Go.Proofs.Ytfleknmconpleaa.P Go.Proofs.Ytfleknmconpleaa.QDiv Go.Proofs.Ytfleknmconpleaa.QFix Go.Proofs.YtfleknmconpleaaW.PrintWords Go.Proofs.YtfleknmconpleaaW.PrintLast Go.Proofs.YtfleknmconpleaaW.PrintMore

theorem FixSigns : tourkeep1_FixSigns.Pure := by
  intro a0 a1 _ _
  have hb : tourkeep1_fixBegun.f 100 = some true := by decide +kernel
  refine ⟨100, ?_⟩
  unfold tourkeep1_FixSigns.f
  rw [hb]
  simp only [Option.bind_some, if_true, clamp_f, add_f, sub_f]
  have ha := clamp_range a0
  have hc := clamp_range a1
  rw [mul_f _ _ _ (by omega), mul_f _ _ _ (by omega), mul_f _ _ _ (by omega), mul_f _ _ _ (by omega), muldiv_f _ _ _ _ (by omega)]
  simp only [Option.bind_some]
  have e1 : clampI (clampI a0 + clampI a1) = clampI (clampI a1 + clampI a0) := by rw [Int.add_comm]
  have e2 : mulI a0 a1 = mulI a1 a0 := by unfold mulI; rw [Int.mul_comm]
  have e3 : mulI a0 65536 = clampI a0 := by
    unfold mulI
    rw [clamp_in 65536 (by omega) (by omega), rnd_mul _ _ (by omega), clamp_in _ ha.1 ha.2]
  have w : wrap64 (-clampI a0) = -clampI a0 := wrap64_in _ (by omega) (by omega)
  have e4 : mulI a0 (-65536) = -clampI a0 := by
    unfold mulI
    rw [clamp_in (-65536) (by omega) (by omega), show clampI a0 * -65536 = (-clampI a0) * 65536 by omega, rnd_mul _ _ (by omega), clamp_in _ (by omega) (by omega)]
  have e5 : clampI (clampI (clampI a0) + clampI (-clampI a0)) = 0 := by
    rw [clamp_in (clampI a0) ha.1 ha.2, clamp_in (-clampI a0) (by omega) (by omega)]; unfold clampI; omega
  have e6 : clampI (clampI a0 - clampI a0) = 0 := by unfold clampI; omega
  have w2 : wrap64 (-clampI a1) = -clampI a1 := wrap64_in _ (by omega) (by omega)
  rw [w, e3, e4, e5, e6, w2, if_pos e1, if_pos e2, if_pos rfl, if_pos rfl, if_pos rfl, if_pos rfl, mx_eq, mn_eq]
  have e7 : mdI a0 a1 a1 = clampI a0 * min 1 (max (clampI a1) (-clampI a1)) := by
    unfold mdI
    generalize clampI a1 = B at *
    by_cases h : B = 0
    · rw [if_pos h, h, show min 1 (max (0 : Int) (-0)) = 0 by omega, Int.mul_zero]
    · rw [if_neg h, show min 1 (max B (-B)) = 1 by omega, Int.mul_one]
      by_cases h2 : 0 < B
      · rw [if_pos h2, rnd_mul _ _ h2, clamp_in _ ha.1 ha.2]
      · rw [if_neg h2, show -(clampI a0 * B) = clampI a0 * -B by grind, rnd_mul _ _ (by omega), clamp_in _ ha.1 ha.2]
  have e8 : -1099511627776 ≤ clampI a0 * min 1 (max (clampI a1) (-clampI a1)) ∧ clampI a0 * min 1 (max (clampI a1) (-clampI a1)) ≤ 1099511627776 := by
    have : min 1 (max (clampI a1) (-clampI a1)) = 0 ∨ min 1 (max (clampI a1) (-clampI a1)) = 1 := by omega
    rcases this with h | h <;> rw [h] <;> omega
  rw [wrap64_in _ (by omega) (by omega), e7]
  simp

end Go.Proofs.Ytfleknmconpleaa.Pure
