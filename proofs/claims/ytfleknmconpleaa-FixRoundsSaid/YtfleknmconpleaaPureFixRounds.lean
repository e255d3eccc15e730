/- The plain statement of FixRounds: for every input the law's printed function returns true. No condition. -/
import Derived.Test.YtfleknmconpleaaPAllx8
import Derived.Test.YtfleknmconpleaaQFix
namespace Go.Proofs.Ytfleknmconpleaa.Pure
open Go Go.RowKit Go.Proofs.Ytfleknmconpleaa.P Go.Proofs.Ytfleknmconpleaa.QDiv Go.Proofs.Ytfleknmconpleaa.QFix Go.Proofs.YtfleknmconpleaaW.PrintWords Go.Proofs.YtfleknmconpleaaW.PrintLast Go.Proofs.YtfleknmconpleaaW.PrintMore

theorem FixRounds : tourkeep1_FixRounds.Pure := by
  intro a0 a1 _ _
  have hb : tourkeep1_fixBegun.f 100 = some true := by decide +kernel
  refine ⟨100, ?_⟩
  unfold tourkeep1_FixRounds.f
  rw [hb]
  simp only [Option.bind_some, if_true]
  rw [number_f _ _ (by omega) (by omega), number_f _ _ (by omega) (by omega)]
  simp only [Option.bind_some]
  have ha := number_range a0 134217728 (by omega)
  have hc := number_range a1 134217728 (by omega)
  generalize a0 % (2 * 134217728 + 1) - 134217728 = a at *
  generalize a1 % (2 * 134217728 + 1) - 134217728 = b at *
  rw [mul_f _ _ _ (by omega)]
  simp only [Option.bind_some]
  have p0 : -(134217728 * 134217728) ≤ a * b ∧ a * b ≤ 134217728 * 134217728 := by
    have h1 : 0 ≤ (134217728 - a) * (134217728 + b) := Int.mul_nonneg (by omega) (by omega)
    have h2 : 0 ≤ (134217728 + a) * (134217728 - b) := Int.mul_nonneg (by omega) (by omega)
    have h3 : 0 ≤ (134217728 - a) * (134217728 - b) := Int.mul_nonneg (by omega) (by omega)
    have h4 : 0 ≤ (134217728 + a) * (134217728 + b) := Int.mul_nonneg (by omega) (by omega)
    constructor
    · grind
    · grind
  have hm : mulI a b = rnd (a * b) 65536 := by
    unfold mulI
    rw [clamp_in a (by omega) (by omega), clamp_in b (by omega) (by omega)]
    have := rnd_bounds (a * b) 65536 (by omega)
    exact clamp_in _ (by omega) (by omega)
  have hr := rnd_bounds (a * b) 65536 (by omega)
  rw [hm]
  generalize rnd (a * b) 65536 = r at *
  generalize a * b = p at *
  rw [wrap64_in (r * 65536) (by omega) (by omega), wrap64_in p (by omega) (by omega), wrap64_in _ (by omega) (by omega), if_pos (by omega), decide_eq_true (by omega)]

end Go.Proofs.Ytfleknmconpleaa.Pure
