/- The plain statement of FixRoot: for every input the law's printed function returns true. No condition. -/
import Derived.Test.YtfleknmconpleaaPAllx10
import Derived.Test.YtfleknmconpleaaQFix
import Derived.Test.YtfleknmconpleaaQRoot
namespace Go.Proofs.Ytfleknmconpleaa.Pure
open Go Go.RowKit Go.Proofs.Ytfleknmconpleaa.P Go.Proofs.Ytfleknmconpleaa.QDiv Go.Proofs.Ytfleknmconpleaa.QFix Go.Proofs.Ytfleknmconpleaa.QRoot Go.Proofs.YtfleknmconpleaaW.PrintWords Go.Proofs.YtfleknmconpleaaW.PrintLast Go.Proofs.YtfleknmconpleaaW.PrintMore

theorem FixRoot : tourkeep1_FixRoot.Pure := by
  intro a0 _
  have hb : tourkeep1_fixBegun.f 100 = some true := by decide +kernel
  refine ⟨100, ?_⟩
  unfold tourkeep1_FixRoot.f fix_Sqrt.f
  rw [hb]
  simp only [Option.bind_some, if_true, clamp_f]
  have ha := clamp_range a0
  generalize clampI a0 = x at *
  rw [mx_eq]
  by_cases h : x ≤ 0
  · rw [if_pos h]
    simp only [Option.bind_some]
    rw [show max x 0 = 0 by omega]
    decide +kernel
  rw [if_neg h]
  have w1 : IntKind.u64.wrap (IntKind.u64.wrap x * 65536) = x * 65536 := by simp only [IntKind.wrap_u64]; omega
  rw [w1]
  obtain ⟨r, hr, r0, r1, r2, r3⟩ := root_f 0 (x * 65536) (by omega) (by omega) (by omega) (by omega) 100 (by omega)
  rw [hr]
  simp only [Option.bind_some]
  have hle : r ≤ 268435456 := by
    by_cases hc : r ≤ 268435456
    · exact hc
    · have := Int.mul_le_mul (show 268435457 ≤ r by omega) (show 268435457 ≤ r by omega) (by omega) (by omega)
      omega
  have e : (r + 1) * (r + 1) = r * r + 2 * r + 1 := by grind
  have r4 : 0 ≤ r * r := Int.mul_nonneg r0 r0
  rw [wrap64_in r (by omega) (by omega), show max x 0 = x by omega, if_pos (by omega), if_pos hle, wrap64_in (r + 1) (by omega) (by omega), e]
  rw [e] at r3
  generalize r * r = q at *
  rw [wrap64_in q (by omega) (by omega), wrap64_in (x * 65536) (by omega) (by omega), wrap64_in _ (by omega) (by omega), if_pos (by omega), decide_eq_true (by omega)]

end Go.Proofs.Ytfleknmconpleaa.Pure
