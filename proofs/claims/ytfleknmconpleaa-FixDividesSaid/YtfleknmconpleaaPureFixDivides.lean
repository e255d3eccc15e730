/- The plain statement of FixDivides: for every input the law's printed function returns true. No condition. -/
import Derived.Test.YtfleknmconpleaaPAllx9
import Derived.Test.YtfleknmconpleaaQFix
namespace Go.Proofs.Ytfleknmconpleaa.Pure
open Go Go.RowKit Go.Proofs.Ytfleknmconpleaa.P Go.Proofs.Ytfleknmconpleaa.QDiv Go.Proofs.Ytfleknmconpleaa.QFix Go.Proofs.YtfleknmconpleaaW.PrintWords Go.Proofs.YtfleknmconpleaaW.PrintLast Go.Proofs.YtfleknmconpleaaW.PrintMore

theorem FixDivides : tourkeep1_FixDivides.Pure := by
  intro a0 a1 _ _
  have hb : tourkeep1_fixBegun.f 100 = some true := by decide +kernel
  refine ⟨100, ?_⟩
  unfold tourkeep1_FixDivides.f
  rw [hb]
  simp only [Option.bind_some, if_true]
  rw [number_f _ _ (by omega) (by omega), number_f _ _ (by omega) (by omega)]
  simp only [Option.bind_some]
  have ha := number_range a0 1073741824 (by omega)
  have hc := number_range a1 1073741824 (by omega)
  generalize a0 % (2 * 1073741824 + 1) - 1073741824 = a at *
  generalize a1 % (2 * 1073741824 + 1) - 1073741824 = b at *
  unfold fix_Div.f
  by_cases h0 : b = 0
  · rw [if_pos h0]
    simp only [Option.bind_some]
    rw [if_pos h0, if_pos trivial]; rfl
  rw [if_neg h0, muldiv_f _ _ _ _ (by omega)]
  simp only [Option.bind_some]
  rw [if_neg h0, if_pos trivial, mx_eq]
  show tourkeep1_FixDivides.j0 (99 + 1) a b (mdI a 65536 b) 0 _ = some true
  simp only [tourkeep1_FixDivides.j0]
  by_cases hm : (max (mdI a 65536 b) (wrap64 (-mdI a 65536 b)) == 1099511627776) = true
  · rw [if_pos hm]; rfl
  rw [if_neg hm]
  -- the quotient was not clamped
  obtain ⟨s, hs, d, hd0, hd1, hbd, hq⟩ : ∃ s : Int, (s = 1 ∨ s = -1) ∧ ∃ d : Int, 0 < d ∧ d ≤ 1073741824 ∧ b = s * d ∧ mdI a 65536 b = clampI (rnd (s * a * 65536) d) := by
    unfold mdI
    rw [clamp_in a (by omega) (by omega), clamp_in b (by omega) (by omega), clamp_in 65536 (by omega) (by omega), if_neg h0]
    by_cases hb0 : 0 < b
    · exact ⟨1, Or.inl rfl, b, hb0, by omega, by omega, by rw [if_pos hb0, Int.one_mul]⟩
    · refine ⟨-1, Or.inr rfl, -b, by omega, by omega, by omega, ?_⟩
      rw [if_neg hb0]; congr 2; omega
  rw [hq] at hm ⊢
  have hb := rnd_bounds (s * a * 65536) d hd0
  have hcr : clampI (rnd (s * a * 65536) d) = rnd (s * a * 65536) d := by
    unfold clampI at hm ⊢
    rw [beq_iff_eq, wrap64_in _ (by omega) (by omega)] at hm
    omega
  have hr := clamp_range (rnd (s * a * 65536) d)
  rw [hcr] at hm hr ⊢
  generalize rnd (s * a * 65536) d = q at *
  rw [mul_f _ _ _ (by omega)]
  simp only [Option.bind_some]
  have hqb : q * b = s * (q * d) := by rw [hbd]; grind
  have hw0 : max b (-b) = d := by rcases hs with h | h <;> subst h <;> omega
  have hdist : 2 * (q * b - a * 65536) ≤ d ∧ -d ≤ 2 * (q * b - a * 65536) := by
    rw [hqb]
    rcases hs with h | h <;> subst h <;> omega
  have hr2 := rnd_bounds (q * b) 65536 (by omega)
  have hmul : mulI q b = rnd (q * b) 65536 := by
    unfold mulI
    rw [clamp_in q hr.1 hr.2, clamp_in b (by omega) (by omega)]
    exact clamp_in _ (by omega) (by omega)
  rw [hmul]
  generalize rnd (q * b) 65536 = m at *
  generalize q * b = p at *
  rw [wrap64_in (-b) (by omega) (by omega), mx_eq, hw0, Int.tdiv_eq_ediv_of_nonneg (a := d) (by omega), wrap64_in (d / 65536) (by omega) (by omega), Int.tdiv_eq_ediv_of_nonneg (by omega), wrap64_in (d / 65536 / 2) (by omega) (by omega), wrap64_in _ (by omega) (by omega), near_f _ _ _ (by omega) (by omega), decide_eq_true (by omega)]
  rfl
end Go.Proofs.Ytfleknmconpleaa.Pure
