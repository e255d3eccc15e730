/- The plain statement of TrigQuarters: for every input the law's printed function returns true. No condition. -/
import Derived.Test.YtfleknmconpleaaPAllx17
import Derived.Test.YtfleknmconpleaaQTrig
namespace Go.Proofs.Ytfleknmconpleaa.Pure
open Go Go.RowKit Go.Proofs.Ytfleknmconpleaa.P Go.Proofs.Ytfleknmconpleaa.QDiv Go.Proofs.Ytfleknmconpleaa.QFix Go.Proofs.Ytfleknmconpleaa.QTrig Go.Proofs.YtfleknmconpleaaW.PrintWords Go.Proofs.YtfleknmconpleaaW.PrintLast Go.Proofs.YtfleknmconpleaaW.PrintMore

theorem TrigQuarters : tourkeep1_TrigQuarters.Pure := by
  intro a0 a1 _ _
  have hb : tourkeep1_trigBegun.f 30000 = some true := at_rounds tourkeep1_trigBegun.mono (show 100 ≤ 30000 by omega) (by decide +kernel)
  refine ⟨30000, ?_⟩
  unfold tourkeep1_TrigQuarters.f
  rw [hb]
  simp only [Option.bind_some, if_true, clamp_f]
  have hy := clamp_range a0
  have hx := clamp_range a1
  generalize clampI a0 = y at *
  generalize clampI a1 = x at *
  rw [wrap64_in (-y) (by omega) (by omega), atan_f y x hx.1 hx.2 hy.1 hy.2 _ (by omega), atan_f x (-y) (by omega) (by omega) hx.1 hx.2 _ (by omega)]
  have fin : ∀ (t R : Int), 0 ≤ R → R < 16384 → 0 ≤ t → t ≤ 3 → ¬ (x = 0 ∧ y = 0) → ∀ (b : Int), b = (if t = 3 then R else (t + 1) * 16384 + R) →
      (if x = 0 then (if y = 0 then (if t * 16384 + R = 0 then (some (b == 0)) else (some false)) else (if t * 16384 + R ≥ 0 then (if t * 16384 + R < 65536 then (some (b == (Int.tmod (wrap64 (t * 16384 + R + 16384)) 65536))) else (some false)) else (some false))) else (if t * 16384 + R ≥ 0 then (if t * 16384 + R < 65536 then (some (b == (Int.tmod (wrap64 (t * 16384 + R + 16384)) 65536))) else (some false)) else (some false))) = some true := by
    intro t R R0 R1 t0 t1 hne b hb
    have hv : (b == Int.tmod (wrap64 (t * 16384 + R + 16384)) 65536) = true := by
      rw [wrap64_in _ (by omega) (by omega), Int.tmod_eq_emod_of_nonneg (by omega), beq_iff_eq, hb]
      split <;> omega
    rw [if_pos (show t * 16384 + R ≥ 0 by omega), if_pos (show t * 16384 + R < 65536 by omega), hv]
    by_cases h1 : x = 0
    · rw [if_pos h1, if_neg (fun h2 => hne ⟨h1, h2⟩)]
    · rw [if_neg h1]
  by_cases hz : x = 0 ∧ y = 0
  · obtain ⟨rfl, rfl⟩ := hz
    rw [if_pos ⟨rfl, rfl⟩, if_pos ⟨by omega, rfl⟩]
    rfl
  rw [if_neg hz, if_neg (show ¬ (-y = 0 ∧ x = 0) by omega)]
  by_cases c0 : 0 < x ∧ 0 ≤ y
  · obtain ⟨R, R0, R1, _, hR⟩ := search x y hx.1 hx.2 hy.1 hy.2
    rw [if_pos c0, if_neg (by omega), if_pos (by omega), Int.neg_neg, hR _ 0 (by omega) (by omega) (by omega), hR _ 1 (by omega) (by omega) (by omega)]
    simp only [Option.bind_some]
    exact fin 0 R R0 R1 (by omega) (by omega) hz _ (by rw [if_neg (by omega)]; omega)
  rw [if_neg c0]
  by_cases c1 : x ≤ 0 ∧ 0 < y
  · obtain ⟨R, R0, R1, _, hR⟩ := search y (-x) hy.1 hy.2 (by omega) (by omega)
    rw [if_pos c1, if_neg (by omega), if_neg (by omega), if_pos (by omega), Int.neg_neg, hR _ 1 (by omega) (by omega) (by omega), hR _ 2 (by omega) (by omega) (by omega)]
    simp only [Option.bind_some]
    exact fin 1 R R0 R1 (by omega) (by omega) hz _ (by rw [if_neg (by omega)]; omega)
  rw [if_neg c1]
  by_cases c2 : x < 0
  · obtain ⟨R, R0, R1, _, hR⟩ := search (-x) (-y) (by omega) (by omega) (by omega) (by omega)
    rw [if_pos c2, if_neg (by omega), if_neg (by omega), if_neg (by omega), hR _ 2 (by omega) (by omega) (by omega), hR _ 3 (by omega) (by omega) (by omega)]
    simp only [Option.bind_some]
    exact fin 2 R R0 R1 (by omega) (by omega) hz _ (by rw [if_neg (by omega)]; omega)
  · obtain ⟨R, R0, R1, _, hR⟩ := search (-y) x (by omega) (by omega) (by omega) (by omega)
    rw [if_neg c2, if_pos (by omega), hR _ 3 (by omega) (by omega) (by omega), hR _ 0 (by omega) (by omega) (by omega)]
    simp only [Option.bind_some]
    exact fin 3 R R0 R1 (by omega) (by omega) hz _ (by rw [if_pos (by omega)]; omega)

end Go.Proofs.Ytfleknmconpleaa.Pure
