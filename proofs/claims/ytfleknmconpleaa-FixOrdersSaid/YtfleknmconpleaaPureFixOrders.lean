/- The plain statement of FixOrders: for every input the law's printed function returns true. No condition. -/
import Derived.Test.YtfleknmconpleaaPAllx6
import Derived.Test.YtfleknmconpleaaQFix
namespace Go.Proofs.Ytfleknmconpleaa.Pure
open Go Go.RowKit Go.Proofs.Ytfleknmconpleaa.P Go.Proofs.Ytfleknmconpleaa.QDiv Go.Proofs.Ytfleknmconpleaa.QFix Go.Proofs.YtfleknmconpleaaW.PrintWords Go.Proofs.YtfleknmconpleaaW.PrintLast Go.Proofs.YtfleknmconpleaaW.PrintMore

theorem FixOrders : tourkeep1_FixOrders.Pure := by
  intro a0 a1 a2 _ _ _
  have hb : tourkeep1_fixBegun.f 100 = some true := by decide +kernel
  refine ⟨100, ?_⟩
  unfold tourkeep1_FixOrders.f
  rw [hb]
  simp only [Option.bind_some, if_true]
  have key : ∀ a b c : Int, a ≤ b → tourkeep1_FixOrders.j0 100 a b c = some true := by
    intro a b c hab
    have hc := clamp_range c
    have hin : ∀ x : Int, tourkeep1_FixOrders_1.f (clampI x) = some true := by
      intro x
      have := clamp_range x
      unfold tourkeep1_FixOrders_1.f
      rw [if_pos (by omega), decide_eq_true (by omega)]
    have hmd : ∀ x y z : Int, ∃ v, mdI x y z = clampI v := by
      intro x y z
      unfold mdI
      split
      · exact ⟨0, rfl⟩
      · split <;> exact ⟨_, rfl⟩
    show tourkeep1_FixOrders.j0 (99 + 1) a b c = some true
    simp only [tourkeep1_FixOrders.j0, clamp_f, Option.bind_some, add_f, sub_f]
    rw [wrap64_in _ (by omega) (by omega), mx_eq]
    have hp0 : 0 ≤ max (clampI c) (-clampI c) := by omega
    have hp1 : max (clampI c) (-clampI c) ≤ 1099511627776 := by omega
    generalize hP : max (clampI c) (-clampI c) = p at *
    have h1 := clamp_mono hab
    have h2 : clampI (clampI a + clampI c) ≤ clampI (clampI b + clampI c) := clamp_mono (by omega)
    have h3 : clampI (clampI a - clampI c) ≤ clampI (clampI b - clampI c) := clamp_mono (by omega)
    have h4 : mulI a p ≤ mulI b p := by
      unfold mulI
      refine clamp_mono (rnd_le ?_ (by omega))
      rw [clamp_in p (by omega) hp1]
      exact Int.mul_le_mul_of_nonneg_right h1 hp0
    obtain ⟨v, hv⟩ := hmd a b c
    rw [if_pos h1, if_pos h2, if_pos h3, mul_f _ _ _ (by omega)]
    simp only [Option.bind_some]
    rw [mul_f _ _ _ (by omega)]
    simp only [Option.bind_some]
    rw [if_pos h4, hin]
    simp only [Option.bind_some, if_true]
    rw [hin]
    simp only [Option.bind_some, if_true]
    rw [mul_f _ _ _ (by omega)]
    simp only [Option.bind_some]
    unfold mulI
    rw [hin]
    simp only [Option.bind_some, if_true]
    rw [muldiv_f _ _ _ _ (by omega), hv]
    simp only [Option.bind_some]
    rw [hin]
    rfl
  split
  · exact key _ _ _ (by omega)
  · exact key _ _ _ (by omega)

end Go.Proofs.Ytfleknmconpleaa.Pure
