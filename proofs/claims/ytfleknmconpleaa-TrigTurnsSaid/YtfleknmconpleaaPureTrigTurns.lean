/- The plain statement of TrigTurns: for every input the law's printed function returns true. No condition. -/
import Derived.Test.YtfleknmconpleaaPAllx15
import Derived.Test.YtfleknmconpleaaQTrig
namespace Go.Proofs.Ytfleknmconpleaa.Pure
open Go Go.RowKit Go.Proofs.Ytfleknmconpleaa.P Go.Proofs.Ytfleknmconpleaa.QDiv Go.Proofs.Ytfleknmconpleaa.QFix Go.Proofs.Ytfleknmconpleaa.QTrig Go.Proofs.YtfleknmconpleaaW.PrintWords Go.Proofs.YtfleknmconpleaaW.PrintLast Go.Proofs.YtfleknmconpleaaW.PrintMore

theorem TrigTurns : tourkeep1_TrigTurns.Pure := by
  intro a0 _
  have hb : tourkeep1_trigBegun.f 100 = some true := by decide +kernel
  refine ⟨100, ?_⟩
  unfold tourkeep1_TrigTurns.f
  rw [hb]
  simp only [Option.bind_some, if_true]
  rw [below_f _ _ (by omega) (by omega)]
  have h0 := Int.emod_nonneg a0 (show (1099511627776 : Int) ≠ 0 by omega)
  have h1 := Int.emod_lt_of_pos a0 (show (0 : Int) < 1099511627776 by omega)
  generalize a0 % 1099511627776 = a at *
  simp only [Option.bind_some, sin_f, cos_f]
  rw [wrap64_in (a + 65536) (by omega) (by omega), wrap64_in (-a) (by omega) (by omega), wrap64_in (a + 32768) (by omega) (by omega), wrap64_in (a + 16384) (by omega) (by omega), wrap64_in (32768 - a) (by omega) (by omega)]
  have s := sinI_range a
  have c := cosI_range a
  rw [wrap64_in (-sinI a) (by omega) (by omega), wrap64_in (-cosI a) (by omega) (by omega)]
  rw [if_pos (sinI_period _ _ (by omega)), if_pos (sinI_neg a), if_pos (cosI_neg a), if_pos (sinI_half a), if_pos (cosI_half a), if_pos (show sinI (a + 16384) = cosI a from rfl), sinI_mirror]
  simp

end Go.Proofs.Ytfleknmconpleaa.Pure
