/- The plain statement of RndRanges: for every seed and number the law's printed function returns true. No condition. -/
import Derived.Test.YtggfiacnkbcjbaaPAllx7
import Derived.Test.YtggfiacnkbcjbaaQRnd2
namespace Go.Proofs.Ytggfiacnkbcjbaa.Pure
open Go Go.RowKit Go.Proofs.Ytggfiacnkbcjbaa.P Go.Proofs.Ytggfiacnkbcjbaa.QRnd Go.Proofs.YtggfiacnkbcjbaaW.PrintWords Go.Proofs.YtggfiacnkbcjbaaW.PrintLast

theorem RndRanges : tourkeep1_RndRanges.Pure := by
  intro a0 a1 _ _
  have hm := Int.emod_nonneg a1 (show (4611686018427387904 : Int) ≠ 0 by omega)
  have hl := Int.emod_lt_of_pos a1 (show (0 : Int) < 4611686018427387904 by omega)
  generalize hT : a1 % 4611686018427387904 = t at *
  have hw : wrap64 (1 + t) = 1 + t := by unfold wrap64; omega
  have hof := of_f [a0, 1 + t] (by simp)
  obtain ⟨e1, e2, e3, e4, e5⟩ := ofEnd_range ([a0, 1 + t].foldl ofStep (([a0, 1 + t] : List Int).length : Int))
  generalize ofEnd ([a0, 1 + t].foldl ofStep (([a0, 1 + t] : List Int).length : Int)) = r at *
  obtain ⟨s, g⟩ := r
  simp only at e1 e2 e3 e4 e5
  obtain ⟨K, x, s', hx0, hx1, hne, _, hK⟩ := below_takes (1 + t) s g (by omega) (by omega) e1 e2 e5 e3
  refine ⟨K + 5, ?_⟩
  unfold tourkeep1_RndRanges.f
  rw [at_rounds tourkeep1_rndBegun.mono (show 3 ≤ K + 5 by omega) rbegun]
  simp only [Option.bind_some, if_true]
  rw [below_f _ _ (by decide) (by decide), hT]; simp only [Option.bind_some]
  rw [hw, hof (K + 5) (by simp)]; simp only [Option.bind_some]
  rw [hK _ (by omega)]; simp only [Option.bind_some]
  rw [below_one s g e5 e3 _ (by omega)]; simp only [Option.bind_some]
  rw [next_f]; simp only [Option.bind_some]
  have hb : (s' == s) = false := by simpa using hne
  rw [if_pos trivial, if_pos trivial, if_pos hx0, if_pos (by omega), if_pos trivial, hb]
  simp
end Go.Proofs.Ytggfiacnkbcjbaa.Pure
