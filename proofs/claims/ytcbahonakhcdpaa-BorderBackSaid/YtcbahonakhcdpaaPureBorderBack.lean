/- BorderBack in plain Lean. No condition. -/
import Derived.Test.YtcbahonakhcdpaaQBorder
import Derived.Test.YtcbahonakhcdpaaPAllx2
namespace Go.Proofs.Ytcbahonakhcdpaa.Pure
open Go.RowKit Go.Proofs.Ytcbahonakhcdpaa.P Go.Proofs.YtcbahonakhcdpaaW.PrintWords Go.Proofs.YtcbahonakhcdpaaW.PrintLast Go.Proofs.Ytcbahonakhcdpaa.Fl Ieee

theorem BorderBack : tourkeep1_BorderBack.Pure := by
  intro a _
  refine ⟨1, ?_⟩
  unfold tourkeep1_BorderBack.f
  rw [begun]
  simp only [Option.bind_some, bne_self_eq_false]
  rw [if_pos trivial]
  simp only [tourkeep1_BorderBack.j0]
  rw [if_neg (by decide)]
  obtain ⟨c, hc, hcc⟩ := fix_clamp a
  by_cases h : a.natAbs ≤ 1099511627776
  · rw [to_toW a h, hc]
    simp only [Option.bind_some]
    rw [if_pos (hcc.2 h), from_toW a h]
    simp
  · rw [to_big a h, hc]
    simp only [Option.bind_some]
    rw [if_neg (fun h2 => h (hcc.1 h2))]
    simp
end Go.Proofs.Ytcbahonakhcdpaa.Pure
