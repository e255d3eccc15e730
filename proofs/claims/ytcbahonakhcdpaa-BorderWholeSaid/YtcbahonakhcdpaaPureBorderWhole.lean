/- BorderWhole in plain Lean. No condition. -/
import Derived.Test.YtcbahonakhcdpaaQBorder
import Derived.Test.YtcbahonakhcdpaaPAllx3
namespace Go.Proofs.Ytcbahonakhcdpaa.Pure
open Go.RowKit Go.Proofs.Ytcbahonakhcdpaa.P Go.Proofs.YtcbahonakhcdpaaW.PrintWords Go.Proofs.YtcbahonakhcdpaaW.PrintLast Go.Proofs.Ytcbahonakhcdpaa.Fl Ieee

theorem BorderWhole : tourkeep1_BorderWhole.Pure := by
  intro b hw
  have hb : 0 ≤ b ∧ b < 18446744073709551616 := by
    have := of_decide_eq_true (show decide (IntKind.u64.min ≤ b ∧ b ≤ IntKind.u64.max) = true by simpa [Lit.wf] using hw)
    have h1 : IntKind.min .u64 = 0 := rfl
    have h2 : IntKind.max .u64 = 18446744073709551615 := rfl
    omega
  refine ⟨1, ?_⟩
  unfold tourkeep1_BorderWhole.f
  rw [begun]
  simp only [Option.bind_some, bne_self_eq_false]
  rw [if_pos trivial]
  simp only [tourkeep1_BorderWhole.j0]
  rw [if_neg (by decide)]
  obtain ⟨n, e, hf, h1, h2⟩ := from_any b hb.1 hb.2
  rw [hf]
  simp only [Option.bind_some]
  by_cases he : e = 0
  · obtain ⟨hn, hbt⟩ := h2 he
    rw [if_pos he, to_toW n hn]
    simp [hbt]
  · rw [if_neg he, h1 he]
    simp
end Go.Proofs.Ytcbahonakhcdpaa.Pure
