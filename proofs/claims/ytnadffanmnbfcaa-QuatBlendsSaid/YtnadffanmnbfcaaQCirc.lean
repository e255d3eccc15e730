/- The squares of the printed sine and cosine of one angle add up to 2^32 within 12 * 65536. No condition. -/
import Derived.Test.YtnadffanmnbfcaaQTrig
namespace Go.Proofs.Ytnadffanmnbfcaa.QCirc
open Go Go.RowKit Go.Proofs.Ytnadffanmnbfcaa.P Go.Proofs.Ytnadffanmnbfcaa.QDiv Go.Proofs.Ytnadffanmnbfcaa.QFix Go.Proofs.Ytnadffanmnbfcaa.QTrig Go.Proofs.YtnadffanmnbfcaaW.PrintWords Go.Proofs.YtnadffanmnbfcaaW.PrintLast Go.Proofs.YtnadffanmnbfcaaW.PrintMore

/-- the squares' sum on one cell of the table, in natural numbers: the deviation from 2^32 is at most 12 * 65536 -/
def circ (t d u e g : Int) : Bool :=
  let s := t + (d * g + 128) / 256
  let c := u + (e * (256 - g) + 128) / 256
  decide (s * s + c * c - 4294967296 ≤ 786432 ∧ 4294967296 - (s * s + c * c) ≤ 786432)
def cells : Nat → Bool
  | 0 => true
  | i + 1 => ((List.range 256).all fun g => circ (tabAt i) (tstep i) (tabAt (63 - i)) (tstep (63 - i)) g) && cells i
theorem cells_all : cells 64 = true := by decide +kernel
theorem cells_at (n : Nat) : cells n = true → ∀ i < n, ∀ g : Nat, g < 256 → circ (tabAt i) (tstep i) (tabAt (63 - i)) (tstep (63 - i)) g = true := by
  induction n with
  | zero => intro _ i hi; omega
  | succ n ih =>
    intro h i hi g hg
    simp only [cells, Bool.and_eq_true, List.all_eq_true, List.mem_range] at h
    by_cases e : i = n
    · subst e; exact h.1 g hg
    · exact ih h.2 i (by omega) g hg
theorem circle_first (f : Int) (h0 : 0 ≤ f) (h1 : f < 16384) : sinFirst f * sinFirst f + sinFirst (16384 - f) * sinFirst (16384 - f) - 4294967296 ≤ 786432 ∧ 4294967296 - (sinFirst f * sinFirst f + sinFirst (16384 - f) * sinFirst (16384 - f)) ≤ 786432 := by
  obtain ⟨i, g, rfl, hi, hg⟩ : ∃ i g : Nat, f = 256 * (i : Int) + g ∧ i < 64 ∧ g < 256 := ⟨(f / 256).toNat, (f % 256).toNat, by omega, by omega, by omega⟩
  have h := cells_at 64 cells_all i hi g hg
  unfold circ at h
  have e1 : sinFirst (256 * (i : Int) + g) = tabAt i + (tstep i * g + 128) / 256 := sinFirst_cell i g (by omega) (by omega)
  have e2 : sinFirst (16384 - (256 * (i : Int) + g)) = tabAt (63 - i) + (tstep (63 - i) * (256 - g) + 128) / 256 := by
    by_cases hz : g = 0
    · subst hz
      rw [show 16384 - (256 * (i : Int) + ((0 : Nat) : Int)) = 256 * (63 - (i : Int) + 1) + 0 by omega, sinFirst_cell _ 0 (by omega) (by omega), Int.mul_zero]
      have : tabAt (63 - i + 1) = tabAt (63 - i) + tstep (63 - i) := by unfold tstep; omega
      omega
    · rw [show 16384 - (256 * (i : Int) + g) = 256 * (63 - (i : Int)) + (256 - g) by omega, sinFirst_cell _ _ (by omega) (by omega)]
  rw [e1, e2]
  exact of_decide_eq_true h
theorem circle (a : Int) : sinI a * sinI a + cosI a * cosI a - 4294967296 ≤ 786432 ∧ 4294967296 - (sinI a * sinI a + cosI a * cosI a) ≤ 786432 := by
  have hq : ∃ f : Int, 0 ≤ f ∧ f < 16384 ∧ (sinI a * sinI a + cosI a * cosI a = sinFirst f * sinFirst f + sinFirst (16384 - f) * sinFirst (16384 - f)) := by
    have h0 : 0 ≤ a % 65536 := by omega
    have h1 : a % 65536 < 65536 := by omega
    have hc : cosI a = cosI (a % 65536) := sinI_period _ _ (by omega)
    rw [← sinI_mod a, hc]
    generalize a % 65536 = r at *
    have nn : ∀ x : Int, -x * -x = x * x := fun x => by grind
    by_cases c0 : r < 16384
    · exact ⟨r, h0, c0, by rw [sinI_quarter r h0 (by omega), cosI_quarter r h0 (by omega)]⟩
    by_cases c1 : r < 32768
    · refine ⟨r - 16384, by omega, by omega, ?_⟩
      have e1 : sinI r = sinFirst (16384 - (r - 16384)) := by rw [← cosI_quarter (r - 16384) (by omega) (by omega)]; exact sinI_period _ _ (by omega)
      have e2 : cosI r = -sinFirst (r - 16384) := by rw [← sinI_quarter (r - 16384) (by omega) (by omega), ← sinI_half]; exact sinI_period _ _ (by omega)
      rw [e1, e2, nn, Int.add_comm]
    by_cases c2 : r < 49152
    · refine ⟨r - 32768, by omega, by omega, ?_⟩
      have e1 : sinI r = -sinFirst (r - 32768) := by rw [← sinI_quarter (r - 32768) (by omega) (by omega), ← sinI_half]; exact sinI_period _ _ (by omega)
      have e2 : cosI r = -sinFirst (16384 - (r - 32768)) := by rw [← cosI_quarter (r - 32768) (by omega) (by omega), ← cosI_half]; exact sinI_period _ _ (by omega)
      rw [e1, e2, nn, nn]
    · refine ⟨r - 49152, by omega, by omega, ?_⟩
      have e1 : sinI r = -sinFirst (16384 - (r - 49152)) := by rw [← cosI_quarter (r - 49152) (by omega) (by omega), ← cosI_half]; exact sinI_period _ _ (by omega)
      have e2 : cosI r = sinFirst (r - 49152) := by rw [← sinI_quarter (r - 49152) (by omega) (by omega)]; exact sinI_period _ _ (by omega)
      rw [e1, e2, nn, Int.add_comm]
  obtain ⟨f, f0, f1, e⟩ := hq
  rw [e]
  exact circle_first f f0 f1
end Go.Proofs.Ytnadffanmnbfcaa.QCirc
