/- The plain statement of TrigBack: for every input the law's printed function returns true. No condition. -/
import Derived.Test.YtfleknmconpleaaPAllx16
import Derived.Test.YtfleknmconpleaaQTrig
namespace Go.Proofs.Ytfleknmconpleaa.Pure
open Go Go.RowKit Go.Proofs.Ytfleknmconpleaa.P Go.Proofs.Ytfleknmconpleaa.QDiv Go.Proofs.Ytfleknmconpleaa.QFix Go.Proofs.Ytfleknmconpleaa.QTrig Go.Proofs.YtfleknmconpleaaW.PrintWords Go.Proofs.YtfleknmconpleaaW.PrintLast Go.Proofs.YtfleknmconpleaaW.PrintMore

/-- of the vector of the first quarter's cosine and sine the search finds the angle -/
theorem back_search (s f : Int) (hs : 0 < s) (h0 : 0 ≤ f) (h1 : f < 16384) (m : Int) (m0 : 0 ≤ m) (m1 : m < 16384) : beyond (sinFirst (16384 - f) * s) (sinFirst f * s) m ↔ m ≤ f := by
  unfold beyond
  rw [cosI_quarter m m0 (by omega), sinI_quarter m m0 (by omega)]
  have e1 : sinFirst (16384 - m) * (sinFirst f * s) = (sinFirst (16384 - m) * sinFirst f) * s := by grind
  have e2 : sinFirst m * (sinFirst (16384 - f) * s) = (sinFirst m * sinFirst (16384 - f)) * s := by grind
  rw [e1, e2]
  have r1 := sinFirst_range m m0 (by omega)
  have r2 := sinFirst_range f h0 (by omega)
  have r3 := sinFirst_range (16384 - m) (by omega) (by omega)
  have r4 := sinFirst_range (16384 - f) (by omega) (by omega)
  constructor
  · intro h
    have h' := Int.le_of_mul_le_mul_right h hs
    by_cases hm : m ≤ f
    · exact hm
    exfalso
    have a1 := sinFirst_le (show 0 ≤ f + 1 by omega) (show f + 1 ≤ m by omega) (by omega)
    have a2 := sinFirst_le (show 0 ≤ 16384 - m by omega) (show 16384 - m ≤ 16384 - (f + 1) by omega) (by omega)
    have a3 := sinFirst_next f h0 h1
    have a4 := sinFirst_next (16384 - (f + 1)) (by omega) (by omega)
    rw [show 16384 - (f + 1) + 1 = 16384 - f by omega] at a4
    have p1 := sinFirst_pos m (by omega) (by omega)
    have p2 := sinFirst_pos (16384 - f) (by omega) (by omega)
    -- S m * C f > C m * S f
    have b1 : sinFirst (16384 - m) * sinFirst f ≤ sinFirst (16384 - f) * sinFirst f := Int.mul_le_mul_of_nonneg_right (by omega) r2.1
    by_cases hf : f < 8448
    · have b2 : sinFirst f * sinFirst (16384 - f) < sinFirst m * sinFirst (16384 - f) := Int.mul_lt_mul_of_pos_right (by have := a3.2 hf; omega) p2
      have e : sinFirst (16384 - f) * sinFirst f = sinFirst f * sinFirst (16384 - f) := Int.mul_comm _ _
      omega
    · have c1 : sinFirst (16384 - m) < sinFirst (16384 - f) := by have := a4.2 (by omega); omega
      have p3 := sinFirst_pos f (by omega) (by omega)
      have b2 : sinFirst (16384 - m) * sinFirst f < sinFirst (16384 - f) * sinFirst f := Int.mul_lt_mul_of_pos_right c1 p3
      have b3 : sinFirst f * sinFirst (16384 - f) ≤ sinFirst m * sinFirst (16384 - f) := Int.mul_le_mul_of_nonneg_right (by omega) r4.1
      have e : sinFirst (16384 - f) * sinFirst f = sinFirst f * sinFirst (16384 - f) := Int.mul_comm _ _
      omega
  · intro hm
    have a1 := sinFirst_le m0 hm (by omega)
    have a2 := sinFirst_le (show 0 ≤ 16384 - f by omega) (show 16384 - f ≤ 16384 - m by omega) (by omega)
    have b1 : sinFirst m * sinFirst (16384 - f) ≤ sinFirst f * sinFirst (16384 - f) := Int.mul_le_mul_of_nonneg_right a1 r4.1
    have b2 : sinFirst f * sinFirst (16384 - f) ≤ sinFirst f * sinFirst (16384 - m) := Int.mul_le_mul_of_nonneg_left a2 r2.1
    have e : sinFirst (16384 - m) * sinFirst f = sinFirst f * sinFirst (16384 - m) := Int.mul_comm _ _
    exact Int.mul_le_mul_of_nonneg_right (by omega) (by omega)
theorem back_j3 (s f t : Int) (hs : 0 < s) (hs1 : s ≤ 1048576) (h0 : 0 ≤ f) (h1 : f < 16384) (t0 : 0 ≤ t) (t1 : t ≤ 3) (k : Nat) (hk : 16385 < k) : trig_Atan.j3 k (sinFirst f * s) (sinFirst (16384 - f) * s) t = some (t * 16384 + f) := by
  have r2 := sinFirst_range f h0 (by omega)
  have r4 := sinFirst_range (16384 - f) (by omega) (by omega)
  have q1 : 0 ≤ sinFirst f * s ∧ sinFirst f * s ≤ 65536 * 1048576 := ⟨Int.mul_nonneg r2.1 (by omega), Int.mul_le_mul r2.2 hs1 (by omega) (by omega)⟩
  have q2 : 0 ≤ sinFirst (16384 - f) * s ∧ sinFirst (16384 - f) * s ≤ 65536 * 1048576 := ⟨Int.mul_nonneg r4.1 (by omega), Int.mul_le_mul r4.2 hs1 (by omega) (by omega)⟩
  obtain ⟨R, a, b, c, d⟩ := search (sinFirst (16384 - f) * s) (sinFirst f * s) (by omega) (by omega) (by omega) (by omega)
  rw [d k t hk t0 t1, c f h0 h1 (back_search s f hs h0 h1)]
theorem TrigBack : tourkeep1_TrigBack.Pure := by
  intro a0 a1 _ _
  have hb : tourkeep1_trigBegun.f 30000 = some true := at_rounds tourkeep1_trigBegun.mono (show 100 ≤ 30000 by omega) (by decide +kernel)
  refine ⟨30000, ?_⟩
  unfold tourkeep1_TrigBack.f
  rw [hb]
  simp only [Option.bind_some, if_true]
  rw [below_f _ _ (by omega) (by omega), below_f _ _ (by omega) (by omega)]
  simp only [Option.bind_some, sin_f, cos_f]
  have h0 := Int.emod_nonneg a0 (show (65536 : Int) ≠ 0 by omega)
  have h1 := Int.emod_lt_of_pos a0 (show (0 : Int) < 65536 by omega)
  have h2 := Int.emod_nonneg a1 (show (1048576 : Int) ≠ 0 by omega)
  have h3 := Int.emod_lt_of_pos a1 (show (0 : Int) < 1048576 by omega)
  generalize a0 % 65536 = r at *
  generalize a1 % 1048576 = n at *
  rw [wrap64_in (1 + n) (by omega) (by omega)]
  generalize hs : 1 + n = s at *
  have pr : ∀ x : Int, -65536 ≤ x → x ≤ 65536 → -68719476736 ≤ x * s ∧ x * s ≤ 68719476736 := by
    intro x x0 x1
    have g1 : 0 ≤ (65536 - x) * s := Int.mul_nonneg (by omega) (by omega)
    have g2 : 0 ≤ (65536 + x) * s := Int.mul_nonneg (by omega) (by omega)
    constructor <;> grind
  have y := pr _ (sinI_range r).1 (sinI_range r).2
  have x := pr _ (cosI_range r).1 (cosI_range r).2
  rw [wrap64_in _ (by omega) (by omega), wrap64_in _ (by omega) (by omega), atan_f _ _ (by omega) (by omega) (by omega) (by omega) _ (by omega)]
  clear x y pr
  have ng : ∀ z : Int, -z * s = -(z * s) := fun z => by grind
  have pos : ∀ f : Int, 0 < f → f ≤ 16384 → 0 < sinFirst f * s := fun f f0 f1 => Int.mul_pos (sinFirst_pos f f0 f1) (by omega)
  have nn : ∀ f : Int, 0 ≤ f → f ≤ 16384 → 0 ≤ sinFirst f * s := fun f f0 f1 => Int.mul_nonneg (sinFirst_range f f0 f1).1 (by omega)
  by_cases c0 : r < 16384
  · rw [sinI_quarter r h0 (by omega), cosI_quarter r h0 (by omega)]
    have p := pos (16384 - r) (by omega) (by omega)
    have q := nn r h0 (by omega)
    rw [if_neg (by omega), if_pos ⟨p, q⟩, back_j3 s r 0 (by omega) (by omega) h0 c0 (by omega) (by omega) _ (by omega)]
    simp
  by_cases c1 : r < 32768
  · have e1 : sinI r = sinFirst (16384 - (r - 16384)) := by rw [← cosI_quarter (r - 16384) (by omega) (by omega)]; exact sinI_period _ _ (by omega)
    have e2 : cosI r = -sinFirst (r - 16384) := by rw [← sinI_quarter (r - 16384) (by omega) (by omega), ← sinI_half]; exact sinI_period _ _ (by omega)
    rw [e1, e2, ng]
    have p := pos (16384 - (r - 16384)) (by omega) (by omega)
    have q := nn (r - 16384) (by omega) (by omega)
    rw [if_neg (by omega), if_neg (by omega), if_pos ⟨by omega, p⟩, Int.neg_neg, back_j3 s (r - 16384) 1 (by omega) (by omega) (by omega) (by omega) (by omega) (by omega) _ (by omega)]
    simp; omega
  by_cases c2 : r < 49152
  · have e1 : sinI r = -sinFirst (r - 32768) := by rw [← sinI_quarter (r - 32768) (by omega) (by omega), ← sinI_half]; exact sinI_period _ _ (by omega)
    have e2 : cosI r = -sinFirst (16384 - (r - 32768)) := by rw [← cosI_quarter (r - 32768) (by omega) (by omega), ← cosI_half]; exact sinI_period _ _ (by omega)
    rw [e1, e2, ng, ng]
    have p := pos (16384 - (r - 32768)) (by omega) (by omega)
    have q := nn (r - 32768) (by omega) (by omega)
    rw [if_neg (by omega), if_neg (by omega), if_neg (by omega), if_pos (by omega), Int.neg_neg, Int.neg_neg, back_j3 s (r - 32768) 2 (by omega) (by omega) (by omega) (by omega) (by omega) (by omega) _ (by omega)]
    simp; omega
  · have e1 : sinI r = -sinFirst (16384 - (r - 49152)) := by rw [← cosI_quarter (r - 49152) (by omega) (by omega), ← cosI_half]; exact sinI_period _ _ (by omega)
    have e2 : cosI r = sinFirst (r - 49152) := by rw [← sinI_quarter (r - 49152) (by omega) (by omega)]; exact sinI_period _ _ (by omega)
    rw [e1, e2, ng]
    have p := pos (16384 - (r - 49152)) (by omega) (by omega)
    have q := nn (r - 49152) (by omega) (by omega)
    rw [if_neg (by omega), if_neg (by omega), if_neg (by omega), if_neg (by omega), Int.neg_neg, back_j3 s (r - 49152) 3 (by omega) (by omega) (by omega) (by omega) (by omega) (by omega) _ (by omega)]
    simp; omega

end Go.Proofs.Ytfleknmconpleaa.Pure
