/- What a turn makes of a vector: the exact turned vector and a small one. Conditions: parts of at most One, numbers of at most 2^24. -/
import Derived.Test.YtnadffanmnbfcaaQKeep
import Derived.Test.YtnadffanmnbfcaaQTurn
namespace Go.Proofs.Ytnadffanmnbfcaa.QKeep
open Go Go.RowKit Go.Proofs.Ytnadffanmnbfcaa.P Go.Proofs.Ytnadffanmnbfcaa.QDiv Go.Proofs.Ytnadffanmnbfcaa.QFix Go.Proofs.Ytnadffanmnbfcaa.QRoot Go.Proofs.Ytnadffanmnbfcaa.QVec Go.Proofs.Ytnadffanmnbfcaa.QTrig Go.Proofs.Ytnadffanmnbfcaa.QCirc Go.Proofs.Ytnadffanmnbfcaa.QQuat Go.Proofs.YtnadffanmnbfcaaW.PrintWords Go.Proofs.YtnadffanmnbfcaaW.PrintLast Go.Proofs.YtnadffanmnbfcaaW.PrintMore

/-- what a turn makes of a vector: the exact turned vector, and a vector of at most 8 units -/
theorem turn_near (w x y z a b c : Int) (hw : -65536 ≤ w ∧ w ≤ 65536) (hx : -65536 ≤ x ∧ x ≤ 65536) (hy : -65536 ≤ y ∧ y ≤ 65536) (hz : -65536 ≤ z ∧ z ≤ 65536)
    (ha : -16777216 ≤ a ∧ a ≤ 16777216) (hb : -16777216 ≤ b ∧ b ≤ 16777216) (hc : -16777216 ≤ c ∧ c ≤ 16777216) (hP : w * w + x * x + y * y + z * z ≤ 4296212480) (k : Nat) (hk : 40 ≤ k) :
    ∃ r s t R S T G0 G1 G2 : Int, quat_Turn.f k w x y z a b c = some (r, s, t) ∧ 4294967296 * r = R + G0 ∧ 4294967296 * s = S + G1 ∧ 4294967296 * t = T + G2 ∧ G0 * G0 + G1 * G1 + G2 * G2 ≤ 34359738368 * 34359738368 ∧
      R * R + S * S + T * T = (a * a + b * b + c * c) * ((w * w + x * x + y * y + z * z) * (w * w + x * x + y * y + z * z)) ∧
      R = (w * w + x * x - y * y - z * z) * a + 2 * (x * y - w * z) * b + 2 * (x * z + w * y) * c ∧ S = 2 * (x * y + w * z) * a + (w * w - x * x + y * y - z * z) * b + 2 * (y * z - w * x) * c ∧ T = 2 * (x * z - w * y) * a + 2 * (y * z + w * x) * b + (w * w - x * x - y * y + z * z) * c := by
  obtain ⟨U, A, B, C, E0, E1, E2, E3, hm, u0, u1, u2, u3, e0, e1, e2, e3⟩ := mul4 w x y z 0 a b c 65536 16777216 hw hx hy hz (by omega) ha hb hc (by omega) (by omega) (by omega) k hk
  have pxa := qprod x a 65536 16777216 hx.1 hx.2 ha.1 ha.2
  have pyb := qprod y b 65536 16777216 hy.1 hy.2 hb.1 hb.2
  have pzc := qprod z c 65536 16777216 hz.1 hz.2 hc.1 hc.2
  have pwa := qprod w a 65536 16777216 hw.1 hw.2 ha.1 ha.2
  have pwb := qprod w b 65536 16777216 hw.1 hw.2 hb.1 hb.2
  have pwc := qprod w c 65536 16777216 hw.1 hw.2 hc.1 hc.2
  have pyc := qprod y c 65536 16777216 hy.1 hy.2 hc.1 hc.2
  have pzb := qprod z b 65536 16777216 hz.1 hz.2 hb.1 hb.2
  have pxc := qprod x c 65536 16777216 hx.1 hx.2 hc.1 hc.2
  have pza := qprod z a 65536 16777216 hz.1 hz.2 ha.1 ha.2
  have pxb := qprod x b 65536 16777216 hx.1 hx.2 hb.1 hb.2
  have pya := qprod y a 65536 16777216 hy.1 hy.2 ha.1 ha.2
  simp only [Int.mul_zero, Int.zero_sub, Int.add_zero] at u0 u1 u2 u3
  have U0 : -67108864 ≤ U ∧ U ≤ 67108864 := by omega
  have A0 : -67108864 ≤ A ∧ A ≤ 67108864 := by omega
  have B0 : -67108864 ≤ B ∧ B ≤ 67108864 := by omega
  have C0 : -67108864 ≤ C ∧ C ≤ 67108864 := by omega
  obtain ⟨_, r, s, t, _, F1, F2, F3, hm2, _, v1, v2, v3, _, f1, f2, f3⟩ := mul4 U A B C w (-x) (-y) (-z) 67108864 65536 U0 A0 B0 C0 hw (by omega) (by omega) (by omega) (by omega) (by omega) (by omega) k hk
  have hT := turn_parts k w x y z a b c _ _ _ _ _ _ _ _ _ _ _ _ hm (back_f w x y z (by omega) (by omega) (by omega) (by omega)) hm2
  clear hm hm2 pxa pyb pzc pwa pwb pwc pyc pzb pxc pza pxb pya
  obtain ⟨P, hPd⟩ : ∃ P, P = w * w + x * x + y * y + z * z := ⟨_, rfl⟩
  -- the small vector
  have g1 : ∃ H0 H1 H2 : Int, H0 = E0 * -x + E1 * w + E2 * -z - E3 * -y ∧ H1 = E0 * -y - E1 * -z + E2 * w + E3 * -x ∧ H2 = E0 * -z + E1 * -y - E2 * -x + E3 * w ∧ H0 * H0 + H1 * H1 + H2 * H2 ≤ 17182490624 * 17182490624 := by
    refine ⟨_, _, _, rfl, rfl, rfl, ?_⟩
    have q := norm4 E0 E1 E2 E3 w (-x) (-y) (-z)
    have n := sq_nonneg (E0 * w - E1 * -x - E2 * -y - E3 * -z)
    have b0 := sq_bound E0 131072 e0.1 e0.2
    have b1 := sq_bound E1 131072 e1.1 e1.2
    have b2 := sq_bound E2 131072 e2.1 e2.2
    have b3 := sq_bound E3 131072 e3.1 e3.2
    rw [Int.neg_mul_neg, Int.neg_mul_neg, Int.neg_mul_neg] at q
    have nw := sq_nonneg w
    have nx := sq_nonneg x
    have ny := sq_nonneg y
    have nz := sq_nonneg z
    have m := mul_sq_le (E0 * E0 + E1 * E1 + E2 * E2 + E3 * E3) (w * w + x * x + y * y + z * z) 68719476736 4296212480 (by omega) (by omega) (by omega) hP
    omega
  obtain ⟨H0, H1, H2, h0, h1, h2, hH⟩ := g1
  have g2 : (65536 * F1) * (65536 * F1) + (65536 * F2) * (65536 * F2) + (65536 * F3) * (65536 * F3) ≤ 14878638080 * 14878638080 := by
    have b1 := sq_bound F1 131072 f1.1 f1.2
    have b2 := sq_bound F2 131072 f2.1 f2.2
    have b3 := sq_bound F3 131072 f3.1 f3.2
    have f : ∀ a : Int, (65536 * a) * (65536 * a) = 4294967296 * (a * a) := fun a => by grind
    rw [f, f, f]
    omega
  have g3 := tri3 _ _ _ _ _ _ _ _ (by omega) (by omega) hH g2
  refine ⟨r, s, t, _, _, _, H0 + 65536 * F1, H1 + 65536 * F2, H2 + 65536 * F3, hT, ?_, ?_, ?_, by omega, ?_, rfl, rfl, rfl⟩
  · have : 4294967296 * r = (65536 * U) * -x + (65536 * A) * w + (65536 * B) * -z - (65536 * C) * -y + 65536 * F1 := by
      have : 65536 * (65536 * r) = 65536 * (U * -x + A * w + B * -z - C * -y + F1) := by rw [v1]
      grind
    rw [this, u0, u1, u2, u3, h0]
    grind
  · have : 4294967296 * s = (65536 * U) * -y - (65536 * A) * -z + (65536 * B) * w + (65536 * C) * -x + 65536 * F2 := by
      have : 65536 * (65536 * s) = 65536 * (U * -y - A * -z + B * w + C * -x + F2) := by rw [v2]
      grind
    rw [this, u0, u1, u2, u3, h1]
    grind
  · have : 4294967296 * t = (65536 * U) * -z + (65536 * A) * -y - (65536 * B) * -x + (65536 * C) * w + 65536 * F3 := by
      have : 65536 * (65536 * t) = 65536 * (U * -z + A * -y - B * -x + C * w + F3) := by rw [v3]
      grind
    rw [this, u0, u1, u2, u3, h2]
    grind
  · have q1 := norm4 w x y z 0 a b c
    have q2 := norm4 (w * 0 - x * a - y * b - z * c) (w * a + x * 0 + y * c - z * b) (w * b - x * c + y * 0 + z * a) (w * c + x * b - y * a + z * 0) w (-x) (-y) (-z)
    rw [q1] at q2
    have z0 : (w * 0 - x * a - y * b - z * c) * w - (w * a + x * 0 + y * c - z * b) * -x - (w * b - x * c + y * 0 + z * a) * -y - (w * c + x * b - y * a + z * 0) * -z = 0 := by grind
    rw [z0] at q2
    have r1 : (w * 0 - x * a - y * b - z * c) * -x + (w * a + x * 0 + y * c - z * b) * w + (w * b - x * c + y * 0 + z * a) * -z - (w * c + x * b - y * a + z * 0) * -y = (w * w + x * x - y * y - z * z) * a + 2 * (x * y - w * z) * b + 2 * (x * z + w * y) * c := by grind
    have r2 : (w * 0 - x * a - y * b - z * c) * -y - (w * a + x * 0 + y * c - z * b) * -z + (w * b - x * c + y * 0 + z * a) * w + (w * c + x * b - y * a + z * 0) * -x = 2 * (x * y + w * z) * a + (w * w - x * x + y * y - z * z) * b + 2 * (y * z - w * x) * c := by grind
    have r3 : (w * 0 - x * a - y * b - z * c) * -z + (w * a + x * 0 + y * c - z * b) * -y - (w * b - x * c + y * 0 + z * a) * -x + (w * c + x * b - y * a + z * 0) * w = 2 * (x * z - w * y) * a + 2 * (y * z + w * x) * b + (w * w - x * x - y * y + z * z) * c := by grind
    rw [r1, r2, r3] at q2
    rw [Int.neg_mul_neg, Int.neg_mul_neg, Int.neg_mul_neg] at q2
    generalize (w * w + x * x - y * y - z * z) * a + 2 * (x * y - w * z) * b + 2 * (x * z + w * y) * c = R at *
    generalize 2 * (x * y + w * z) * a + (w * w - x * x + y * y - z * z) * b + 2 * (y * z - w * x) * c = S at *
    generalize 2 * (x * z - w * y) * a + 2 * (y * z + w * x) * b + (w * w - x * x - y * y + z * z) * c = T at *
    rw [← hPd] at *
    grind


end Go.Proofs.Ytnadffanmnbfcaa.QKeep
