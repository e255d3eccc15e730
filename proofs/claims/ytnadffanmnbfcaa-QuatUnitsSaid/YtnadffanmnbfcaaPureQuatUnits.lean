/- The plain statement of QuatUnits: for every input the law's printed function returns true. No condition. -/
import Derived.Test.YtnadffanmnbfcaaPAllx14
import Derived.Test.YtnadffanmnbfcaaPAllx12
import Derived.Test.YtnadffanmnbfcaaPAllx13
import Derived.Test.YtnadffanmnbfcaaPAllx8
import Derived.Test.YtnadffanmnbfcaaQOf2
import Derived.Test.YtnadffanmnbfcaaQKeep
namespace Go.Proofs.Ytnadffanmnbfcaa.Pure
open Go Go.RowKit Go.Proofs.Ytnadffanmnbfcaa.P Go.Proofs.Ytnadffanmnbfcaa.QDiv Go.Proofs.Ytnadffanmnbfcaa.QFix Go.Proofs.Ytnadffanmnbfcaa.QRoot Go.Proofs.Ytnadffanmnbfcaa.QVec Go.Proofs.Ytnadffanmnbfcaa.QTrig Go.Proofs.Ytnadffanmnbfcaa.QCirc Go.Proofs.Ytnadffanmnbfcaa.QQuat Go.Proofs.Ytnadffanmnbfcaa.QOf Go.Proofs.Ytnadffanmnbfcaa.QKeep Go.Proofs.YtnadffanmnbfcaaW.PrintWords Go.Proofs.YtnadffanmnbfcaaW.PrintLast Go.Proofs.YtnadffanmnbfcaaW.PrintMore

theorem turner_f (a b c g : Int) (k : Nat) (hk : 300 ≤ k) :
    ∃ p0 p1 p2 p3 : Int, tourkeep1_turner.f k a b c g = some (p0, p1, p2, p3) ∧ (-65536 ≤ p0 ∧ p0 ≤ 65536) ∧ (-65536 ≤ p1 ∧ p1 ≤ 65536) ∧ (-65536 ≤ p2 ∧ p2 ≤ 65536) ∧ (-65536 ≤ p3 ∧ p3 ≤ 65536) ∧
      p0 * p0 + p1 * p1 + p2 * p2 + p3 * p3 - 4294967296 ≤ 1245184 ∧ 4294967296 - (p0 * p0 + p1 * p1 + p2 * p2 + p3 * p3) ≤ 1245184 := by
  have ha := number_range a 1048576 (by omega)
  have hb := number_range b 1048576 (by omega)
  have hc := number_range c 1048576 (by omega)
  obtain ⟨p0, p1, p2, p3, h, rest⟩ := of_f (a % (2 * 1048576 + 1) - 1048576) (b % (2 * 1048576 + 1) - 1048576) (c % (2 * 1048576 + 1) - 1048576) g (by omega) (by omega) (by omega) k hk
  refine ⟨p0, p1, p2, p3, ?_, rest⟩
  unfold tourkeep1_turner.f
  rw [number_f a 1048576 (by omega) (by omega), Option.bind_some, number_f b 1048576 (by omega) (by omega), Option.bind_some, number_f c 1048576 (by omega) (by omega), Option.bind_some, h, Option.bind_some]
theorem square_f (a b c d : Int) (ha : -131072 ≤ a ∧ a ≤ 131072) (hb : -131072 ≤ b ∧ b ≤ 131072) (hc : -131072 ≤ c ∧ c ≤ 131072) (hd : -131072 ≤ d ∧ d ≤ 131072) : tourkeep1_square.f a b c d = some ((a * a + b * b + c * c + d * d) / 65536) := by
  have sa := sq_bound a 131072 ha.1 ha.2
  have sb := sq_bound b 131072 hb.1 hb.2
  have sc := sq_bound c 131072 hc.1 hc.2
  have sd := sq_bound d 131072 hd.1 hd.2
  have na := sq_nonneg a
  have nb := sq_nonneg b
  have nc := sq_nonneg c
  have nd := sq_nonneg d
  unfold tourkeep1_square.f
  rw [wrap64_in (a * a) (by omega) (by omega), wrap64_in (b * b) (by omega) (by omega), wrap64_in (c * c) (by omega) (by omega), wrap64_in (d * d) (by omega) (by omega), wrap64_in (a * a + b * b) (by omega) (by omega), wrap64_in (a * a + b * b + c * c) (by omega) (by omega), wrap64_in (a * a + b * b + c * c + d * d) (by omega) (by omega), Int.tdiv_eq_ediv_of_nonneg (by omega), wrap64_in _ (by omega) (by omega)]
theorem QuatUnits : tourkeep1_QuatUnits.Pure := by
  intro a0 a1 a2 a3 b0 b1 b2 b3 _ _ _ _ _ _ _ _
  obtain ⟨k, hk, hb⟩ : ∃ k, 300 ≤ k ∧ tourkeep1_quatBegun.f k = some true := ⟨400, by omega, by decide +kernel⟩
  refine ⟨k, ?_⟩
  unfold tourkeep1_QuatUnits.f
  rw [hb, Option.bind_some, if_pos rfl]
  obtain ⟨w, x, y, z, hp, hw, hx, hy, hz, P0, P1⟩ := turner_f a0 a1 a2 a3 k hk
  obtain ⟨p, q, r, s, hq, hp', hq', hr, hs, Q0, Q1⟩ := turner_f b0 b1 b2 b3 k hk
  rw [hp, Option.bind_some, hq, Option.bind_some]
  have hback := back_f w x y z (by omega) (by omega) (by omega) (by omega)
  obtain ⟨W, X, Y, Z, E0, E1, E2, E3, hm, m0, m1, m2, m3, e0, e1, e2, e3⟩ := mul4 w x y z w (-x) (-y) (-z) 65536 65536 hw hx hy hz hw (by omega) (by omega) (by omega) (by omega) (by omega) (by omega) k (by omega)
  obtain ⟨A, B, C, D, F0, F1, F2, F3, hn, n0, n1, n2, n3, f0, f1, f2, f3⟩ := mul4 w x y z p q r s 65536 65536 hw hx hy hz hp' hq' hr hs (by omega) (by omega) (by omega) k (by omega)
  have hsq := square_f w x y z (by omega) (by omega) (by omega) (by omega)
  have mm0 : 65536 * W = w * w + x * x + y * y + z * z + E0 := by rw [m0]; grind
  have mm1 : 65536 * X = E1 := by rw [m1]; grind
  have mm2 : 65536 * Y = E2 := by rw [m2]; grind
  have mm3 : 65536 * Z = E3 := by rw [m3]; grind
  clear m0 m1 m2 m3
  have nn := norm4 w x y z p q r s
  have pq := mul_sq_le (w * w + x * x + y * y + z * z) (p * p + q * q + r * r + s * s) 4296212480 4296212480 (by omega) (by omega) (by omega) (by omega)
  have pq0 := mul_sq_le 4293722112 4293722112 (w * w + x * x + y * y + z * z) (p * p + q * q + r * r + s * s) (by omega) (by omega) (by omega) (by omega)
  have mn := mul_norm _ _ _ _ F0 F1 F2 F3 A B C D _ nn n0 n1 n2 n3 f0 f1 f2 f3 4296212480 (by omega) (by omega)
  have na := sq_nonneg A
  have nb := sq_nonneg B
  have nc := sq_nonneg C
  have nd := sq_nonneg D
  have qa : A * A ≤ 131072 * 131072 := by omega
  have qb : B * B ≤ 131072 * 131072 := by omega
  have qc : C * C ≤ 131072 * 131072 := by omega
  have qd : D * D ≤ 131072 * 131072 := by omega
  have bd : ∀ t : Int, t * t ≤ 131072 * 131072 → -131072 ≤ t ∧ t ≤ 131072 := fun t ht => by
    have h1 := le_of_sq t 131072 (by omega) ht
    have h2 := le_of_sq (-t) 131072 (by omega) (by rw [Int.neg_mul_neg]; exact ht)
    omega
  have hsr := square_f A B C D (bd A qa) (bd B qb) (bd C qc) (bd D qd)
  generalize w * w + x * x + y * y + z * z = P at *
  generalize p * p + q * q + r * r + s * s = Q at *
  generalize A * A + B * B + C * C + D * D = R at *
  have c1 : P / 65536 - 65536 ≤ 24 ∧ 65536 - P / 65536 ≤ 24 := by omega
  have c2 : R / 65536 - 65536 ≤ 80 ∧ 65536 - R / 65536 ≤ 80 := by omega
  have c3 : W - 65536 ≤ 40 ∧ 65536 - W ≤ 40 := by omega
  have c4 : X - 0 ≤ 4 ∧ 0 - X ≤ 4 := by omega
  have c5 : Y - 0 ≤ 4 ∧ 0 - Y ≤ 4 := by omega
  have c6 : Z - 0 ≤ 4 ∧ 0 - Z ≤ 4 := by omega
  rw [hback, Option.bind_some, hm, Option.bind_some, hsq, Option.bind_some, near_f _ _ _ (by omega) (by omega), decide_eq_true c1, Option.bind_some, if_pos rfl, hn, Option.bind_some, hsr, Option.bind_some, near_f _ _ _ (by omega) (by omega), decide_eq_true c2, Option.bind_some, if_pos rfl,
    near_f W _ _ (by omega) (by omega), decide_eq_true c3, Option.bind_some, if_pos rfl, near_f X _ _ (by omega) (by omega), decide_eq_true c4, Option.bind_some, if_pos rfl, near_f Y _ _ (by omega) (by omega), decide_eq_true c5, Option.bind_some, if_pos rfl, near_f Z _ _ (by omega) (by omega), decide_eq_true c6, Option.bind_some]

end Go.Proofs.Ytnadffanmnbfcaa.Pure
