/- The plain statement of QuatKeeps: for every input the law's printed function returns true. No condition. -/
import Derived.Test.YtnadffanmnbfcaaPAllx18
import Derived.Test.YtnadffanmnbfcaaPAllx16
import Derived.Test.YtnadffanmnbfcaaPAllx12
import Derived.Test.YtnadffanmnbfcaaPAllx8
import Derived.Test.YtnadffanmnbfcaaQOf2
import Derived.Test.YtnadffanmnbfcaaQKeep2
namespace Go.Proofs.Ytnadffanmnbfcaa.Pure
open Go Go.RowKit Go.Proofs.Ytnadffanmnbfcaa.P Go.Proofs.Ytnadffanmnbfcaa.QDiv Go.Proofs.Ytnadffanmnbfcaa.QFix Go.Proofs.Ytnadffanmnbfcaa.QRoot Go.Proofs.Ytnadffanmnbfcaa.QVec Go.Proofs.Ytnadffanmnbfcaa.QTrig Go.Proofs.Ytnadffanmnbfcaa.QCirc Go.Proofs.Ytnadffanmnbfcaa.QQuat Go.Proofs.Ytnadffanmnbfcaa.QOf Go.Proofs.Ytnadffanmnbfcaa.QKeep Go.Proofs.YtnadffanmnbfcaaW.PrintWords Go.Proofs.YtnadffanmnbfcaaW.PrintLast Go.Proofs.YtnadffanmnbfcaaW.PrintMore

theorem turner_g (a b c g : Int) (k : Nat) (hk : 300 ≤ k) :
    ∃ p0 p1 p2 p3 : Int, tourkeep1_turner.f k a b c g = some (p0, p1, p2, p3) ∧ (-65536 ≤ p0 ∧ p0 ≤ 65536) ∧ (-65536 ≤ p1 ∧ p1 ≤ 65536) ∧ (-65536 ≤ p2 ∧ p2 ≤ 65536) ∧ (-65536 ≤ p3 ∧ p3 ≤ 65536) ∧
      p0 * p0 + p1 * p1 + p2 * p2 + p3 * p3 - 4294967296 ≤ 1245184 ∧ 4294967296 - (p0 * p0 + p1 * p1 + p2 * p2 + p3 * p3) ≤ 1245184 := by
  have ha := number_range a 1048576 (by omega)
  have hb := number_range b 1048576 (by omega)
  have hc := number_range c 1048576 (by omega)
  obtain ⟨p0, p1, p2, p3, h, rest⟩ := of_f (a % (2 * 1048576 + 1) - 1048576) (b % (2 * 1048576 + 1) - 1048576) (c % (2 * 1048576 + 1) - 1048576) g (by omega) (by omega) (by omega) k hk
  refine ⟨p0, p1, p2, p3, ?_, rest⟩
  unfold tourkeep1_turner.f
  rw [number_f a 1048576 (by omega) (by omega), Option.bind_some, number_f b 1048576 (by omega) (by omega), Option.bind_some, number_f c 1048576 (by omega) (by omega), Option.bind_some, h, Option.bind_some]
/-- the length of a vector of three numbers, as the law computes it -/
theorem long_f (x y z : Int) (hx : -67108864 ≤ x ∧ x ≤ 67108864) (hy : -67108864 ≤ y ∧ y ≤ 67108864) (hz : -67108864 ≤ z ∧ z ≤ 67108864) (k : Nat) (hk : 65 ≤ k) :
    ∃ l, tourkeep1_QuatKeeps_1.f k x y z = some l ∧ 0 ≤ l ∧ l ≤ 268435456 ∧ l * l ≤ x * x + y * y + z * z ∧ x * x + y * y + z * z < (l + 2) * (l + 2) := by
  obtain ⟨m, hm, m0, m1, m2, m3⟩ := len_f x y 67108864 (by omega) (by omega) hx.1 hx.2 hy.1 hy.2 k hk
  obtain ⟨l, hl, l0, l1, l2, l3⟩ := len_f m z 134217728 (by omega) (by omega) (by omega) (by omega) (by omega) (by omega) k hk
  refine ⟨l, ?_, l0, by omega, by omega, ?_⟩
  · unfold tourkeep1_QuatKeeps_1.f
    rw [hm, Option.bind_some, hl, Option.bind_some]
  · have nz := sq_nonneg z
    have ml : m ≤ l := le_of_sq_lt l0 (by omega)
    have e1 : (m + 1) * (m + 1) = m * m + 2 * m + 1 := by grind
    have e2 : (l + 1) * (l + 1) = l * l + 2 * l + 1 := by grind
    have e3 : (l + 2) * (l + 2) = l * l + 4 * l + 4 := by grind
    omega
/-- lengths of vectors that differ by a small one -/
theorem long_near (a b R S T G0 G1 G2 r s t V P : Int) (ha : 0 ≤ a) (hb : 0 ≤ b) (hP0 : 4293722112 ≤ P) (hP1 : P ≤ 4296212480)
    (hr : 4294967296 * r = R + G0) (hs : 4294967296 * s = S + G1) (ht : 4294967296 * t = T + G2) (hG : G0 * G0 + G1 * G1 + G2 * G2 ≤ 34359738368 * 34359738368)
    (hN : R * R + S * S + T * T = V * (P * P)) (a1 : a * a ≤ V) (a2 : V < (a + 2) * (a + 2)) (b1 : b * b ≤ r * r + s * s + t * t) (b2 : r * r + s * s + t * t < (b + 2) * (b + 2)) (ha3 : a ≤ 268435456) :
    b - a ≤ a / 500 + 16 ∧ a - b ≤ a / 500 + 16 := by
  have nP := sq_nonneg P
  have f : ∀ c : Int, (4294967296 * c) * (4294967296 * c) = 18446744073709551616 * (c * c) := fun c => by grind
  constructor
  · -- not much longer
    have u : R * R + S * S + T * T ≤ ((a + 2) * P) * ((a + 2) * P) := by
      have h1 : V * (P * P) ≤ ((a + 2) * (a + 2)) * (P * P) := Int.mul_le_mul_of_nonneg_right (by omega) nP
      have h2 : ((a + 2) * (a + 2)) * (P * P) = ((a + 2) * P) * ((a + 2) * P) := by grind
      omega
    have v := tri3 R S T G0 G1 G2 _ _ (Int.mul_nonneg (by omega) (by omega)) (by omega) u hG
    rw [← hr, ← hs, ← ht, f, f, f] at v
    have w := le_of_sq (4294967296 * b) ((a + 2) * P + 34359738368) (by have := Int.mul_nonneg (a := a + 2) (b := P) (by omega) (by omega); omega) (by rw [f]; omega)
    have x := Int.mul_le_mul_of_nonneg_left hP1 (show (0 : Int) ≤ a + 2 by omega)
    omega
  · -- not much shorter
    have u : (4294967296 * r) * (4294967296 * r) + (4294967296 * s) * (4294967296 * s) + (4294967296 * t) * (4294967296 * t) ≤ (4294967296 * (b + 2)) * (4294967296 * (b + 2)) := by
      rw [f, f, f, f]; omega
    have hG' : -G0 * -G0 + -G1 * -G1 + -G2 * -G2 ≤ 34359738368 * 34359738368 := by rw [Int.neg_mul_neg, Int.neg_mul_neg, Int.neg_mul_neg]; exact hG
    have v := tri3 _ _ _ (-G0) (-G1) (-G2) _ _ (by omega) (by omega) u hG'
    rw [show 4294967296 * r + -G0 = R by omega, show 4294967296 * s + -G1 = S by omega, show 4294967296 * t + -G2 = T by omega, hN] at v
    have w := le_of_sq (a * P) (4294967296 * (b + 2) + 34359738368) (by omega) (by
      have h1 : (a * a) * (P * P) ≤ V * (P * P) := Int.mul_le_mul_of_nonneg_right a1 nP
      have h2 : (a * a) * (P * P) = (a * P) * (a * P) := by grind
      omega)
    have x := Int.mul_le_mul_of_nonneg_left hP0 ha
    omega
/-- a coordinate of the axis stays near -/
theorem axis_near (a v r R G P G1 G2 : Int) (ha : 0 ≤ a) (hv : v * v < (a + 2) * (a + 2)) (hP0 : 4293722112 ≤ P) (hP1 : P ≤ 4296212480) (hr : 4294967296 * r = R + G) (hR : R = v * P) (hG : G * G + G1 * G1 + G2 * G2 ≤ 34359738368 * 34359738368) :
    r - v ≤ a / 500 + 16 ∧ v - r ≤ a / 500 + 16 := by
  have n1 := sq_nonneg G1
  have n2 := sq_nonneg G2
  have g1 := le_of_sq G 34359738368 (by omega) (by omega)
  have g2 := le_of_sq (-G) 34359738368 (by omega) (by rw [Int.neg_mul_neg]; omega)
  rw [show a + 2 = a + 1 + 1 by omega] at hv
  have v1 := le_of_sq_lt (a := v) (b := a + 1) (by omega) hv
  have v2 := le_of_sq_lt (a := -v) (b := a + 1) (by omega) (by rw [Int.neg_mul_neg]; exact hv)
  have q := qprod v (P - 4294967296) (a + 1) 1245184 (by omega) v1 (by omega) (by omega)
  have e : v * (P - 4294967296) = v * P - 4294967296 * v := by grind
  omega
theorem QuatKeeps : tourkeep1_QuatKeeps.Pure := by
  intro a0 a1 a2 a3 b0 b1 b2 _ _ _ _ _ _ _
  obtain ⟨k, hk, hb⟩ : ∃ k, 300 ≤ k ∧ tourkeep1_quatBegun.f k = some true := ⟨400, by omega, by decide +kernel⟩
  refine ⟨k, ?_⟩
  unfold tourkeep1_QuatKeeps.f
  rw [hb, Option.bind_some, if_pos rfl]
  obtain ⟨w, x, y, z, hp, hw, hx, hy, hz, P0, P1⟩ := turner_g a0 a1 a2 a3 k hk
  rw [hp, Option.bind_some, number_f b0 16777216 (by omega) (by omega), Option.bind_some, number_f b1 16777216 (by omega) (by omega), Option.bind_some, number_f b2 16777216 (by omega) (by omega), Option.bind_some]
  have ha := number_range b0 16777216 (by omega)
  have hb' := number_range b1 16777216 (by omega)
  have hc := number_range b2 16777216 (by omega)
  generalize b0 % (2 * 16777216 + 1) - 16777216 = a at *
  generalize b1 % (2 * 16777216 + 1) - 16777216 = b at *
  generalize b2 % (2 * 16777216 + 1) - 16777216 = c at *
  obtain ⟨r, s, t, R, S, T, G0, G1, G2, hT, hr, hs, ht, hG, hN, _, _, _⟩ := turn_near w x y z a b c hw hx hy hz ha hb' hc (by omega) k (by omega)
  obtain ⟨u, v, o, U, V, O, J0, J1, J2, hT', hu, hv, ho, hJ, hM, hU, hV, hO⟩ := turn_near w x y z (x * 16) (y * 16) (z * 16) hw hx hy hz (by omega) (by omega) (by omega) (by omega) k (by omega)
  have eU : U = (x * 16) * (w * w + x * x + y * y + z * z) := by rw [hU]; grind
  have eV : V = (y * 16) * (w * w + x * x + y * y + z * z) := by rw [hV]; grind
  have eO : O = (z * 16) * (w * w + x * x + y * y + z * z) := by rw [hO]; grind
  clear hU hV hO hM
  generalize w * w + x * x + y * y + z * z = P at *
  have sa := sq_bound a 16777216 ha.1 ha.2
  have sb := sq_bound b 16777216 hb'.1 hb'.2
  have sc := sq_bound c 16777216 hc.1 hc.2
  have hN' : R * R + S * S + T * T ≤ 1125899906842624 * (P * P) := by
    rw [hN]; exact Int.mul_le_mul_of_nonneg_right (by omega) (sq_nonneg P)
  have bd : ∀ h H A G B : Int, 4294967296 * h = H + G → 0 ≤ A → H * H + A ≤ 1125899906842624 * (P * P) → 0 ≤ B → G * G + B ≤ 34359738368 * 34359738368 → -67108864 ≤ h ∧ h ≤ 67108864 := fun h H A G B e1 n1 e2 n2 e3 => by
    have g1 := le_of_sq G 34359738368 (by omega) (by omega)
    have g2 := le_of_sq (-G) 34359738368 (by omega) (by rw [Int.neg_mul_neg]; omega)
    have e : 1125899906842624 * (P * P) = (33554432 * P) * (33554432 * P) := by grind
    have h1 := le_of_sq H (33554432 * P) (by omega) (by omega)
    have h2 := le_of_sq (-H) (33554432 * P) (by omega) (by rw [Int.neg_mul_neg]; omega)
    omega
  have nR := sq_nonneg R
  have nS := sq_nonneg S
  have nT := sq_nonneg T
  have n0 := sq_nonneg G0
  have n1 := sq_nonneg G1
  have n2 := sq_nonneg G2
  have br := bd r R (S * S + T * T) G0 (G1 * G1 + G2 * G2) hr (by omega) (by omega) (by omega) (by omega)
  have bs := bd s S (R * R + T * T) G1 (G0 * G0 + G2 * G2) hs (by omega) (by omega) (by omega) (by omega)
  have bt := bd t T (R * R + S * S) G2 (G0 * G0 + G1 * G1) ht (by omega) (by omega) (by omega) (by omega)
  clear bd nR nS nT n0 n1 n2 hN' sa sb sc
  obtain ⟨l, hl, l0, l1, l2, l3⟩ := long_f r s t br bs bt k (by omega)
  obtain ⟨m, hm, m0, m1, m2, m3⟩ := long_f a b c (by omega) (by omega) (by omega) k (by omega)
  obtain ⟨n, hn, n0, n1, n2, n3⟩ := long_f (x * 16) (y * 16) (z * 16) (by omega) (by omega) (by omega) k (by omega)
  have c1 := long_near m l R S T G0 G1 G2 r s t _ P m0 l0 (by omega) (by omega) hr hs ht hG hN m2 m3 l2 l3 m1
  have nx := sq_nonneg (x * 16)
  have ny := sq_nonneg (y * 16)
  have nz := sq_nonneg (z * 16)
  have c2 := axis_near n (x * 16) u U J0 P J1 J2 n0 (by omega) (by omega) (by omega) hu eU hJ
  have c3 := axis_near n (y * 16) v V J1 P J0 J2 n0 (by omega) (by omega) (by omega) hv eV (by omega)
  have c4 := axis_near n (z * 16) o O J2 P J0 J1 n0 (by omega) (by omega) (by omega) ho eO (by omega)
  rw [wrap64_in (x * 16) (by omega) (by omega), wrap64_in (y * 16) (by omega) (by omega), wrap64_in (z * 16) (by omega) (by omega)]
  rw [hT', Option.bind_some, hn, Option.bind_some, hT, Option.bind_some, hl, Option.bind_some, hm, Option.bind_some, Option.bind_some,
    Int.tdiv_eq_ediv_of_nonneg m0, wrap64_in (m / 500) (by omega) (by omega), wrap64_in (m / 500 + 16) (by omega) (by omega),
    Int.tdiv_eq_ediv_of_nonneg n0, wrap64_in (n / 500) (by omega) (by omega), wrap64_in (n / 500 + 16) (by omega) (by omega),
    near_f l m _ (by omega) (by omega), decide_eq_true c1, Option.bind_some, if_pos rfl,
    near_f u _ _ (by omega) (by omega), decide_eq_true c2, Option.bind_some, if_pos rfl,
    near_f v _ _ (by omega) (by omega), decide_eq_true c3, Option.bind_some, if_pos rfl,
    near_f o _ _ (by omega) (by omega), decide_eq_true c4, Option.bind_some]

end Go.Proofs.Ytnadffanmnbfcaa.Pure
