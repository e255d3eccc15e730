/- The plain statement of QuatBlends: for every input the law's printed function returns true. No condition. -/

import Derived.Test.YtnadffanmnbfcaaQBf
import Derived.Test.YtnadffanmnbfcaaQBl
namespace Go.Proofs.Ytnadffanmnbfcaa.Pure
open Go Go.RowKit Go.Proofs.Ytnadffanmnbfcaa.P Go.Proofs.Ytnadffanmnbfcaa.QDiv Go.Proofs.Ytnadffanmnbfcaa.QFix Go.Proofs.Ytnadffanmnbfcaa.QRoot Go.Proofs.Ytnadffanmnbfcaa.QVec Go.Proofs.Ytnadffanmnbfcaa.QTrig Go.Proofs.Ytnadffanmnbfcaa.QCirc Go.Proofs.Ytnadffanmnbfcaa.QQuat Go.Proofs.Ytnadffanmnbfcaa.QUnit Go.Proofs.Ytnadffanmnbfcaa.QOf Go.Proofs.Ytnadffanmnbfcaa.QKeep Go.Proofs.Ytnadffanmnbfcaa.QBl Go.Proofs.YtnadffanmnbfcaaW.PrintWords Go.Proofs.YtnadffanmnbfcaaW.PrintLast Go.Proofs.YtnadffanmnbfcaaW.PrintMore

theorem one_close (p e : Int) (he : -1 ≤ e ∧ e ≤ 1) : 65536 * (e * p) ≤ p * p + 1073741824 ∧ -(p * p + 1073741824) ≤ 65536 * (e * p) := by
  have h1 := sq_nonneg (p - 32768)
  have h2 := sq_nonneg (p + 32768)
  have h3 := sq_nonneg p
  have e1 : (p - 32768) * (p - 32768) = p * p - 65536 * p + 1073741824 := by grind
  have e2 : (p + 32768) * (p + 32768) = p * p + 65536 * p + 1073741824 := by grind
  have : e = -1 ∨ e = 0 ∨ e = 1 := by omega
  rcases this with h | h | h <;> rw [h] <;> omega
theorem norm_close (p0 p1 p2 p3 e0 e1 e2 e3 : Int) (h0 : -1 ≤ e0 ∧ e0 ≤ 1) (h1 : -1 ≤ e1 ∧ e1 ≤ 1) (h2 : -1 ≤ e2 ∧ e2 ≤ 1) (h3 : -1 ≤ e3 ∧ e3 ≤ 1) (hP : p0 * p0 + p1 * p1 + p2 * p2 + p3 * p3 ≤ 4296212480) :
    p0 * p0 + p1 * p1 + p2 * p2 + p3 * p3 - ((p0 + e0) * (p0 + e0) + (p1 + e1) * (p1 + e1) + (p2 + e2) * (p2 + e2) + (p3 + e3) * (p3 + e3)) ≤ 262190 ∧ (p0 + e0) * (p0 + e0) + (p1 + e1) * (p1 + e1) + (p2 + e2) * (p2 + e2) + (p3 + e3) * (p3 + e3) - (p0 * p0 + p1 * p1 + p2 * p2 + p3 * p3) ≤ 262190 := by
  obtain ⟨a0, b0⟩ := one_close p0 e0 h0
  obtain ⟨a1, b1⟩ := one_close p1 e1 h1
  obtain ⟨a2, b2⟩ := one_close p2 e2 h2
  obtain ⟨a3, b3⟩ := one_close p3 e3 h3
  have s0 := sq_bound e0 1 h0.1 h0.2
  have s1 := sq_bound e1 1 h1.1 h1.2
  have s2 := sq_bound e2 1 h2.1 h2.2
  have s3 := sq_bound e3 1 h3.1 h3.2
  have n0 := sq_nonneg e0
  have n1 := sq_nonneg e1
  have n2 := sq_nonneg e2
  have n3 := sq_nonneg e3
  have x : ∀ p e : Int, (p + e) * (p + e) = p * p + 2 * (e * p) + e * e := by intro p e; grind
  rw [x p0, x p1, x p2, x p3]
  omega
theorem QuatBlends : tourkeep1_QuatBlends.Pure := by
  intro a0 a1 a2 a3 b0 b1 b2 b3 t _ _ _ _ _ _ _ _ _
  obtain ⟨k, hk, hb⟩ : ∃ k, 500 ≤ k ∧ tourkeep1_quatBegun.f k = some true := ⟨600, by omega, by decide +kernel⟩
  refine ⟨k, ?_⟩
  unfold tourkeep1_QuatBlends.f
  rw [hb, Option.bind_some, if_pos rfl]
  obtain ⟨p0, p1, p2, p3, hp, P0, P1, P2, P3, S0, S1⟩ := turner_f a0 a1 a2 a3 k (by omega)
  obtain ⟨q0, q1, q2, q3, hq, Q0, Q1, Q2, Q3, _, _⟩ := turner_f b0 b1 b2 b3 k (by omega)
  rw [hp, Option.bind_some, hq, Option.bind_some]
  clear hp hq hb
  obtain ⟨n, rfl⟩ : ∃ n, k = n + 1 := ⟨k - 1, by omega⟩
  have hm : ∃ x y z u : Int, quat_Blend.f (n + 1) p0 p1 p2 p3 q0 q1 q2 q3 t = some (x, y, z, u) ∧ (-65536 ≤ x ∧ x ≤ 65536) ∧ (-65536 ≤ y ∧ y ≤ 65536) ∧ (-65536 ≤ z ∧ z ≤ 65536) ∧ (-65536 ≤ u ∧ u ≤ 65536) ∧
      x * x + y * y + z * z + u * u - 4294967296 ≤ 262160 ∧ 4294967296 - (x * x + y * y + z * z + u * u) ≤ 262160 := by
    rw [blend_f t p0 p1 p2 p3 q0 q1 q2 q3 P0 P1 P2 P3 Q0 Q1 Q2 Q3 n (by omega)]
    have ht : 0 ≤ min (max t 0) 65536 ∧ min (max t 0) 65536 ≤ 65536 := by omega
    generalize min (max t 0) 65536 = t' at ht ⊢
    by_cases h : dotI p0 p1 p2 p3 q0 q1 q2 q3 < 0
    · rw [if_pos h]
      have m0 := mix_range p0 (-q0) t' P0 (by omega) ht
      have m1 := mix_range p1 (-q1) t' P1 (by omega) ht
      have m2 := mix_range p2 (-q2) t' P2 (by omega) ht
      have m3 := mix_range p3 (-q3) t' P3 (by omega) ht
      obtain ⟨x, y, z, u, h, r⟩ := unit_sq (mixI p0 (-q0) t') (mixI p1 (-q1) t') (mixI p2 (-q2) t') (mixI p3 (-q3) t') (by omega) (by omega) (by omega) (by omega)
      exact ⟨x, y, z, u, h n (by omega), r⟩
    · rw [if_neg h]
      have m0 := mix_range p0 q0 t' P0 (by omega) ht
      have m1 := mix_range p1 q1 t' P1 (by omega) ht
      have m2 := mix_range p2 q2 t' P2 (by omega) ht
      have m3 := mix_range p3 q3 t' P3 (by omega) ht
      obtain ⟨x, y, z, u, h, r⟩ := unit_sq (mixI p0 q0 t') (mixI p1 q1 t') (mixI p2 q2 t') (mixI p3 q3 t') (by omega) (by omega) (by omega) (by omega)
      exact ⟨x, y, z, u, h n (by omega), r⟩
  obtain ⟨x, y, z, u, hm, X0, Y0, Z0, U0, M0, M1⟩ := hm
  obtain ⟨e0, e1, e2, e3, he, _⟩ := unit_sq q0 q1 q2 q3 (by omega) (by omega) (by omega) (by omega)
  obtain ⟨g0, g1, g2, g3, hg, _⟩ := unit_sq (-q0) (-q1) (-q2) (-q3) (by omega) (by omega) (by omega) (by omega)
  have hend : quat_Blend.f (n + 1) p0 p1 p2 p3 q0 q1 q2 q3 65536 = some (e0, e1, e2, e3) ∨ quat_Blend.f (n + 1) p0 p1 p2 p3 q0 q1 q2 q3 65536 = some (g0, g1, g2, g3) := by
    rw [blend_f 65536 p0 p1 p2 p3 q0 q1 q2 q3 P0 P1 P2 P3 Q0 Q1 Q2 Q3 n (by omega), show min (max (65536 : Int) 0) 65536 = 65536 by omega]
    by_cases h : dotI p0 p1 p2 p3 q0 q1 q2 q3 < 0
    · right
      rw [if_pos h, mix_one p0 (-q0) (by omega), mix_one p1 (-q1) (by omega), mix_one p2 (-q2) (by omega), mix_one p3 (-q3) (by omega)]
      exact hg n (by omega)
    · left
      rw [if_neg h, mix_one p0 q0 Q0, mix_one p1 q1 Q1, mix_one p2 q2 Q2, mix_one p3 q3 Q3]
      exact he n (by omega)
  -- the direction of p, and that of the blend of p with itself
  obtain ⟨A, a, A1, ad, as0, as1, hu⟩ : ∃ A a : Int, 1 ≤ A ∧ 1073741824 ≤ a ∧ a * a ≤ A * A * (p0 * p0 + p1 * p1 + p2 * p2 + p3 * p3) ∧ A * A * (p0 * p0 + p1 * p1 + p2 * p2 + p3 * p3) < (a + 1) * (a + 1) ∧ ∀ k, 400 ≤ k → quat_Unit.f k p0 p1 p2 p3 = some (shareI (A * p0) a, shareI (A * p1) a, shareI (A * p2) a, shareI (A * p3) a) := by
    rcases unit_f p0 p1 p2 p3 (by omega) (by omega) (by omega) (by omega) with ⟨z0, z1, z2, z3, _⟩ | ⟨s, D, s1, D0, T0, T1, h⟩
    · rw [z0, z1, z2, z3] at S1; omega
    · have e : (s * p0) * (s * p0) + (s * p1) * (s * p1) + (s * p2) * (s * p2) + (s * p3) * (s * p3) = s * s * (p0 * p0 + p1 * p1 + p2 * p2 + p3 * p3) := by grind
      rw [e] at T0 T1
      exact ⟨s, D, s1, D0, T0, T1, h⟩
  have hzero : quat_Blend.f (n + 1) p0 p1 p2 p3 q0 q1 q2 q3 0 = some (shareI (A * p0) a, shareI (A * p1) a, shareI (A * p2) a, shareI (A * p3) a) := by
    rw [blend_f 0 p0 p1 p2 p3 q0 q1 q2 q3 P0 P1 P2 P3 Q0 Q1 Q2 Q3 n (by omega), show min (max (0 : Int) 0) 65536 = 0 by omega]
    rw [mix_zero p0 _ P0, mix_zero p1 _ P1, mix_zero p2 _ P2, mix_zero p3 _ P3, mix_zero p0 _ P0, mix_zero p1 _ P1, mix_zero p2 _ P2, mix_zero p3 _ P3, hu n (by omega), ite_self]
  have hs : ∃ s0 s1 s2 s3 : Int, quat_Blend.f (n + 1) p0 p1 p2 p3 p0 p1 p2 p3 t = some (s0, s1, s2, s3) ∧ (s0 - shareI (A * p0) a ≤ 4 ∧ shareI (A * p0) a - s0 ≤ 4) ∧ (s1 - shareI (A * p1) a ≤ 4 ∧ shareI (A * p1) a - s1 ≤ 4) ∧ (s2 - shareI (A * p2) a ≤ 4 ∧ shareI (A * p2) a - s2 ≤ 4) ∧ (s3 - shareI (A * p3) a ≤ 4 ∧ shareI (A * p3) a - s3 ≤ 4) := by
    rw [blend_f t p0 p1 p2 p3 p0 p1 p2 p3 P0 P1 P2 P3 P0 P1 P2 P3 n (by omega), if_neg (dot_self p0 p1 p2 p3 P0 P1 P2 P3)]
    have ht : 0 ≤ min (max t 0) 65536 ∧ min (max t 0) 65536 ≤ 65536 := by omega
    generalize min (max t 0) 65536 = t' at ht ⊢
    have d0 := mix_same p0 t' P0 ht
    have d1 := mix_same p1 t' P1 ht
    have d2 := mix_same p2 t' P2 ht
    have d3 := mix_same p3 t' P3 ht
    obtain ⟨c0, hc0⟩ : ∃ c, c = mixI p0 p0 t' - p0 := ⟨_, rfl⟩
    obtain ⟨c1, hc1⟩ : ∃ c, c = mixI p1 p1 t' - p1 := ⟨_, rfl⟩
    obtain ⟨c2, hc2⟩ : ∃ c, c = mixI p2 p2 t' - p2 := ⟨_, rfl⟩
    obtain ⟨c3, hc3⟩ : ∃ c, c = mixI p3 p3 t' - p3 := ⟨_, rfl⟩
    rw [show mixI p0 p0 t' = p0 + c0 by omega, show mixI p1 p1 t' = p1 + c1 by omega, show mixI p2 p2 t' = p2 + c2 by omega, show mixI p3 p3 t' = p3 + c3 by omega]
    rw [← hc0] at d0
    rw [← hc1] at d1
    rw [← hc2] at d2
    rw [← hc3] at d3
    clear hc0 hc1 hc2 hc3 hm he hg hend hu hzero
    have nc := norm_close p0 p1 p2 p3 c0 c1 c2 c3 d0 d1 d2 d3 (by omega)
    obtain ⟨B, b, B1, bd, bs0, bs1, hv⟩ : ∃ B b : Int, 1 ≤ B ∧ 1073741824 ≤ b ∧ b * b ≤ B * B * ((p0 + c0) * (p0 + c0) + (p1 + c1) * (p1 + c1) + (p2 + c2) * (p2 + c2) + (p3 + c3) * (p3 + c3)) ∧ B * B * ((p0 + c0) * (p0 + c0) + (p1 + c1) * (p1 + c1) + (p2 + c2) * (p2 + c2) + (p3 + c3) * (p3 + c3)) < (b + 1) * (b + 1) ∧ ∀ k, 400 ≤ k → quat_Unit.f k (p0 + c0) (p1 + c1) (p2 + c2) (p3 + c3) = some (shareI (B * (p0 + c0)) b, shareI (B * (p1 + c1)) b, shareI (B * (p2 + c2)) b, shareI (B * (p3 + c3)) b) := by
      rcases unit_f (p0 + c0) (p1 + c1) (p2 + c2) (p3 + c3) (by omega) (by omega) (by omega) (by omega) with ⟨z0, z1, z2, z3, _⟩ | ⟨s, D, s1, D0, T0, T1, h⟩
      · rw [z0, z1, z2, z3] at nc; omega
      · have e : (s * (p0 + c0)) * (s * (p0 + c0)) + (s * (p1 + c1)) * (s * (p1 + c1)) + (s * (p2 + c2)) * (s * (p2 + c2)) + (s * (p3 + c3)) * (s * (p3 + c3)) = s * s * ((p0 + c0) * (p0 + c0) + (p1 + c1) * (p1 + c1) + (p2 + c2) * (p2 + c2) + (p3 + c3) * (p3 + c3)) := by grind
        rw [e] at T0 T1
        exact ⟨s, D, s1, D0, T0, T1, h⟩
    generalize (p0 + c0) * (p0 + c0) + (p1 + c1) * (p1 + c1) + (p2 + c2) * (p2 + c2) + (p3 + c3) * (p3 + c3) = N at nc bs0 bs1
    generalize p0 * p0 + p1 * p1 + p2 * p2 + p3 * p3 = P at *
    have ra := root_share A a P A1 (by omega) (by omega) (by omega) as0 as1
    have rb := root_share B b N B1 (by omega) (by omega) (by omega) bs0 bs1
    have sc := scales A B a b P N (by omega) (by omega) ra rb nc as0 as1 bs0 bs1
    have f := fun p e hp he => share_close A B a b p e (by omega) (by omega) ra rb sc hp he
    exact ⟨_, _, _, _, hv n (by omega), f p0 c0 P0 d0, f p1 c1 P1 d1, f p2 c2 P2 d2, f p3 c3 P3 d3⟩
  obtain ⟨s0, s1, s2, s3, hs, D0, D1, D2, D3⟩ := hs
  have hu1 := hu (n + 1) (by omega)
  have he1 := he (n + 1) (by omega)
  have hg1 := hg (n + 1) (by omega)
  clear hu he hg as0 as1 ad A1
  generalize shareI (A * p0) a = u0 at *
  generalize shareI (A * p1) a = u1 at *
  generalize shareI (A * p2) a = u2 at *
  generalize shareI (A * p3) a = u3 at *
  have hsq := square_f x y z u (by omega) (by omega) (by omega) (by omega)
  generalize x * x + y * y + z * z + u * u = S at *
  have c1 : S / 65536 - 65536 ≤ 8 ∧ 65536 - S / 65536 ≤ 8 := by omega
  have fin : ((tourkeep1_square.f x y z u).bind fun t305 => ((tourkeep1_near.f t305 65536 8).bind fun t306 => (if t306 = true then ((tourkeep1_near.f s0 u0 4).bind fun t307 => (if t307 = true then ((tourkeep1_near.f s1 u1 4).bind fun t308 => (if t308 = true then ((tourkeep1_near.f s2 u2 4).bind fun t309 => (if t309 = true then ((tourkeep1_near.f s3 u3 4).bind fun t310 => (some t310)) else (none))) else (none))) else (none))) else (none)))) = some true := by
    rw [hsq, Option.bind_some, near_f _ _ _ (by omega) (by omega), decide_eq_true c1, Option.bind_some, if_pos rfl, near_f s0 _ _ (by omega) (by omega), decide_eq_true D0, Option.bind_some, if_pos rfl, near_f s1 _ _ (by omega) (by omega), decide_eq_true D1, Option.bind_some, if_pos rfl,
      near_f s2 _ _ (by omega) (by omega), decide_eq_true D2, Option.bind_some, if_pos rfl, near_f s3 _ _ (by omega) (by omega), decide_eq_true D3, Option.bind_some]
  rcases hend with hend | hend
  · rw [hm, Option.bind_some, hend, Option.bind_some, hs, Option.bind_some, hu1, Option.bind_some, hzero, Option.bind_some, Option.bind_some, if_pos (by simp), he1, Option.bind_some, if_pos (by simp)]
    exact fin
  · rw [hm, Option.bind_some, hend, Option.bind_some, hs, Option.bind_some, hu1, Option.bind_some, hzero, Option.bind_some, Option.bind_some, if_pos (by simp), he1, Option.bind_some]
    by_cases hc : (g0 == e0 && (g1 == e1 && (g2 == e2 && (g3 == e3)))) = true
    · rw [if_pos hc]
      exact fin
    · rw [if_neg hc, wrap64_in (-q0) (by omega) (by omega), wrap64_in (-q1) (by omega) (by omega), wrap64_in (-q2) (by omega) (by omega), wrap64_in (-q3) (by omega) (by omega), hg1, Option.bind_some, if_pos (by simp)]
      exact fin

end Go.Proofs.Ytnadffanmnbfcaa.Pure
