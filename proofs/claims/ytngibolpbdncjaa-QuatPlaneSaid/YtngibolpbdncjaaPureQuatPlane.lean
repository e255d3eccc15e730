/- The plain statement of QuatPlane: for every input the law's printed function returns true. No condition. -/
import Derived.Test.YtngibolpbdncjaaPAllx21
import Derived.Test.YtngibolpbdncjaaQQuat
import Derived.Test.YtngibolpbdncjaaQSums
namespace Go.Proofs.Ytngibolpbdncjaa.Pure
open Go Go.RowKit Go.Proofs.Ytngibolpbdncjaa.P Go.Proofs.Ytngibolpbdncjaa.QDiv Go.Proofs.Ytngibolpbdncjaa.QFix Go.Proofs.Ytngibolpbdncjaa.QRoot Go.Proofs.Ytngibolpbdncjaa.QVec Go.Proofs.Ytngibolpbdncjaa.QTrig Go.Proofs.Ytngibolpbdncjaa.QCirc Go.Proofs.Ytngibolpbdncjaa.QSums Go.Proofs.Ytngibolpbdncjaa.QQuat Go.Proofs.YtngibolpbdncjaaW.PrintWords Go.Proofs.YtngibolpbdncjaaW.PrintLast Go.Proofs.YtngibolpbdncjaaW.PrintMore

/-- the turn around the third axis -/
theorem of_third (k : Nat) (hk : 40 ≤ k) (hu : quat_unit.f k [0, 0, 1] = some ([0, 0, 65536], true)) (t : Int) : quat_Of.f k 0 0 1 (2 * t) = some (cosI t, 0, 0, sinI t) := by
  have hs := sinI_range t
  have l3 : (([0, 0, 65536] : List Int).length : Int) = 3 := rfl
  have r0 : rd [0, 0, 65536] 0 = 0 := rfl
  have r1 : rd [0, 0, 65536] 1 = 0 := rfl
  have r2 : rd [0, 0, 65536] 2 = 65536 := rfl
  have h2 : 2 * t / 2 = t := by omega
  unfold quat_Of.f
  rw [hu]
  simp only [Option.bind_some, if_true, h2, sin_f, cos_f, l3, r0, r1, r2, mul_f _ _ k hk, zero_mul, one_mul _ (show -1099511627776 ≤ sinI t by omega) (show sinI t ≤ 1099511627776 by omega)]
  rfl
theorem turn_third (k : Nat) (hk : 40 ≤ k) (c s x y : Int) (hc : -65536 ≤ c ∧ c ≤ 65536) (hs : -65536 ≤ s ∧ s ≤ 65536) (hx : -16777216 ≤ x ∧ x ≤ 16777216) (hy : -16777216 ≤ y ∧ y ≤ 16777216) (hK : s * s + c * c - 4294967296 ≤ 786432 ∧ 4294967296 - (s * s + c * c) ≤ 786432) :
    ∃ u v z E F g h : Int, quat_Turn.f k c 0 0 s x y 5 = some (u, v, z) ∧ -65536 ≤ E ∧ E ≤ 65536 ∧ -65536 ≤ F ∧ F ≤ 65536 ∧ -65536 ≤ g ∧ g ≤ 65536 ∧ -65536 ≤ h ∧ h ≤ 65536 ∧
      4294967296 * u = (c * c - s * s) * x - 2 * (s * c) * y + E * c - F * s + 65536 * g ∧ 4294967296 * v = (c * c - s * s) * y + 2 * (s * c) * x + F * c + E * s + 65536 * h ∧ z - 5 ≤ 4 ∧ 5 - z ≤ 4 := by
  have hn : -65536 ≤ -s ∧ -s ≤ 65536 := by omega
  have n5 : (-16777216 : Int) ≤ 5 ∧ (5 : Int) ≤ 16777216 := by omega
  obtain ⟨p1, p2, p3, p4⟩ := qmul_near c x 65536 16777216 hc.1 hc.2 hx.1 hx.2 (by omega) (by omega) (by omega)
  obtain ⟨q1, q2, q3, q4⟩ := qmul_near s y 65536 16777216 hs.1 hs.2 hy.1 hy.2 (by omega) (by omega) (by omega)
  obtain ⟨r1, r2, r3, r4⟩ := qmul_near c y 65536 16777216 hc.1 hc.2 hy.1 hy.2 (by omega) (by omega) (by omega)
  obtain ⟨s1, s2, s3, s4⟩ := qmul_near s x 65536 16777216 hs.1 hs.2 hx.1 hx.2 (by omega) (by omega) (by omega)
  obtain ⟨t1, t2, t3, t4⟩ := qmul_near s 5 65536 5 hs.1 hs.2 (by omega) (by omega) (by omega) (by omega) (by omega)
  obtain ⟨v1, v2, v3, v4⟩ := qmul_near c 5 65536 5 hc.1 hc.2 (by omega) (by omega) (by omega) (by omega) (by omega)
  have b1 := qprod c x 65536 16777216 hc.1 hc.2 hx.1 hx.2
  have b2 := qprod s y 65536 16777216 hs.1 hs.2 hy.1 hy.2
  have b3 := qprod c y 65536 16777216 hc.1 hc.2 hy.1 hy.2
  have b4 := qprod s x 65536 16777216 hs.1 hs.2 hx.1 hx.2
  obtain ⟨W, X, Y, Z, hm, hW, hX, hY, hZ⟩ : ∃ W X Y Z : Int, quat_Mul.f k c 0 0 s 0 x y 5 = some (W, X, Y, Z) ∧ W = -mulI s 5 ∧ X = mulI c x - mulI s y ∧ Y = mulI c y + mulI s x ∧ Z = mulI c 5 := by
    have h1 := qmul_f c 0 0 s 0 x y 5 65536 16777216 hc (by omega) (by omega) hs (by omega) hx hy n5 (by omega) (by omega) (by omega) k hk
    simp only [QQuat.mul_zero, QQuat.zero_mul, Int.add_zero, Int.sub_zero, Int.zero_sub] at h1
    exact ⟨_, _, _, _, h1, rfl, rfl, rfl, rfl⟩
  generalize hS : mulI s 5 = S at *
  generalize hC : mulI c 5 = C at *
  have X0 : -67108864 ≤ X ∧ X ≤ 67108864 := by omega
  have Y0 : -67108864 ≤ Y ∧ Y ≤ 67108864 := by omega
  have S0 : -67108864 ≤ -S ∧ -S ≤ 67108864 := by omega
  have C0 : -67108864 ≤ C ∧ C ≤ 67108864 := by omega
  have hm2 := qmul_f (-S) X Y C c 0 0 (-s) 67108864 65536 S0 X0 Y0 C0 hc (by omega) (by omega) hn (by omega) (by omega) (by omega) k hk
  simp only [QQuat.mul_zero, Int.zero_add, Int.add_zero, Int.sub_zero, Int.zero_sub] at hm2
  obtain ⟨u, v, z, hT, hu, hv, hz⟩ : ∃ u v z : Int, quat_Turn.f k c 0 0 s x y 5 = some (u, v, z) ∧ u = mulI X c + mulI Y (-s) ∧ v = -mulI X (-s) + mulI Y c ∧ z = mulI (-S) (-s) + mulI C c := by
    refine ⟨_, _, _, ?_, rfl, rfl, rfl⟩
    have hb := back_f c 0 0 s (by omega) (by omega) (by omega) (by omega)
    rw [Int.neg_zero] at hb
    rw [hW, hZ] at hm
    exact turn_parts k c 0 0 s x y 5 _ _ _ _ _ _ _ _ _ _ _ _ hm hb hm2
  obtain ⟨g1, g2, _, _⟩ := qmul_near X c 67108864 65536 X0.1 X0.2 hc.1 hc.2 (by omega) (by omega) (by omega)
  obtain ⟨g3, g4, _, _⟩ := qmul_near Y (-s) 67108864 65536 Y0.1 Y0.2 hn.1 hn.2 (by omega) (by omega) (by omega)
  obtain ⟨g5, g6, _, _⟩ := qmul_near X (-s) 67108864 65536 X0.1 X0.2 hn.1 hn.2 (by omega) (by omega) (by omega)
  obtain ⟨g7, g8, _, _⟩ := qmul_near Y c 67108864 65536 Y0.1 Y0.2 hc.1 hc.2 (by omega) (by omega) (by omega)
  obtain ⟨g9, g10, _, _⟩ := qmul_near (-S) (-s) 67108864 65536 S0.1 S0.2 hn.1 hn.2 (by omega) (by omega) (by omega)
  obtain ⟨g11, g12, _, _⟩ := qmul_near C c 67108864 65536 C0.1 C0.2 hc.1 hc.2 (by omega) (by omega) (by omega)
  generalize mulI X c = M1 at *
  generalize mulI Y (-s) = M2 at *
  generalize mulI X (-s) = M3 at *
  generalize mulI Y c = M4 at *
  generalize mulI (-S) (-s) = M5 at *
  generalize mulI C c = M6 at *
  obtain ⟨E, hE⟩ : ∃ E, E = 65536 * X - (c * x - s * y) := ⟨_, rfl⟩
  obtain ⟨F, hF⟩ : ∃ F, F = 65536 * Y - (c * y + s * x) := ⟨_, rfl⟩
  refine ⟨u, v, z, E, F, 65536 * (M1 + M2) - (X * c + Y * -s), 65536 * (M4 - M3) - (Y * c - X * -s), hT, by omega, by omega, by omega, by omega, by omega, by omega, by omega, by omega, ?_, ?_, ?_⟩
  · rw [hu, hE, hF]; grind
  · rw [hv, hE, hF]; grind
  · -- the third coordinate
    obtain ⟨a, ha⟩ : ∃ a, a = 65536 * S - s * 5 := ⟨_, rfl⟩
    obtain ⟨b, hb⟩ : ∃ b, b = 65536 * C - c * 5 := ⟨_, rfl⟩
    obtain ⟨d, hd⟩ : ∃ d, d = 65536 * (M5 + M6) - (-S * -s + C * c) := ⟨_, rfl⟩
    have key : 4294967296 * (M5 + M6) = 5 * (s * s + c * c) + a * s + b * c + 65536 * d := by rw [ha, hb, hd]; grind
    have pa := qprod a s 32768 65536 (by omega) (by omega) hs.1 hs.2
    have pb := qprod b c 32768 65536 (by omega) (by omega) hc.1 hc.2
    have d0 : -65536 ≤ d ∧ d ≤ 65536 := by omega
    omega
theorem QuatPlane : tourkeep1_QuatPlane.Pure := by
  intro a0 a1 a2 _ _ _
  obtain ⟨k, hk, hb, hu⟩ : ∃ k, 65 ≤ k ∧ tourkeep1_quatBegun.f k = some true ∧ quat_unit.f k [0, 0, 1] = some ([0, 0, 65536], true) := ⟨400, by omega, by decide +kernel, by decide +kernel⟩
  refine ⟨k, ?_⟩
  unfold tourkeep1_QuatPlane.f
  rw [hb]
  simp only [Option.bind_some, if_true]
  rw [number_f a0 16777216 (by omega) (by omega), number_f a1 16777216 (by omega) (by omega), below_f a2 65536 (by omega) (by omega)]
  simp only [Option.bind_some]
  have hx := number_range a0 16777216 (by omega)
  have hy := number_range a1 16777216 (by omega)
  generalize a0 % (2 * 16777216 + 1) - 16777216 = x at *
  generalize a1 % (2 * 16777216 + 1) - 16777216 = y at *
  have t0 : 0 ≤ a2 % 65536 := by omega
  have t1 : a2 % 65536 < 65536 := by omega
  generalize a2 % 65536 = t at *
  rw [wrap64_in (2 * t) (by omega) (by omega), of_third k (by omega) hu t]
  simp only [Option.bind_some]
  have hs := sinI_range t
  have hc := cosI_range t
  have hK := circle t
  have hs2 := sinI_range (2 * t)
  have hc2 := cosI_range (2 * t)
  have u1 := sums t t
  have u2 := sums t (t + 16384)
  have e1 : sinI (t + 16384) = cosI t := rfl
  have e2 : cosI (t + 16384) = -sinI t := by unfold cosI; rw [show t + 16384 + 16384 = t + 32768 by omega, sinI_half]
  have e3 : sinI (t + (t + 16384)) = cosI (2 * t) := by unfold cosI; congr 1; omega
  rw [e1, e2, e3] at u2
  rw [show t + t = 2 * t by omega] at u1
  obtain ⟨m1a, m1b, m1c, m1d⟩ := qmul_near x (cosI (2 * t)) 16777216 65536 hx.1 hx.2 hc2.1 hc2.2 (by omega) (by omega) (by omega)
  obtain ⟨m2a, m2b, m2c, m2d⟩ := qmul_near y (sinI (2 * t)) 16777216 65536 hy.1 hy.2 hs2.1 hs2.2 (by omega) (by omega) (by omega)
  obtain ⟨m3a, m3b, m3c, m3d⟩ := qmul_near x (sinI (2 * t)) 16777216 65536 hx.1 hx.2 hs2.1 hs2.2 (by omega) (by omega) (by omega)
  obtain ⟨m4a, m4b, m4c, m4d⟩ := qmul_near y (cosI (2 * t)) 16777216 65536 hy.1 hy.2 hc2.1 hc2.2 (by omega) (by omega) (by omega)
  have q1 := qprod x (cosI (2 * t)) 16777216 65536 hx.1 hx.2 hc2.1 hc2.2
  have q2 := qprod y (sinI (2 * t)) 16777216 65536 hy.1 hy.2 hs2.1 hs2.2
  have q3 := qprod x (sinI (2 * t)) 16777216 65536 hx.1 hx.2 hs2.1 hs2.2
  have q4 := qprod y (cosI (2 * t)) 16777216 65536 hy.1 hy.2 hc2.1 hc2.2
  rw [vturn_f x y (2 * t) k (by omega), clamp_in (mulI x (cosI (2 * t))) (by omega) (by omega), clamp_in (mulI y (sinI (2 * t))) (by omega) (by omega), clamp_in (mulI x (sinI (2 * t))) (by omega) (by omega), clamp_in (mulI y (cosI (2 * t))) (by omega) (by omega), clamp_in (mulI x (cosI (2 * t)) - mulI y (sinI (2 * t))) (by omega) (by omega), clamp_in (mulI x (sinI (2 * t)) + mulI y (cosI (2 * t))) (by omega) (by omega)]
  simp only [Option.bind_some]
  obtain ⟨u, v, z, E, F, g, h, hT, E0, E1, F0, F1, g0, g1, h0, h1, ku, kv, kz⟩ := turn_third k (by omega) (cosI t) (sinI t) x y hc hs hx hy hK
  rw [hT]
  simp only [Option.bind_some]
  obtain ⟨la, el, la0, la1, la2, la3⟩ := len_f x y 16777216 (by omega) (by omega) hx.1 hx.2 hy.1 hy.2 k hk
  rw [el]
  simp only [Option.bind_some]
  have lx : max x (-x) ≤ la := le_of_sq_lt la0 (by rw [sq_abs]; have := sq_nonneg y; omega)
  have ly : max y (-y) ≤ la := le_of_sq_lt la0 (by rw [sq_abs]; have := sq_nonneg x; omega)
  rw [Int.tdiv_eq_ediv_of_nonneg la0, wrap64_in (la / 500) (by omega) (by omega), wrap64_in (la / 500 + 16) (by omega) (by omega)]
  generalize cosI t = c at *
  generalize sinI t = s at *
  generalize cosI (2 * t) = C at *
  generalize sinI (2 * t) = S at *
  generalize mulI x C = M1 at *
  generalize mulI y S = M2 at *
  generalize mulI x S = M3 at *
  generalize mulI y C = M4 at *
  have pE := qprod E c 65536 65536 (by omega) (by omega) hc.1 hc.2
  have pF := qprod F s 65536 65536 (by omega) (by omega) hs.1 hs.2
  have pE' := qprod E s 65536 65536 (by omega) (by omega) hs.1 hs.2
  have pF' := qprod F c 65536 65536 (by omega) (by omega) hc.1 hc.2
  obtain ⟨dC, hdC⟩ : ∃ d, d = 65536 * C - (c * c - s * s) := ⟨_, rfl⟩
  obtain ⟨dS, hdS⟩ : ∃ d, d = 65536 * S - 2 * (s * c) := ⟨_, rfl⟩
  have cs : c * s = s * c := Int.mul_comm c s
  have ss : s * -s = -(s * s) := by grind
  have dC0 : -983040 ≤ dC ∧ dC ≤ 983040 := by omega
  have dS0 : -983040 ≤ dS ∧ dS ≤ 983040 := by omega
  have pCx := qprod dC x 983040 la dC0.1 dC0.2 (by omega) (by omega)
  have pSy := qprod dS y 983040 la dS0.1 dS0.2 (by omega) (by omega)
  have pCy := qprod dC y 983040 la dC0.1 dC0.2 (by omega) (by omega)
  have pSx := qprod dS x 983040 la dS0.1 dS0.2 (by omega) (by omega)
  have k1 : 4294967296 * (u - (M1 - M2)) = -(dC * x) + dS * y + E * c - F * s + 65536 * g - 65536 * (65536 * (M1 - M2) - (x * C - y * S)) := by
    rw [hdC, hdS]; grind
  have k2 : 4294967296 * (v - (M3 + M4)) = -(dC * y) - dS * x + F * c + E * s + 65536 * h - 65536 * (65536 * (M3 + M4) - (x * S + y * C)) := by
    rw [hdC, hdS]; grind
  have n1 : u - (M1 - M2) ≤ la / 500 + 16 ∧ M1 - M2 - u ≤ la / 500 + 16 := by omega
  have n2 : v - (M3 + M4) ≤ la / 500 + 16 ∧ M3 + M4 - v ≤ la / 500 + 16 := by omega
  rw [near_f _ _ _ (by omega) (by omega), decide_eq_true n1, near_f _ _ _ (by omega) (by omega), decide_eq_true n2, near_f _ _ _ (by omega) (by omega), decide_eq_true kz]
  simp

end Go.Proofs.Ytngibolpbdncjaa.Pure
