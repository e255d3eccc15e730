/- The plain statement of VecTurns: for every input the law's printed function returns true. No condition. -/
import Derived.Test.YtngibolpbdncjaaPAllx18
import Derived.Test.YtngibolpbdncjaaQVec
import Derived.Test.YtngibolpbdncjaaQCirc
namespace Go.Proofs.Ytngibolpbdncjaa.Pure
open Go Go.RowKit Go.Proofs.Ytngibolpbdncjaa.P Go.Proofs.Ytngibolpbdncjaa.QDiv Go.Proofs.Ytngibolpbdncjaa.QFix Go.Proofs.Ytngibolpbdncjaa.QRoot Go.Proofs.Ytngibolpbdncjaa.QVec Go.Proofs.Ytngibolpbdncjaa.QTrig Go.Proofs.Ytngibolpbdncjaa.QCirc Go.Proofs.YtngibolpbdncjaaW.PrintWords Go.Proofs.YtngibolpbdncjaaW.PrintLast Go.Proofs.YtngibolpbdncjaaW.PrintMore

theorem mul_zero_f (a : Int) : mulI a 0 = 0 := by unfold mulI; rw [clamp_in 0 (by omega) (by omega), Int.mul_zero]; decide +kernel
theorem mul_one_f (a : Int) : mulI a 65536 = clampI a := by
  have ha := clamp_range a
  unfold mulI
  rw [clamp_in 65536 (by omega) (by omega), rnd_mul _ _ (by omega), clamp_in _ ha.1 ha.2]
theorem mul_neg_one_f (a : Int) : mulI a (-65536) = -clampI a := by
  have ha := clamp_range a
  unfold mulI
  rw [clamp_in (-65536) (by omega) (by omega), show clampI a * -65536 = (-clampI a) * 65536 by omega, rnd_mul _ _ (by omega), clamp_in _ (by omega) (by omega)]
theorem turn_f (x y a : Int) (k : Nat) (hk : 40 ≤ k) : vec_Turn.f k x y a = some (clampI (clampI (mulI x (cosI a)) - clampI (mulI y (sinI a))), clampI (clampI (mulI x (sinI a)) + clampI (mulI y (cosI a)))) := by
  unfold vec_Turn.f
  rw [cos_f, sin_f]; simp only [Option.bind_some]
  rw [mul_f _ _ _ hk, mul_f _ _ _ hk, mul_f _ _ _ hk, mul_f _ _ _ hk]
  simp only [Option.bind_some, sub_f, add_f]
theorem prod_bound (a b m n : Int) (a0 : -m ≤ a) (a1 : a ≤ m) (b0 : -n ≤ b) (b1 : b ≤ n) : -(m * n) ≤ a * b ∧ a * b ≤ m * n := by
  have g1 : 0 ≤ (m - a) * (n + b) := Int.mul_nonneg (by omega) (by omega)
  have g2 : 0 ≤ (m + a) * (n - b) := Int.mul_nonneg (by omega) (by omega)
  have g3 : 0 ≤ (m - a) * (n - b) := Int.mul_nonneg (by omega) (by omega)
  have g4 : 0 ≤ (m + a) * (n + b) := Int.mul_nonneg (by omega) (by omega)
  constructor <;> grind
/-- a product with a sine, of a number of at most 2^30: not clamped, rounded -/
theorem mul_small (x s : Int) (x0 : -1073741824 ≤ x) (x1 : x ≤ 1073741824) (s0 : -65536 ≤ s) (s1 : s ≤ 65536) : -1073741824 ≤ mulI x s ∧ mulI x s ≤ 1073741824 ∧ -65536 ≤ 2 * (mulI x s * 65536 - x * s) ∧ 2 * (mulI x s * 65536 - x * s) ≤ 65536 := by
  unfold mulI
  have p := prod_bound x s 1073741824 65536 x0 x1 s0 s1
  have b := rnd_bounds (x * s) 65536 (by omega)
  rw [clamp_in x (by omega) (by omega), clamp_in s (by omega) (by omega), clamp_in (rnd (x * s) 65536) (by omega) (by omega)]
  omega
/-- turning keeps the length -/
theorem turn_len (x y c s b1 b2 La Lb : Int) (hK : -786432 ≤ s * s + c * c - 4294967296 ∧ s * s + c * c - 4294967296 ≤ 786432)
    (e1 : -65536 ≤ 65536 * b1 - (x * c - y * s) ∧ 65536 * b1 - (x * c - y * s) ≤ 65536) (e2 : -65536 ≤ 65536 * b2 - (x * s + y * c) ∧ 65536 * b2 - (x * s + y * c) ≤ 65536)
    (la0 : 0 ≤ La) (la1 : La * La ≤ x * x + y * y) (la2 : x * x + y * y < (La + 1) * (La + 1)) (lb0 : 0 ≤ Lb) (lb1 : Lb * Lb ≤ b1 * b1 + b2 * b2) (lb2 : b1 * b1 + b2 * b2 < (Lb + 1) * (Lb + 1)) :
    La - Lb ≤ La / 5000 + 3 ∧ Lb - La ≤ La / 5000 + 3 := by
  have hE0 : La + 1 ≤ 5000 * (La / 5000 + 1) := by omega
  have hE1 : 0 ≤ La / 5000 := by omega
  generalize La / 5000 = E at *
  have norm : (x * c - y * s) * (x * c - y * s) + (x * s + y * c) * (x * s + y * c) = (s * s + c * c) * (x * x + y * y) := by grind
  have hN0 : 0 ≤ x * x + y * y := by have := sq_nonneg x; have := sq_nonneg y; omega
  generalize hw1 : x * c - y * s = w1 at *
  generalize hw2 : x * s + y * c = w2 at *
  have q1 := sq_nonneg w1
  have q2 := sq_nonneg w2
  constructor
  · -- La is not much greater
    by_cases h : La - Lb ≤ E + 3
    · exact h
    exfalso
    have t1 : max b1 (-b1) ≤ Lb := le_of_sq_lt lb0 (by rw [sq_abs]; have := sq_nonneg b2; omega)
    have t2 : max b2 (-b2) ≤ Lb := le_of_sq_lt lb0 (by rw [sq_abs]; have := sq_nonneg b1; omega)
    -- w = 65536 b - e
    obtain ⟨d1, rfl⟩ : ∃ d, w1 = 65536 * b1 - d := ⟨65536 * b1 - w1, by omega⟩
    obtain ⟨d2, rfl⟩ : ∃ d, w2 = 65536 * b2 - d := ⟨65536 * b2 - w2, by omega⟩
    have p1 := prod_bound b1 d1 Lb 65536 (by omega) (by omega) (by omega) (by omega)
    have p2 := prod_bound b2 d2 Lb 65536 (by omega) (by omega) (by omega) (by omega)
    have s1 := sq_bound d1 65536 (by omega) (by omega)
    have s2 := sq_bound d2 65536 (by omega) (by omega)
    have ex : (65536 * b1 - d1) * (65536 * b1 - d1) + (65536 * b2 - d2) * (65536 * b2 - d2) = 4294967296 * (b1 * b1 + b2 * b2) - 131072 * (b1 * d1) - 131072 * (b2 * d2) + d1 * d1 + d2 * d2 := by grind
    have el : (Lb + 1) * (Lb + 1) = Lb * Lb + 2 * Lb + 1 := by grind
    have up : (s * s + c * c) * (x * x + y * y) < (65536 * (Lb + 3)) * (65536 * (Lb + 3)) := by
      have e3 : (65536 * (Lb + 3)) * (65536 * (Lb + 3)) = 4294967296 * (Lb * Lb) + 4294967296 * 6 * Lb + 4294967296 * 9 := by grind
      omega
    have low : (65529 * La) * (65529 * La) ≤ (s * s + c * c) * (x * x + y * y) := by
      have a1 : (65529 * 65529) * (x * x + y * y) ≤ (s * s + c * c) * (x * x + y * y) := Int.mul_le_mul_of_nonneg_right (by omega) hN0
      have e4 : (65529 * La) * (65529 * La) = (65529 * 65529) * (La * La) := by grind
      omega
    have := lt_of_sq_lt (a := 65529 * La) (b := 65536 * (Lb + 3)) (by omega) (by omega)
    omega
  · -- Lb is not much greater
    by_cases h : Lb - La ≤ E + 3
    · exact h
    exfalso
    have hP : 0 ≤ La + 1 := by omega
    generalize hPd : La + 1 = P at *
    have hup : (s * s + c * c) * (x * x + y * y) ≤ (65542 * 65542) * (x * x + y * y) := Int.mul_le_mul_of_nonneg_right (by omega) hN0
    have hNP : (65542 * 65542) * (x * x + y * y) ≤ (65542 * P) * (65542 * P) := by
      have e4 : (65542 * P) * (65542 * P) = (65542 * 65542) * (P * P) := by grind
      rw [e4]; exact Int.mul_le_mul_of_nonneg_left (by omega) (by omega)
    have bw1 : max w1 (-w1) ≤ 65542 * P := by
      refine le_of_sq_lt (by omega) ?_
      have e5 : (65542 * P + 1) * (65542 * P + 1) = (65542 * P) * (65542 * P) + 2 * (65542 * P) + 1 := by grind
      rw [sq_abs, e5]; omega
    have bw2 : max w2 (-w2) ≤ 65542 * P := by
      refine le_of_sq_lt (by omega) ?_
      have e5 : (65542 * P + 1) * (65542 * P + 1) = (65542 * P) * (65542 * P) + 2 * (65542 * P) + 1 := by grind
      rw [sq_abs, e5]; omega
    obtain ⟨d1, hd1⟩ : ∃ d, 65536 * b1 = w1 + d := ⟨65536 * b1 - w1, by omega⟩
    obtain ⟨d2, hd2⟩ : ∃ d, 65536 * b2 = w2 + d := ⟨65536 * b2 - w2, by omega⟩
    have p1 := prod_bound w1 d1 (65542 * P) 65536 (by omega) (by omega) (by omega) (by omega)
    have p2 := prod_bound w2 d2 (65542 * P) 65536 (by omega) (by omega) (by omega) (by omega)
    have s1 := sq_bound d1 65536 (by omega) (by omega)
    have s2 := sq_bound d2 65536 (by omega) (by omega)
    have ex : (65536 * b1) * (65536 * b1) + (65536 * b2) * (65536 * b2) = (w1 * w1 + w2 * w2) + 2 * (w1 * d1) + 2 * (w2 * d2) + d1 * d1 + d2 * d2 := by rw [hd1, hd2]; grind
    have eb : (65536 * b1) * (65536 * b1) + (65536 * b2) * (65536 * b2) = 4294967296 * (b1 * b1 + b2 * b2) := by grind
    have el : (65536 * Lb) * (65536 * Lb) = 4294967296 * (Lb * Lb) := by grind
    have eu : (65542 * P + 131072 + 1) * (65542 * P + 131072 + 1) = (65542 * P) * (65542 * P) + 262146 * (65542 * P) + 131073 * 131073 := by grind
    have := lt_of_sq_lt (a := 65536 * Lb) (b := 65542 * P + 131072 + 1) (by omega) (by omega)
    omega
theorem VecTurns : tourkeep1_VecTurns.Pure := by
  intro a0 a1 a2 _ _ _
  have hb : tourkeep1_vecBegun.f 100 = some true := by decide +kernel
  refine ⟨100, ?_⟩
  unfold tourkeep1_VecTurns.f
  rw [hb]
  simp only [Option.bind_some, if_true]
  obtain ⟨x, y, h1, x0, x1, y0, y1⟩ := small_f a0 a1
  rw [h1]
  simp only [Option.bind_some]
  have hs := sinI_range a2
  have hc := cosI_range a2
  have hK := circle a2
  rw [turn_f x y a2 100 (by omega)]
  simp only [Option.bind_some]
  obtain ⟨m1a, m1b, m1c, m1d⟩ := mul_small x (cosI a2) x0 x1 hc.1 hc.2
  obtain ⟨m2a, m2b, m2c, m2d⟩ := mul_small y (sinI a2) y0 y1 hs.1 hs.2
  obtain ⟨m3a, m3b, m3c, m3d⟩ := mul_small x (sinI a2) x0 x1 hs.1 hs.2
  obtain ⟨m4a, m4b, m4c, m4d⟩ := mul_small y (cosI a2) y0 y1 hc.1 hc.2
  rw [clamp_in (mulI x (cosI a2)) (by omega) (by omega), clamp_in (mulI y (sinI a2)) (by omega) (by omega), clamp_in (mulI x (sinI a2)) (by omega) (by omega), clamp_in (mulI y (cosI a2)) (by omega) (by omega), clamp_in (mulI x (cosI a2) - mulI y (sinI a2)) (by omega) (by omega), clamp_in (mulI x (sinI a2) + mulI y (cosI a2)) (by omega) (by omega)]
  generalize hb1 : mulI x (cosI a2) - mulI y (sinI a2) = b1 at *
  generalize hb2 : mulI x (sinI a2) + mulI y (cosI a2) = b2 at *
  obtain ⟨la, e1, la0, la1, la2, la3⟩ := len_f x y 1073741824 (by omega) (by omega) (by omega) (by omega) (by omega) (by omega) 100 (by omega)
  obtain ⟨lb, e2, lb0, lb1, lb2, lb3⟩ := len_f b1 b2 2147483648 (by omega) (by omega) (by omega) (by omega) (by omega) (by omega) 100 (by omega)
  rw [e1, e2]
  simp only [Option.bind_some]
  have key := turn_len x y (cosI a2) (sinI a2) b1 b2 la lb (by omega) (by omega) (by omega) la0 la2 la3 lb0 lb2 lb3
  rw [Int.tdiv_eq_ediv_of_nonneg la0, wrap64_in (la / 5000) (by omega) (by omega), wrap64_in (la / 5000 + 3) (by omega) (by omega), near_f _ _ _ (by omega) (by omega), decide_eq_true key]
  simp only [Option.bind_some, if_true]
  have c1 : cosI 16384 = 0 := by decide +kernel
  have c2 : sinI 16384 = 65536 := by decide +kernel
  have c3 : cosI 49152 = 0 := by decide +kernel
  have c4 : sinI 49152 = -65536 := by decide +kernel
  have c5 : cosI 0 = 65536 := by decide +kernel
  have c6 : sinI 0 = 0 := by decide +kernel
  have cz : clampI 0 = 0 := by decide +kernel
  have cl : ∀ z : Int, -1073741824 ≤ z → z ≤ 1073741824 → clampI z = z := fun z _ _ => clamp_in z (by omega) (by omega)
  rw [turn_f x y 16384 100 (by omega), c1, c2, mul_zero_f, mul_zero_f, mul_one_f, mul_one_f, cz, cl x x0 x1, cl y y0 y1, cl y y0 y1, cl x x0 x1, show (0 : Int) - y = -y by omega, show x + 0 = x by omega, cl x x0 x1, cl (-y) (by omega) (by omega), wrap64_in (-y) (by omega) (by omega)]
  simp only [BEq.rfl, Bool.and_self, if_true, Option.bind_some]
  rw [turn_f (-y) x 49152 100 (by omega), c3, c4, mul_zero_f, mul_zero_f, mul_neg_one_f, mul_neg_one_f, cz, cl x x0 x1, cl (-y) (by omega) (by omega), Int.neg_neg, cl y y0 y1, cl (-x) (by omega) (by omega), show (0 : Int) - -x = x by omega, show y + 0 = y by omega, cl x x0 x1, cl y y0 y1]
  simp only [BEq.rfl, Bool.and_self, if_true, Option.bind_some]
  rw [turn_f x y 0 100 (by omega), c5, c6, mul_zero_f, mul_zero_f, mul_one_f, mul_one_f, cz, cl x x0 x1, cl y y0 y1, cl x x0 x1, cl y y0 y1, show x - 0 = x by omega, show 0 + y = y by omega, cl x x0 x1, cl y y0 y1]
  simp

end Go.Proofs.Ytngibolpbdncjaa.Pure
