/- What the printed functions of package vec compute: the floor of a vector's length, sums, and turns. Conditions: none but enough rounds. -/

import Derived.Test.YtnadffanmnbfcaaQFix
import Derived.Test.YtnadffanmnbfcaaQRoot
namespace Go.Proofs.Ytnadffanmnbfcaa.QVec
open Go Go.RowKit Go.Proofs.Ytnadffanmnbfcaa.P Go.Proofs.Ytnadffanmnbfcaa.QDiv Go.Proofs.Ytnadffanmnbfcaa.QFix Go.Proofs.Ytnadffanmnbfcaa.QRoot Go.Proofs.YtnadffanmnbfcaaW.PrintWords Go.Proofs.YtnadffanmnbfcaaW.PrintLast Go.Proofs.YtnadffanmnbfcaaW.PrintMore

theorem sq_abs (a : Int) : max a (-a) * max a (-a) = a * a := by
  by_cases h : a ≤ 0
  · rw [show max a (-a) = -a by omega]; grind
  · rw [show max a (-a) = a by omega]
theorem sq_nonneg (a : Int) : 0 ≤ a * a := by rw [← sq_abs]; exact Int.mul_nonneg (by omega) (by omega)
theorem sq_bound (a m : Int) (h0 : -m ≤ a) (h1 : a ≤ m) : a * a ≤ m * m := by
  rw [← sq_abs]; exact Int.mul_le_mul (by omega) (by omega) (by omega) (by omega)
theorem lt_of_sq_lt {a b : Int} (hb : 0 ≤ b) (h : a * a < b * b) : a < b := by
  by_cases hab : a < b
  · exact hab
  · exfalso; have := Int.mul_le_mul (show b ≤ a by omega) (show b ≤ a by omega) hb (by omega); omega
theorem le_of_sq_lt {a b : Int} (hb : 0 ≤ b) (h : a * a < (b + 1) * (b + 1)) : a ≤ b := by
  have := lt_of_sq_lt (show 0 ≤ b + 1 by omega) h; omega
theorem cauchy (x y z w P Q : Int) (hP : 0 ≤ P) (hQ : 0 ≤ Q) (h1 : x * x + y * y < P * P) (h2 : z * z + w * w < Q * Q) : x * z + y * w < P * Q := by
  refine lt_of_sq_lt (Int.mul_nonneg hP hQ) ?_
  have e : (x * z + y * w) * (x * z + y * w) + (x * w - y * z) * (x * w - y * z) = (x * x + y * y) * (z * z + w * w) := by grind
  have s := sq_nonneg (x * w - y * z)
  have a0 := sq_nonneg x
  have a1 := sq_nonneg y
  have a2 := sq_nonneg z
  have a3 := sq_nonneg w
  have b1 : (x * x + y * y) * (z * z + w * w) ≤ (x * x + y * y) * (Q * Q) := Int.mul_le_mul_of_nonneg_left (by omega) (by omega)
  have b2 : (x * x + y * y) * (Q * Q) < (P * P) * (Q * Q) := Int.mul_lt_mul_of_pos_right h1 (by omega)
  have e2 : (P * Q) * (P * Q) = (P * P) * (Q * Q) := by grind
  omega
end Go.Proofs.Ytnadffanmnbfcaa.QVec
