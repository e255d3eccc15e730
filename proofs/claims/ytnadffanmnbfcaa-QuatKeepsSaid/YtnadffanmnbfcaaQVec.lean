/- What the printed functions of package vec compute: the floor of a vector's length, sums, and turns. Conditions: none but enough rounds. -/
import Derived.Test.YtnadffanmnbfcaaPAllx15
import Derived.Test.YtnadffanmnbfcaaQFix
import Derived.Test.YtnadffanmnbfcaaQRoot
namespace Go.Proofs.Ytnadffanmnbfcaa.QVec
open Go Go.RowKit Go.Proofs.Ytnadffanmnbfcaa.P Go.Proofs.Ytnadffanmnbfcaa.QDiv Go.Proofs.Ytnadffanmnbfcaa.QFix Go.Proofs.Ytnadffanmnbfcaa.QRoot Go.Proofs.YtnadffanmnbfcaaW.PrintWords Go.Proofs.YtnadffanmnbfcaaW.PrintLast Go.Proofs.YtnadffanmnbfcaaW.PrintMore

theorem vmag_f (a : Int) (h0 : -1099511627776 ≤ a) (h1 : a ≤ 1099511627776) : vec_mag.f a = some (max a (-a)) := by
  unfold vec_mag.f
  rw [wrap64_in _ (by omega) (by omega), mx_eq, IntKind.wrap_u64]; congr 1; omega
theorem sq_abs (a : Int) : max a (-a) * max a (-a) = a * a := by
  by_cases h : a ≤ 0
  · rw [show max a (-a) = -a by omega]; grind
  · rw [show max a (-a) = a by omega]
theorem sq_nonneg (a : Int) : 0 ≤ a * a := by rw [← sq_abs]; exact Int.mul_nonneg (by omega) (by omega)
theorem sq_bound (a m : Int) (h0 : -m ≤ a) (h1 : a ≤ m) : a * a ≤ m * m := by
  rw [← sq_abs]; exact Int.mul_le_mul (by omega) (by omega) (by omega) (by omega)
theorem lt_of_sq_lt {a b : Int} (hb : 0 ≤ b) (h : a * a < b * b) : a < b := by
  by_cases hab : a < b
  · exact hab
  · exfalso; have := Int.mul_le_mul (show b ≤ a by omega) (show b ≤ a by omega) hb (by omega); omega
theorem le_of_sq_lt {a b : Int} (hb : 0 ≤ b) (h : a * a < (b + 1) * (b + 1)) : a ≤ b := by
  have := lt_of_sq_lt (show 0 ≤ b + 1 by omega) h; omega
/-- the length of a vector with clamped coordinates -/
theorem length_f (x y : Int) (hx0 : -1099511627776 ≤ x) (hx1 : x ≤ 1099511627776) (hy0 : -1099511627776 ≤ y) (hy1 : y ≤ 1099511627776) (k : Nat) (hk : 65 ≤ k) :
    ∃ r, vec_length.f k x y = some r ∧ 0 ≤ r ∧ r ≤ 2199023255552 ∧ r * r ≤ x * x + y * y ∧ x * x + y * y < (r + 1) * (r + 1) := by
  unfold vec_length.f
  rw [vmag_f x hx0 hx1]; simp only [Option.bind_some]
  rw [vmag_f y hy0 hy1]; simp only [Option.bind_some]
  rw [mul64_f _ _ (by omega) (by omega) (by omega) (by omega)]; simp only [Option.bind_some]
  rw [mul64_f _ _ (by omega) (by omega) (by omega) (by omega)]; simp only [Option.bind_some]
  rw [sq_abs, sq_abs]
  have hX0 := sq_nonneg x
  have hX1 := sq_bound x 1099511627776 hx0 hx1
  have hY0 := sq_nonneg y
  have hY1 := sq_bound y 1099511627776 hy0 hy1
  generalize x * x = X at *
  generalize y * y = Y at *
  unfold vec_length.g
  rw [if_pos (by unfold Word; refine ⟨⟨?_, ?_⟩, ⟨?_, ?_⟩, ⟨?_, ?_⟩, ⟨?_, ?_⟩⟩ <;> simp only [] <;> omega)]
  simp only []
  obtain ⟨r, hr, r0, r1, r2, r3⟩ := root_f ((X / 18446744073709551616 + Y / 18446744073709551616 + (X % 18446744073709551616 + Y % 18446744073709551616) / 18446744073709551616) % 18446744073709551616) ((X % 18446744073709551616 + Y % 18446744073709551616) % 18446744073709551616) (by omega) (by omega) (by omega) (by omega) k hk
  rw [hr]
  have e : 18446744073709551616 * ((X / 18446744073709551616 + Y / 18446744073709551616 + (X % 18446744073709551616 + Y % 18446744073709551616) / 18446744073709551616) % 18446744073709551616) + (X % 18446744073709551616 + Y % 18446744073709551616) % 18446744073709551616 = X + Y := by omega
  rw [e] at r2 r3
  have hle : r ≤ 2199023255552 := le_of_sq_lt (by omega) (by omega)
  refine ⟨r, ?_, r0, hle, r2, r3⟩
  simp only [Option.bind_some]
  rw [wrap64_in r (by omega) (by omega)]
/-- Len of a vector whose length is below the greatest number -/
theorem len_f (x y m : Int) (hm0 : 0 ≤ m) (hm : m ≤ 549755813888) (hx0 : -m ≤ x) (hx1 : x ≤ m) (hy0 : -m ≤ y) (hy1 : y ≤ m) (k : Nat) (hk : 65 ≤ k) :
    ∃ r, vec_Len.f k x y = some r ∧ 0 ≤ r ∧ r ≤ 2 * m ∧ r * r ≤ x * x + y * y ∧ x * x + y * y < (r + 1) * (r + 1) := by
  obtain ⟨r, hr, r0, r1, r2, r3⟩ := length_f x y (by omega) (by omega) (by omega) (by omega) k hk
  have hX1 := sq_bound x m hx0 hx1
  have hY1 := sq_bound y m hy0 hy1
  have hle : r ≤ 2 * m := by
    refine le_of_sq_lt (by omega) ?_
    have e : (2 * m + 1) * (2 * m + 1) = 4 * (m * m) + 4 * m + 1 := by grind
    have := sq_nonneg m
    omega
  refine ⟨r, ?_, r0, hle, r2, r3⟩
  unfold vec_Len.f
  rw [clamp_f, clamp_f]; simp only [Option.bind_some]
  rw [clamp_in x (by omega) (by omega), clamp_in y (by omega) (by omega), hr]
  simp only [Option.bind_some, clamp_f]
  rw [clamp_in r (by omega) (by omega)]
theorem cauchy (x y z w P Q : Int) (hP : 0 ≤ P) (hQ : 0 ≤ Q) (h1 : x * x + y * y < P * P) (h2 : z * z + w * w < Q * Q) : x * z + y * w < P * Q := by
  refine lt_of_sq_lt (Int.mul_nonneg hP hQ) ?_
  have e : (x * z + y * w) * (x * z + y * w) + (x * w - y * z) * (x * w - y * z) = (x * x + y * y) * (z * z + w * w) := by grind
  have s := sq_nonneg (x * w - y * z)
  have a0 := sq_nonneg x
  have a1 := sq_nonneg y
  have a2 := sq_nonneg z
  have a3 := sq_nonneg w
  have b1 : (x * x + y * y) * (z * z + w * w) ≤ (x * x + y * y) * (Q * Q) := Int.mul_le_mul_of_nonneg_left (by omega) (by omega)
  have b2 : (x * x + y * y) * (Q * Q) < (P * P) * (Q * Q) := Int.mul_lt_mul_of_pos_right h1 (by omega)
  have e2 : (P * Q) * (P * Q) = (P * P) * (Q * Q) := by grind
  omega
end Go.Proofs.Ytnadffanmnbfcaa.QVec
