/- The length of the turns that the printed function Of of package quat returns. Conditions: axes of at most 2^30, and enough rounds. -/
import Derived.Test.YtnadffanmnbfcaaPAllx11
import Derived.Test.YtnadffanmnbfcaaQUnit
namespace Go.Proofs.Ytnadffanmnbfcaa.QOf
open Go Go.RowKit Go.Proofs.Ytnadffanmnbfcaa.P Go.Proofs.Ytnadffanmnbfcaa.QDiv Go.Proofs.Ytnadffanmnbfcaa.QFix Go.Proofs.Ytnadffanmnbfcaa.QRoot Go.Proofs.Ytnadffanmnbfcaa.QVec Go.Proofs.Ytnadffanmnbfcaa.QTrig Go.Proofs.Ytnadffanmnbfcaa.QCirc Go.Proofs.Ytnadffanmnbfcaa.QQuat Go.Proofs.Ytnadffanmnbfcaa.QUnit Go.Proofs.YtnadffanmnbfcaaW.PrintWords Go.Proofs.YtnadffanmnbfcaaW.PrintLast Go.Proofs.YtnadffanmnbfcaaW.PrintMore

theorem share_near (n d : Int) (hd : 0 < d) : ∃ e : Int, 2 * (d * shareI n d) = 131072 * n + e ∧ -d ≤ e ∧ e ≤ d := by
  refine ⟨2 * (d * shareI n d) - 131072 * n, by omega, ?_⟩
  unfold shareI
  have h1 := Int.mul_ediv_add_emod (131072 * n + d) (2 * d)
  have h2 := Int.emod_nonneg (131072 * n + d) (show (2 * d) ≠ 0 by omega)
  have h3 := Int.emod_lt_of_pos (131072 * n + d) (show 0 < 2 * d by omega)
  generalize (131072 * n + d) / (2 * d) = q at *
  generalize (131072 * n + d) % (2 * d) = r at *
  have : 2 * d * q = 2 * (d * q) := by grind
  omega
/-- three parts: the sum of their squares -/
theorem parts_norm (x y z d : Int) (hd0 : 1073741824 ≤ d) (h0 : d * d ≤ x * x + y * y + z * z) (h1 : x * x + y * y + z * z < (d + 1) * (d + 1)) :
    (-65536 ≤ shareI x d ∧ shareI x d ≤ 65536) ∧ (-65536 ≤ shareI y d ∧ shareI y d ≤ 65536) ∧ (-65536 ≤ shareI z d ∧ shareI z d ≤ 65536) ∧
    shareI x d * shareI x d + shareI y d * shareI y d + shareI z d * shareI z d - 4294967296 ≤ 196617 ∧ 4294967296 - (shareI x d * shareI x d + shareI y d * shareI y d + shareI z d * shareI z d) ≤ 196617 := by
  have px := sq_nonneg x
  have py := sq_nonneg y
  have pz := sq_nonneg z
  have bx : max x (-x) ≤ d := le_of_sq_lt (by omega) (by rw [sq_abs]; omega)
  have by' : max y (-y) ≤ d := le_of_sq_lt (by omega) (by rw [sq_abs]; omega)
  have bz : max z (-z) ≤ d := le_of_sq_lt (by omega) (by rw [sq_abs]; omega)
  obtain ⟨e, he, e0, e1⟩ := share_near x d (by omega)
  obtain ⟨f, hf, f0, f1⟩ := share_near y d (by omega)
  obtain ⟨g, hg, g0, g1⟩ := share_near z d (by omega)
  generalize shareI x d = X at *
  generalize shareI y d = Y at *
  generalize shareI z d = Z at *
  have lim : ∀ U n e : Int, 2 * (d * U) = 131072 * n + e → (-d ≤ n ∧ n ≤ d) → (-d ≤ e ∧ e ≤ d) → -65536 ≤ U ∧ U ≤ 65536 := by
    intro U n e h hn he
    constructor
    · by_cases h' : -65536 ≤ U
      · exact h'
      · have := Int.mul_le_mul_of_nonneg_left (show U ≤ -65537 by omega) (show 0 ≤ d by omega); omega
    · by_cases h' : U ≤ 65536
      · exact h'
      · have := Int.mul_le_mul_of_nonneg_left (show 65537 ≤ U by omega) (show 0 ≤ d by omega); omega
  refine ⟨lim X x e he (by omega) (by omega), lim Y y f hf (by omega) (by omega), lim Z z g hg (by omega) (by omega), ?_⟩
  have q1 := qprod x e d d (by omega) (by omega) e0 e1
  have q2 := qprod y f d d (by omega) (by omega) f0 f1
  have q3 := qprod z g d d (by omega) (by omega) g0 g1
  have s1 := sq_bound e d e0 e1
  have s2 := sq_bound f d f0 f1
  have s3 := sq_bound g d g0 g1
  have n1 := sq_nonneg e
  have n2 := sq_nonneg f
  have n3 := sq_nonneg g
  have i1 : 4 * (d * d * (X * X)) = 17179869184 * (x * x) + 262144 * (x * e) + e * e := by
    have : (2 * (d * X)) * (2 * (d * X)) = (131072 * x + e) * (131072 * x + e) := by rw [he]
    grind
  have i2 : 4 * (d * d * (Y * Y)) = 17179869184 * (y * y) + 262144 * (y * f) + f * f := by
    have : (2 * (d * Y)) * (2 * (d * Y)) = (131072 * y + f) * (131072 * y + f) := by rw [hf]
    grind
  have i3 : 4 * (d * d * (Z * Z)) = 17179869184 * (z * z) + 262144 * (z * g) + g * g := by
    have : (2 * (d * Z)) * (2 * (d * Z)) = (131072 * z + g) * (131072 * z + g) := by rw [hg]
    grind
  have i4 : d * d * (X * X + Y * Y + Z * Z) = d * d * (X * X) + d * d * (Y * Y) + d * d * (Z * Z) := by grind
  have i5 : (d + 1) * (d + 1) = d * d + 2 * d + 1 := by grind
  have i6 : 1073741824 * d ≤ d * d := Int.mul_le_mul_of_nonneg_right hd0 (by omega)
  generalize X * X + Y * Y + Z * Z = T at *
  constructor
  · by_cases h : T - 4294967296 ≤ 196617
    · exact h
    · have := Int.mul_le_mul_of_nonneg_left (show 4295163914 ≤ T by omega) (show 0 ≤ d * d by omega); omega
  · by_cases h : 4294967296 - T ≤ 196617
    · exact h
    · have := Int.mul_le_mul_of_nonneg_left (show T ≤ 4294770678 by omega) (show 0 ≤ d * d by omega); omega

end Go.Proofs.Ytnadffanmnbfcaa.QOf
