/- Products of quaternions up to rounding. Conditions: parts whose products stay small. -/
import Derived.Test.YtnadffanmnbfcaaQQuat
namespace Go.Proofs.Ytnadffanmnbfcaa.QKeep
open Go Go.RowKit Go.Proofs.Ytnadffanmnbfcaa.P Go.Proofs.Ytnadffanmnbfcaa.QDiv Go.Proofs.Ytnadffanmnbfcaa.QFix Go.Proofs.Ytnadffanmnbfcaa.QRoot Go.Proofs.Ytnadffanmnbfcaa.QVec Go.Proofs.Ytnadffanmnbfcaa.QTrig Go.Proofs.Ytnadffanmnbfcaa.QCirc Go.Proofs.Ytnadffanmnbfcaa.QQuat Go.Proofs.YtnadffanmnbfcaaW.PrintWords Go.Proofs.YtnadffanmnbfcaaW.PrintLast Go.Proofs.YtnadffanmnbfcaaW.PrintMore

theorem le_of_sq (a b : Int) (hb : 0 ≤ b) (h : a * a ≤ b * b) : a ≤ b := by
  refine le_of_sq_lt hb ?_
  have : (b + 1) * (b + 1) = b * b + 2 * b + 1 := by grind
  omega
/-- the norm of a product of quaternions -/
theorem norm4 (a b c d p q r s : Int) : (a * p - b * q - c * r - d * s) * (a * p - b * q - c * r - d * s) + (a * q + b * p + c * s - d * r) * (a * q + b * p + c * s - d * r) + (a * r - b * s + c * p + d * q) * (a * r - b * s + c * p + d * q) + (a * s + b * r - c * q + d * p) * (a * s + b * r - c * q + d * p) = (a * a + b * b + c * c + d * d) * (p * p + q * q + r * r + s * s) := by grind
theorem mul_sq_le (x y A B : Int) (hA : 0 ≤ A) (hx : x ≤ A) (hy0 : 0 ≤ y) (hy : y ≤ B) : x * y ≤ A * B := by
  have h1 : x * y ≤ A * y := Int.mul_le_mul_of_nonneg_right hx hy0
  have h2 : A * y ≤ A * B := Int.mul_le_mul_of_nonneg_left hy hA
  omega
/-- the triangle inequality for three numbers, in squares -/
theorem tri3 (a b c p q r A B : Int) (hA : 0 ≤ A) (hB : 0 ≤ B) (h1 : a * a + b * b + c * c ≤ A * A) (h2 : p * p + q * q + r * r ≤ B * B) :
    (a + p) * (a + p) + (b + q) * (b + q) + (c + r) * (c + r) ≤ (A + B) * (A + B) := by
  have n1 := sq_nonneg (a * q - b * p)
  have n2 := sq_nonneg (a * r - c * p)
  have n3 := sq_nonneg (b * r - c * q)
  have id : (a * p + b * q + c * r) * (a * p + b * q + c * r) + (a * q - b * p) * (a * q - b * p) + (a * r - c * p) * (a * r - c * p) + (b * r - c * q) * (b * r - c * q) = (a * a + b * b + c * c) * (p * p + q * q + r * r) := by grind
  have hp := sq_nonneg p
  have hq := sq_nonneg q
  have hr := sq_nonneg r
  have u := mul_sq_le (a * a + b * b + c * c) (p * p + q * q + r * r) (A * A) (B * B) (sq_nonneg A) h1 (by omega) h2
  have e : (A * A) * (B * B) = (A * B) * (A * B) := by grind
  have d := le_of_sq (a * p + b * q + c * r) (A * B) (Int.mul_nonneg hA hB) (by omega)
  have x1 : (a + p) * (a + p) + (b + q) * (b + q) + (c + r) * (c + r) = (a * a + b * b + c * c) + (p * p + q * q + r * r) + 2 * (a * p + b * q + c * r) := by grind
  have x2 : (A + B) * (A + B) = A * A + B * B + 2 * (A * B) := by grind
  omega
/-- four roundings -/
theorem near4 (p q r s a b c d : Int) (h1 : -65536 ≤ 2 * (65536 * p - a) ∧ 2 * (65536 * p - a) ≤ 65536) (h2 : -65536 ≤ 2 * (65536 * q - b) ∧ 2 * (65536 * q - b) ≤ 65536) (h3 : -65536 ≤ 2 * (65536 * r - c) ∧ 2 * (65536 * r - c) ≤ 65536) (h4 : -65536 ≤ 2 * (65536 * s - d) ∧ 2 * (65536 * s - d) ≤ 65536) :
    (∃ E : Int, 65536 * (p - q - r - s) = a - b - c - d + E ∧ -131072 ≤ E ∧ E ≤ 131072) ∧ (∃ E : Int, 65536 * (p + q + r - s) = a + b + c - d + E ∧ -131072 ≤ E ∧ E ≤ 131072) ∧ (∃ E : Int, 65536 * (p - q + r + s) = a - b + c + d + E ∧ -131072 ≤ E ∧ E ≤ 131072) ∧ (∃ E : Int, 65536 * (p + q - r + s) = a + b - c + d + E ∧ -131072 ≤ E ∧ E ≤ 131072) :=
  ⟨⟨65536 * (p - q - r - s) - (a - b - c - d), by omega, by omega, by omega⟩, ⟨65536 * (p + q + r - s) - (a + b + c - d), by omega, by omega, by omega⟩, ⟨65536 * (p - q + r + s) - (a - b + c + d), by omega, by omega, by omega⟩, ⟨65536 * (p + q - r + s) - (a + b - c + d), by omega, by omega, by omega⟩⟩
/-- the product of quaternions: exact, up to four roundings a part -/
theorem mul4 (a0 a1 a2 a3 b0 b1 b2 b3 m n : Int) (A0 : -m ≤ a0 ∧ a0 ≤ m) (A1 : -m ≤ a1 ∧ a1 ≤ m) (A2 : -m ≤ a2 ∧ a2 ≤ m) (A3 : -m ≤ a3 ∧ a3 ≤ m) (B0 : -n ≤ b0 ∧ b0 ≤ n) (B1 : -n ≤ b1 ∧ b1 ≤ n) (B2 : -n ≤ b2 ∧ b2 ≤ n) (B3 : -n ≤ b3 ∧ b3 ≤ n)
    (hm : m ≤ 1099511627776) (hn : n ≤ 1099511627776) (hmn : m * n ≤ 4503599627370496) (k : Nat) (hk : 40 ≤ k) :
    ∃ W X Y Z E0 E1 E2 E3 : Int, quat_Mul.f k a0 a1 a2 a3 b0 b1 b2 b3 = some (W, X, Y, Z) ∧
      65536 * W = a0 * b0 - a1 * b1 - a2 * b2 - a3 * b3 + E0 ∧ 65536 * X = a0 * b1 + a1 * b0 + a2 * b3 - a3 * b2 + E1 ∧ 65536 * Y = a0 * b2 - a1 * b3 + a2 * b0 + a3 * b1 + E2 ∧ 65536 * Z = a0 * b3 + a1 * b2 - a2 * b1 + a3 * b0 + E3 ∧
      (-131072 ≤ E0 ∧ E0 ≤ 131072) ∧ (-131072 ≤ E1 ∧ E1 ≤ 131072) ∧ (-131072 ≤ E2 ∧ E2 ≤ 131072) ∧ (-131072 ≤ E3 ∧ E3 ≤ 131072) := by
  have M : ∀ a b : Int, (-m ≤ a ∧ a ≤ m) → (-n ≤ b ∧ b ≤ n) → -65536 ≤ 2 * (65536 * mulI a b - a * b) ∧ 2 * (65536 * mulI a b - a * b) ≤ 65536 := fun a b ha hb => ⟨(qmul_near a b m n ha.1 ha.2 hb.1 hb.2 hm hn hmn).1, (qmul_near a b m n ha.1 ha.2 hb.1 hb.2 hm hn hmn).2.1⟩
  obtain ⟨E0, w, w0, w1⟩ := (near4 _ _ _ _ _ _ _ _ (M a0 b0 A0 B0) (M a1 b1 A1 B1) (M a2 b2 A2 B2) (M a3 b3 A3 B3)).1
  obtain ⟨E1, x, x0, x1⟩ := (near4 _ _ _ _ _ _ _ _ (M a0 b1 A0 B1) (M a1 b0 A1 B0) (M a2 b3 A2 B3) (M a3 b2 A3 B2)).2.1
  obtain ⟨E2, y, y0, y1⟩ := (near4 _ _ _ _ _ _ _ _ (M a0 b2 A0 B2) (M a1 b3 A1 B3) (M a2 b0 A2 B0) (M a3 b1 A3 B1)).2.2.1
  obtain ⟨E3, z, z0, z1⟩ := (near4 _ _ _ _ _ _ _ _ (M a0 b3 A0 B3) (M a1 b2 A1 B2) (M a2 b1 A2 B1) (M a3 b0 A3 B0)).2.2.2
  exact ⟨_, _, _, _, E0, E1, E2, E3, qmul_f a0 a1 a2 a3 b0 b1 b2 b3 m n A0 A1 A2 A3 B0 B1 B2 B3 hm hn hmn k hk, w, x, y, z, ⟨w0, w1⟩, ⟨x0, x1⟩, ⟨y0, y1⟩, ⟨z0, z1⟩⟩
/-- a square of a sum, up to a product that is small -/
theorem sq_add (u E M : Int) (hM : 0 ≤ M) (hu : u * u ≤ M * M) (hE : -131072 ≤ E ∧ E ≤ 131072) : (u + E) * (u + E) - u * u ≤ 262144 * M + 17179869184 ∧ u * u - (u + E) * (u + E) ≤ 262144 * M := by
  have h1 := le_of_sq u M hM hu
  have h2 := le_of_sq (-u) M hM (by rw [Int.neg_mul_neg]; exact hu)
  have p := qprod u E M 131072 (by omega) h1 hE.1 hE.2
  have b := sq_bound E 131072 hE.1 hE.2
  have n := sq_nonneg E
  have e : (u + E) * (u + E) = u * u + 2 * (u * E) + E * E := by grind
  omega
/-- the product of two quaternions of about the length One has about the length One -/
theorem mul_norm (u0 u1 u2 u3 E0 E1 E2 E3 W X Y Z N : Int) (hN : u0 * u0 + u1 * u1 + u2 * u2 + u3 * u3 = N)
    (w : 65536 * W = u0 + E0) (x : 65536 * X = u1 + E1) (y : 65536 * Y = u2 + E2) (z : 65536 * Z = u3 + E3) (e0 : -131072 ≤ E0 ∧ E0 ≤ 131072) (e1 : -131072 ≤ E1 ∧ E1 ≤ 131072) (e2 : -131072 ≤ E2 ∧ E2 ≤ 131072) (e3 : -131072 ≤ E3 ∧ E3 ≤ 131072)
    (M : Int) (hM : 0 ≤ M) (hNM : N ≤ M * M) : 4294967296 * (W * W + X * X + Y * Y + Z * Z) - N ≤ 1048576 * M + 68719476736 ∧ N - 4294967296 * (W * W + X * X + Y * Y + Z * Z) ≤ 1048576 * M := by
  have n0 := sq_nonneg u0
  have n1 := sq_nonneg u1
  have n2 := sq_nonneg u2
  have n3 := sq_nonneg u3
  have s0 := sq_add u0 E0 M hM (by omega) e0
  have s1 := sq_add u1 E1 M hM (by omega) e1
  have s2 := sq_add u2 E2 M hM (by omega) e2
  have s3 := sq_add u3 E3 M hM (by omega) e3
  rw [← w] at s0
  rw [← x] at s1
  rw [← y] at s2
  rw [← z] at s3
  have f : ∀ a : Int, (65536 * a) * (65536 * a) = 4294967296 * (a * a) := fun a => by grind
  rw [f] at s0 s1 s2 s3
  omega
end Go.Proofs.Ytnadffanmnbfcaa.QKeep
