/- What the printed functions of package quat compute: sums of four numbers, products of quaternions, for numbers whose products stay small. -/
import Derived.Test.YtnadffanmnbfcaaPAllx6
import Derived.Test.YtnadffanmnbfcaaPAllx7
import Derived.Test.YtnadffanmnbfcaaQVec
import Derived.Test.YtnadffanmnbfcaaQCirc
namespace Go.Proofs.Ytnadffanmnbfcaa.QQuat
open Go Go.RowKit Go.Proofs.Ytnadffanmnbfcaa.P Go.Proofs.Ytnadffanmnbfcaa.QDiv Go.Proofs.Ytnadffanmnbfcaa.QFix Go.Proofs.Ytnadffanmnbfcaa.QRoot Go.Proofs.Ytnadffanmnbfcaa.QVec Go.Proofs.Ytnadffanmnbfcaa.QTrig Go.Proofs.Ytnadffanmnbfcaa.QCirc Go.Proofs.YtnadffanmnbfcaaW.PrintWords Go.Proofs.YtnadffanmnbfcaaW.PrintLast Go.Proofs.YtnadffanmnbfcaaW.PrintMore

theorem qprod (a b m n : Int) (a0 : -m ≤ a) (a1 : a ≤ m) (b0 : -n ≤ b) (b1 : b ≤ n) : -(m * n) ≤ a * b ∧ a * b ≤ m * n := by
  have g1 : 0 ≤ (m - a) * (n + b) := Int.mul_nonneg (by omega) (by omega)
  have g2 : 0 ≤ (m + a) * (n - b) := Int.mul_nonneg (by omega) (by omega)
  have g3 : 0 ≤ (m - a) * (n - b) := Int.mul_nonneg (by omega) (by omega)
  have g4 : 0 ≤ (m + a) * (n + b) := Int.mul_nonneg (by omega) (by omega)
  constructor <;> grind
theorem sum4 (a b c d : Int) (a0 : -137438953472 ≤ a) (a1 : a ≤ 137438953472) (b0 : -137438953472 ≤ b) (b1 : b ≤ 137438953472) (c0 : -137438953472 ≤ c) (c1 : c ≤ 137438953472) (d0 : -137438953472 ≤ d) (d1 : d ≤ 137438953472) (k : Nat) (hk : 5 ≤ k) :
    quat_sum.f k [a, b, c, d] = some (a + b + c + d) := by
  obtain ⟨n, rfl⟩ : ∃ n, k = n + 5 := ⟨k - 5, by omega⟩
  have l4 : (([a, b, c, d] : List Int).length : Int) = 4 := rfl
  have r0 : rd [a, b, c, d] 0 = a := rfl
  have r1 : rd [a, b, c, d] 1 = b := rfl
  have r2 : rd [a, b, c, d] 2 = c := rfl
  have r3 : rd [a, b, c, d] 3 = d := rfl
  have w0 : wrap64 (0 + 1) = 1 := by decide +kernel
  have w1 : wrap64 (1 + 1) = 2 := by decide +kernel
  have w2 : wrap64 (2 + 1) = 3 := by decide +kernel
  have w3 : wrap64 (3 + 1) = 4 := by decide +kernel
  unfold quat_sum.f
  rw [l4]
  have s0 : fix_Add.f 0 a = some a := by rw [add_f, clamp_in 0 (by omega) (by omega), clamp_in a (by omega) (by omega), clamp_in _ (by omega) (by omega), Int.zero_add]
  have s1 : fix_Add.f a b = some (a + b) := by rw [add_f, clamp_in a (by omega) (by omega), clamp_in b (by omega) (by omega), clamp_in _ (by omega) (by omega)]
  have s2 : fix_Add.f (a + b) c = some (a + b + c) := by rw [add_f, clamp_in (a + b) (by omega) (by omega), clamp_in c (by omega) (by omega), clamp_in _ (by omega) (by omega)]
  have s3 : fix_Add.f (a + b + c) d = some (a + b + c + d) := by rw [add_f, clamp_in (a + b + c) (by omega) (by omega), clamp_in d (by omega) (by omega), clamp_in _ (by omega) (by omega)]
  simp only [quat_sum.l0, l4, r0, r1, r2, r3, w0, w1, w2, w3, s0, s1, s2, s3, Option.bind_some]
  rfl
/-- a product of numbers of at most 2^52: not clamped, rounded -/
theorem qmul_near (a b m n : Int) (a0 : -m ≤ a) (a1 : a ≤ m) (b0 : -n ≤ b) (b1 : b ≤ n) (hm : m ≤ 1099511627776) (hn : n ≤ 1099511627776) (hmn : m * n ≤ 4503599627370496) :
    -65536 ≤ 2 * (65536 * mulI a b - a * b) ∧ 2 * (65536 * mulI a b - a * b) ≤ 65536 ∧ -68719476737 ≤ mulI a b ∧ mulI a b ≤ 68719476737 := by
  unfold mulI
  have p := qprod a b m n a0 a1 b0 b1
  have r := rnd_bounds (a * b) 65536 (by omega)
  rw [clamp_in a (by omega) (by omega), clamp_in b (by omega) (by omega), clamp_in (rnd (a * b) 65536) (by omega) (by omega)]
  omega
/-- the product of quaternions with small products -/
theorem qmul_f (a0 a1 a2 a3 b0 b1 b2 b3 m n : Int) (A0 : -m ≤ a0 ∧ a0 ≤ m) (A1 : -m ≤ a1 ∧ a1 ≤ m) (A2 : -m ≤ a2 ∧ a2 ≤ m) (A3 : -m ≤ a3 ∧ a3 ≤ m) (B0 : -n ≤ b0 ∧ b0 ≤ n) (B1 : -n ≤ b1 ∧ b1 ≤ n) (B2 : -n ≤ b2 ∧ b2 ≤ n) (B3 : -n ≤ b3 ∧ b3 ≤ n)
    (hm : m ≤ 1099511627776) (hn : n ≤ 1099511627776) (hmn : m * n ≤ 4503599627370496) (k : Nat) (hk : 40 ≤ k) :
    quat_Mul.f k a0 a1 a2 a3 b0 b1 b2 b3 = some (mulI a0 b0 - mulI a1 b1 - mulI a2 b2 - mulI a3 b3, mulI a0 b1 + mulI a1 b0 + mulI a2 b3 - mulI a3 b2, mulI a0 b2 - mulI a1 b3 + mulI a2 b0 + mulI a3 b1, mulI a0 b3 + mulI a1 b2 - mulI a2 b1 + mulI a3 b0) := by
  have M : ∀ a b : Int, (-m ≤ a ∧ a ≤ m) → (-n ≤ b ∧ b ≤ n) → -68719476737 ≤ mulI a b ∧ mulI a b ≤ 68719476737 := fun a b ha hb => (qmul_near a b m n ha.1 ha.2 hb.1 hb.2 hm hn hmn).2.2
  have m00 := M a0 b0 A0 B0
  have m01 := M a0 b1 A0 B1
  have m02 := M a0 b2 A0 B2
  have m03 := M a0 b3 A0 B3
  have m10 := M a1 b0 A1 B0
  have m11 := M a1 b1 A1 B1
  have m12 := M a1 b2 A1 B2
  have m13 := M a1 b3 A1 B3
  have m20 := M a2 b0 A2 B0
  have m21 := M a2 b1 A2 B1
  have m22 := M a2 b2 A2 B2
  have m23 := M a2 b3 A2 B3
  have m30 := M a3 b0 A3 B0
  have m31 := M a3 b1 A3 B1
  have m32 := M a3 b2 A3 B2
  have m33 := M a3 b3 A3 B3
  clear M A0 A1 A2 A3 B0 B1 B2 B3 hmn
  have N : ∀ z : Int, (-68719476737 ≤ z ∧ z ≤ 68719476737) → wrap64 (-z) = -z := fun z hz => wrap64_in _ (by omega) (by omega)
  unfold quat_Mul.f
  simp only [mul_f _ _ k hk, Option.bind_some, N _ m11, N _ m22, N _ m33, N _ m32, N _ m13, N _ m21]
  rw [sum4 _ _ _ _ (by omega) (by omega) (by omega) (by omega) (by omega) (by omega) (by omega) (by omega) k (by omega)]
  simp only [Option.bind_some]
  rw [sum4 _ _ _ _ (by omega) (by omega) (by omega) (by omega) (by omega) (by omega) (by omega) (by omega) k (by omega)]
  simp only [Option.bind_some]
  rw [sum4 _ _ _ _ (by omega) (by omega) (by omega) (by omega) (by omega) (by omega) (by omega) (by omega) k (by omega)]
  simp only [Option.bind_some]
  rw [sum4 _ _ _ _ (by omega) (by omega) (by omega) (by omega) (by omega) (by omega) (by omega) (by omega) k (by omega)]
  simp only [Option.bind_some, Int.sub_eq_add_neg]
theorem mul_zero (a : Int) : mulI a 0 = 0 := by unfold mulI; rw [clamp_in 0 (by omega) (by omega), Int.mul_zero]; decide +kernel
theorem zero_mul (a : Int) : mulI 0 a = 0 := by unfold mulI; rw [clamp_in 0 (by omega) (by omega), Int.zero_mul]; decide +kernel
theorem one_mul (a : Int) (h0 : -1099511627776 ≤ a) (h1 : a ≤ 1099511627776) : mulI 65536 a = a := by
  unfold mulI
  rw [clamp_in 65536 (by omega) (by omega), Int.mul_comm, rnd_mul _ _ (by omega), clamp_in a h0 h1, clamp_in a h0 h1]
end Go.Proofs.Ytnadffanmnbfcaa.QQuat
