/- The plain statement of VecProducts: for every input the law's printed function returns true. No condition. -/
import Derived.Test.YtnadffanmnbfcaaPAllx9
import Derived.Test.YtnadffanmnbfcaaPAllx3
import Derived.Test.YtnadffanmnbfcaaPAllx2
import Derived.Test.YtnadffanmnbfcaaPAllx7
import Derived.Test.YtnadffanmnbfcaaPAllx8
import Derived.Test.YtnadffanmnbfcaaQFix
namespace Go.Proofs.Ytnadffanmnbfcaa.Pure
open Go Go.RowKit Go.Proofs.Ytnadffanmnbfcaa.P Go.Proofs.Ytnadffanmnbfcaa.QDiv Go.Proofs.Ytnadffanmnbfcaa.QFix Go.Proofs.YtnadffanmnbfcaaW.PrintWords Go.Proofs.YtnadffanmnbfcaaW.PrintLast Go.Proofs.YtnadffanmnbfcaaW.PrintMore

theorem vprod (a b m n : Int) (a0 : -m ≤ a) (a1 : a ≤ m) (b0 : -n ≤ b) (b1 : b ≤ n) : -(m * n) ≤ a * b ∧ a * b ≤ m * n := by
  have g1 : 0 ≤ (m - a) * (n + b) := Int.mul_nonneg (by omega) (by omega)
  have g2 : 0 ≤ (m + a) * (n - b) := Int.mul_nonneg (by omega) (by omega)
  have g3 : 0 ≤ (m - a) * (n - b) := Int.mul_nonneg (by omega) (by omega)
  have g4 : 0 ≤ (m + a) * (n + b) := Int.mul_nonneg (by omega) (by omega)
  constructor <;> grind
def Few (x : Int) : Prop := -4194304 ≤ x ∧ x ≤ 4194304
/-- a product of small numbers, rounded -/
theorem vmul_near (a b : Int) (ha : Few a) (hb : Few b) : -65536 ≤ 2 * (65536 * mulI a b - a * b) ∧ 2 * (65536 * mulI a b - a * b) ≤ 65536 ∧ -268435457 ≤ mulI a b ∧ mulI a b ≤ 268435457 := by
  unfold Few at ha hb
  unfold mulI
  have p := vprod a b 4194304 4194304 ha.1 ha.2 hb.1 hb.2
  have r := rnd_bounds (a * b) 65536 (by omega)
  rw [clamp_in a (by omega) (by omega), clamp_in b (by omega) (by omega), clamp_in (rnd (a * b) 65536) (by omega) (by omega)]
  omega
theorem vmul_comm (a b : Int) : mulI a b = mulI b a := by unfold mulI; rw [Int.mul_comm]
theorem dot_f (x y z w : Int) (hx : Few x) (hy : Few y) (hz : Few z) (hw : Few w) (k : Nat) (hk : 40 ≤ k) : vec_Dot.f k x y z w = some (mulI x z + mulI y w) := by
  have h1 := vmul_near x z hx hz
  have h2 := vmul_near y w hy hw
  unfold vec_Dot.f
  rw [mul_f _ _ k hk, Option.bind_some, mul_f _ _ k hk, Option.bind_some, add_f, clamp_in (mulI x z) (by omega) (by omega), clamp_in (mulI y w) (by omega) (by omega), clamp_in _ (by omega) (by omega), Option.bind_some]
theorem cross_f (x y z w : Int) (hx : Few x) (hy : Few y) (hz : Few z) (hw : Few w) (k : Nat) (hk : 40 ≤ k) : vec_Cross.f k x y z w = some (mulI x w - mulI y z) := by
  have h1 := vmul_near x w hx hw
  have h2 := vmul_near y z hy hz
  unfold vec_Cross.f
  rw [mul_f _ _ k hk, Option.bind_some, mul_f _ _ k hk, Option.bind_some, sub_f, clamp_in (mulI x w) (by omega) (by omega), clamp_in (mulI y z) (by omega) (by omega), clamp_in _ (by omega) (by omega), Option.bind_some]
/-- Lagrange, with the roundings -/
theorem lagrange (x y z w D C A B : Int) (hD : ∃ e, 65536 * D = x * z + y * w + e ∧ -65536 ≤ e ∧ e ≤ 65536) (hC : ∃ e, 65536 * C = x * w - y * z + e ∧ -65536 ≤ e ∧ e ≤ 65536)
    (hA : ∃ e, 65536 * A = x * x + y * y + e ∧ -65536 ≤ e ∧ e ≤ 65536) (hB : ∃ e, 65536 * B = z * z + w * w + e ∧ -65536 ≤ e ∧ e ≤ 65536) (A0 : 0 ≤ A) (B0 : 0 ≤ B) :
    D * D + C * C - A * B ≤ 2 * max D (-D) + 2 * max C (-C) + A + B + 1 ∧ A * B - (D * D + C * C) ≤ 2 * max D (-D) + 2 * max C (-C) + A + B + 3 := by
  obtain ⟨e1, h1, a1, b1⟩ := hD
  obtain ⟨e2, h2, a2, b2⟩ := hC
  obtain ⟨e3, h3, a3, b3⟩ := hA
  obtain ⟨e4, h4, a4, b4⟩ := hB
  have p1 := vprod D e1 (max D (-D)) 65536 (by omega) (by omega) a1 b1
  have p2 := vprod C e2 (max C (-C)) 65536 (by omega) (by omega) a2 b2
  have p3 := vprod A e4 A 65536 (by omega) (by omega) a4 b4
  have p4 := vprod B e3 B 65536 (by omega) (by omega) a3 b3
  have p5 := vprod e3 e4 65536 65536 a3 b3 a4 b4
  have q1 := vprod e1 e1 65536 65536 a1 b1 a1 b1
  have q2 := vprod e2 e2 65536 65536 a2 b2 a2 b2
  have n1 : 0 ≤ e1 * e1 := by rcases Int.le_total 0 e1 with h | h; exact Int.mul_nonneg h h; have := Int.mul_nonneg (a := -e1) (b := -e1) (by omega) (by omega); rwa [Int.neg_mul_neg] at this
  have n2 : 0 ≤ e2 * e2 := by rcases Int.le_total 0 e2 with h | h; exact Int.mul_nonneg h h; have := Int.mul_nonneg (a := -e2) (b := -e2) (by omega) (by omega); rwa [Int.neg_mul_neg] at this
  have key : 4294967296 * (D * D + C * C - A * B) = 131072 * (D * e1) - e1 * e1 + 131072 * (C * e2) - e2 * e2 - 65536 * (A * e4) - 65536 * (B * e3) + e3 * e4 := by
    have s1 : (65536 * D) * (65536 * D) + (65536 * C) * (65536 * C) - (65536 * A) * (65536 * B) = 2 * ((65536 * D) * e1) - e1 * e1 + 2 * ((65536 * C) * e2) - e2 * e2 - (65536 * A) * e4 - (65536 * B) * e3 + e3 * e4 := by
      rw [h1, h2, h3, h4]; grind
    grind
  generalize D * e1 = t1 at *
  generalize C * e2 = t2 at *
  generalize A * e4 = t3 at *
  generalize B * e3 = t4 at *
  generalize D * D = d2 at *
  generalize C * C = c2 at *
  generalize A * B = ab at *
  generalize max D (-D) = MD at *
  generalize max C (-C) = MC at *
  constructor <;> omega
theorem VecProducts : tourkeep1_VecProducts.Pure := by
  intro a0 a1 a2 a3 _ _ _ _
  obtain ⟨k, hk, hb⟩ : ∃ k, 65 ≤ k ∧ tourkeep1_vecBegun.f k = some true := ⟨400, by omega, by decide +kernel⟩
  refine ⟨k, ?_⟩
  have sm : ∀ a b, tourkeep1_small.f a b = some (a % (2 * 1073741824 + 1) - 1073741824, b % (2 * 1073741824 + 1) - 1073741824) := fun a b => by
    unfold tourkeep1_small.f
    rw [number_f a 1073741824 (by omega) (by omega), Option.bind_some, number_f b 1073741824 (by omega) (by omega), Option.bind_some]
  have few : ∀ a : Int, Few ((a % (2 * 1073741824 + 1) - 1073741824) / 256) := fun a => by
    have := number_range a 1073741824 (by omega)
    unfold Few
    omega
  unfold tourkeep1_VecProducts.f
  rw [hb, Option.bind_some, if_pos rfl, sm, Option.bind_some, sm, Option.bind_some]
  dsimp only
  have hx := few a0
  have hy := few a1
  have hz := few a2
  have hw := few a3
  generalize (a0 % (2 * 1073741824 + 1) - 1073741824) / 256 = x at *
  generalize (a1 % (2 * 1073741824 + 1) - 1073741824) / 256 = y at *
  generalize (a2 % (2 * 1073741824 + 1) - 1073741824) / 256 = z at *
  generalize (a3 % (2 * 1073741824 + 1) - 1073741824) / 256 = w at *
  have c1 : mulI z x + mulI w y = mulI x z + mulI y w := by rw [vmul_comm z x, vmul_comm w y]
  have c2 : mulI z y - mulI w x = -(mulI x w - mulI y z) := by rw [vmul_comm z y, vmul_comm w x]; omega
  have c3 : mulI x y - mulI y x = 0 := by rw [vmul_comm x y]; omega
  rw [dot_f x y z w hx hy hz hw k (by omega), Option.bind_some, cross_f x y z w hx hy hz hw k (by omega), Option.bind_some, dot_f x y x y hx hy hx hy k (by omega), Option.bind_some, dot_f z w x y hz hw hx hy k (by omega), Option.bind_some, c1, if_pos rfl,
    cross_f z w x y hz hw hx hy k (by omega), Option.bind_some, c2]
  obtain ⟨m1, m2, m3, m4⟩ := vmul_near x z hx hz
  obtain ⟨n1, n2, n3, n4⟩ := vmul_near y w hy hw
  obtain ⟨r1, r2, r3, r4⟩ := vmul_near x w hx hw
  obtain ⟨s1, s2, s3, s4⟩ := vmul_near y z hy hz
  obtain ⟨t1, t2, t3, t4⟩ := vmul_near x x hx hx
  obtain ⟨u1, u2, u3, u4⟩ := vmul_near y y hy hy
  obtain ⟨v1, v2, v3, v4⟩ := vmul_near z z hz hz
  obtain ⟨o1, o2, o3, o4⟩ := vmul_near w w hw hw
  rw [wrap64_in (-(mulI x w - mulI y z)) (by omega) (by omega), if_pos rfl, cross_f x y x y hx hy hx hy k (by omega), Option.bind_some, c3, if_pos rfl, dot_f z w z w hz hw hz hw k (by omega), Option.bind_some, Option.bind_some, Option.bind_some]
  have sq : ∀ a : Int, 0 ≤ a * a := fun a => by rcases Int.le_total 0 a with h | h; exact Int.mul_nonneg h h; have := Int.mul_nonneg (a := -a) (b := -a) (by omega) (by omega); rwa [Int.neg_mul_neg] at this
  have qx := sq x
  have qy := sq y
  have qz := sq z
  have qw := sq w
  have lag := lagrange x y z w (mulI x z + mulI y w) (mulI x w - mulI y z) (mulI x x + mulI y y) (mulI z z + mulI w w) ⟨65536 * (mulI x z + mulI y w) - (x * z + y * w), by omega, by omega, by omega⟩ ⟨65536 * (mulI x w - mulI y z) - (x * w - y * z), by omega, by omega, by omega⟩
    ⟨65536 * (mulI x x + mulI y y) - (x * x + y * y), by omega, by omega, by omega⟩ ⟨65536 * (mulI z z + mulI w w) - (z * z + w * w), by omega, by omega, by omega⟩ (by omega) (by omega)
  have rD : -536870914 ≤ mulI x z + mulI y w ∧ mulI x z + mulI y w ≤ 536870914 := by omega
  have rC : -536870914 ≤ mulI x w - mulI y z ∧ mulI x w - mulI y z ≤ 536870914 := by omega
  have rA : 0 ≤ mulI x x + mulI y y ∧ mulI x x + mulI y y ≤ 536870914 := by omega
  have rB : 0 ≤ mulI z z + mulI w w ∧ mulI z z + mulI w w ≤ 536870914 := by omega
  clear m1 m2 m3 m4 n1 n2 n3 n4 r1 r2 r3 r4 s1 s2 s3 s4 t1 t2 t3 t4 u1 u2 u3 u4 v1 v2 v3 v4 o1 o2 o3 o4 c1 c2 c3 qx qy qz qw
  generalize mulI x z + mulI y w = D at *
  generalize mulI x w - mulI y z = C at *
  generalize mulI x x + mulI y y = A at *
  generalize mulI z z + mulI w w = B at *
  have d1 := vprod D D 536870914 536870914 rD.1 rD.2 rD.1 rD.2
  have d2 := vprod C C 536870914 536870914 rC.1 rC.2 rC.1 rC.2
  have d3 := vprod A B 536870914 536870914 (by omega) rA.2 (by omega) rB.2
  have d4 := Int.mul_nonneg rA.1 rB.1
  have dn := sq D
  have cn := sq C
  have eD : mx D (wrap64 (-D)) = max D (-D) := by rw [wrap64_in (-D) (by omega) (by omega), mx_eq]
  have eC : mx C (-C) = max C (-C) := mx_eq C (-C)
  rw [eD, eC]
  generalize hMD : max D (-D) = MD at *
  generalize hMC : max C (-C) = MC at *
  have bMD : 0 ≤ MD ∧ MD ≤ 536870914 := by omega
  have bMC : 0 ≤ MC ∧ MC ≤ 536870914 := by omega
  clear hMD hMC eD eC
  generalize D * D = DD at *
  generalize C * C = CC at *
  generalize A * B = AB at *
  rw [wrap64_in DD (by omega) (by omega), wrap64_in CC (by omega) (by omega), wrap64_in (DD + CC) (by omega) (by omega), wrap64_in AB (by omega) (by omega), wrap64_in (2 * MD) (by omega) (by omega), wrap64_in (2 * MC) (by omega) (by omega), wrap64_in (2 * MD + 2 * MC) (by omega) (by omega), wrap64_in (2 * MD + 2 * MC + 2) (by omega) (by omega),
    Int.tdiv_eq_ediv_of_nonneg (show 0 ≤ DD + CC by omega), Int.tdiv_eq_ediv_of_nonneg d4, Int.tdiv_eq_ediv_of_nonneg (show 0 ≤ 2 * MD + 2 * MC + 2 by omega), Int.tdiv_eq_ediv_of_nonneg rA.1, Int.tdiv_eq_ediv_of_nonneg rB.1,
    wrap64_in ((DD + CC) / 65536) (by omega) (by omega), wrap64_in (AB / 65536) (by omega) (by omega), wrap64_in ((2 * MD + 2 * MC + 2) / 65536) (by omega) (by omega), wrap64_in (A / 65536) (by omega) (by omega), wrap64_in (B / 65536) (by omega) (by omega),
    wrap64_in ((2 * MD + 2 * MC + 2) / 65536 + A / 65536) (by omega) (by omega), wrap64_in ((2 * MD + 2 * MC + 2) / 65536 + A / 65536 + B / 65536) (by omega) (by omega), wrap64_in ((2 * MD + 2 * MC + 2) / 65536 + A / 65536 + B / 65536 + 5) (by omega) (by omega)]
  have n : (DD + CC) / 65536 - AB / 65536 ≤ (2 * MD + 2 * MC + 2) / 65536 + A / 65536 + B / 65536 + 5 ∧ AB / 65536 - (DD + CC) / 65536 ≤ (2 * MD + 2 * MC + 2) / 65536 + A / 65536 + B / 65536 + 5 := by omega
  rw [near_f _ _ _ (by omega) (by omega), decide_eq_true n, Option.bind_some]

end Go.Proofs.Ytnadffanmnbfcaa.Pure
