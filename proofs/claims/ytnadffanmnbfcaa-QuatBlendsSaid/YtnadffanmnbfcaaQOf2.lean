/- A turn around an axis has about the length One. Conditions: axes of at most 2^30, and enough rounds. -/
import Derived.Test.YtnadffanmnbfcaaQOf
namespace Go.Proofs.Ytnadffanmnbfcaa.QOf
open Go Go.RowKit Go.Proofs.Ytnadffanmnbfcaa.P Go.Proofs.Ytnadffanmnbfcaa.QDiv Go.Proofs.Ytnadffanmnbfcaa.QFix Go.Proofs.Ytnadffanmnbfcaa.QRoot Go.Proofs.Ytnadffanmnbfcaa.QVec Go.Proofs.Ytnadffanmnbfcaa.QTrig Go.Proofs.Ytnadffanmnbfcaa.QCirc Go.Proofs.Ytnadffanmnbfcaa.QQuat Go.Proofs.Ytnadffanmnbfcaa.QUnit Go.Proofs.YtnadffanmnbfcaaW.PrintWords Go.Proofs.YtnadffanmnbfcaaW.PrintLast Go.Proofs.YtnadffanmnbfcaaW.PrintMore

/-- a part times a sine: its size, and what the rounding leaves -/
theorem share_sin (L s : Int) (hL : -65536 ≤ L ∧ L ≤ 65536) (hs : -65536 ≤ s ∧ s ≤ 65536) : ∃ e : Int, 65536 * mulI L s = L * s + e ∧ -32768 ≤ e ∧ e ≤ 32768 ∧ -65536 ≤ mulI L s ∧ mulI L s ≤ 65536 := by
  obtain ⟨h1, h2, _, _⟩ := qmul_near L s 65536 65536 hL.1 hL.2 hs.1 hs.2 (by omega) (by omega) (by omega)
  have p := qprod L s 65536 65536 hL.1 hL.2 hs.1 hs.2
  exact ⟨65536 * mulI L s - L * s, by omega, by omega, by omega, by omega, by omega⟩
theorem norm_of (c s L0 L1 L2 m0 m1 m2 e0 e1 e2 : Int) (hs : -65536 ≤ s ∧ s ≤ 65536) (hK : s * s + c * c - 4294967296 ≤ 786432 ∧ 4294967296 - (s * s + c * c) ≤ 786432)
    (h0 : -65536 ≤ L0 ∧ L0 ≤ 65536) (h1 : -65536 ≤ L1 ∧ L1 ≤ 65536) (h2 : -65536 ≤ L2 ∧ L2 ≤ 65536) (hT : L0 * L0 + L1 * L1 + L2 * L2 - 4294967296 ≤ 196617 ∧ 4294967296 - (L0 * L0 + L1 * L1 + L2 * L2) ≤ 196617)
    (k0 : 65536 * m0 = L0 * s + e0) (k1 : 65536 * m1 = L1 * s + e1) (k2 : 65536 * m2 = L2 * s + e2) (b0 : -32768 ≤ e0 ∧ e0 ≤ 32768) (b1 : -32768 ≤ e1 ∧ e1 ≤ 32768) (b2 : -32768 ≤ e2 ∧ e2 ≤ 32768) :
    c * c + m0 * m0 + m1 * m1 + m2 * m2 - 4294967296 ≤ 1245184 ∧ 4294967296 - (c * c + m0 * m0 + m1 * m1 + m2 * m2) ≤ 1245184 := by
  have j0 : 4294967296 * (m0 * m0) = (s * s) * (L0 * L0) + 2 * (s * (L0 * e0)) + e0 * e0 := by
    have : (65536 * m0) * (65536 * m0) = (L0 * s + e0) * (L0 * s + e0) := by rw [k0]
    grind
  have j1 : 4294967296 * (m1 * m1) = (s * s) * (L1 * L1) + 2 * (s * (L1 * e1)) + e1 * e1 := by
    have : (65536 * m1) * (65536 * m1) = (L1 * s + e1) * (L1 * s + e1) := by rw [k1]
    grind
  have j2 : 4294967296 * (m2 * m2) = (s * s) * (L2 * L2) + 2 * (s * (L2 * e2)) + e2 * e2 := by
    have : (65536 * m2) * (65536 * m2) = (L2 * s + e2) * (L2 * s + e2) := by rw [k2]
    grind
  have p0 := qprod L0 e0 65536 32768 h0.1 h0.2 b0.1 b0.2
  have p1 := qprod L1 e1 65536 32768 h1.1 h1.2 b1.1 b1.2
  have p2 := qprod L2 e2 65536 32768 h2.1 h2.2 b2.1 b2.2
  have q0 := qprod s (L0 * e0) 65536 2147483648 hs.1 hs.2 (by omega) (by omega)
  have q1 := qprod s (L1 * e1) 65536 2147483648 hs.1 hs.2 (by omega) (by omega)
  have q2 := qprod s (L2 * e2) 65536 2147483648 hs.1 hs.2 (by omega) (by omega)
  have r0 := sq_bound e0 32768 b0.1 b0.2
  have r1 := sq_bound e1 32768 b1.1 b1.2
  have r2 := sq_bound e2 32768 b2.1 b2.2
  have n0 := sq_nonneg e0
  have n1 := sq_nonneg e1
  have n2 := sq_nonneg e2
  have ns := sq_nonneg s
  have bs := sq_bound s 65536 hs.1 hs.2
  obtain ⟨t, ht⟩ : ∃ t, L0 * L0 + L1 * L1 + L2 * L2 = 4294967296 + t := ⟨L0 * L0 + L1 * L1 + L2 * L2 - 4294967296, by omega⟩
  have i : (s * s) * (L0 * L0) + (s * s) * (L1 * L1) + (s * s) * (L2 * L2) = 4294967296 * (s * s) + (s * s) * t := by
    have : (s * s) * (L0 * L0 + L1 * L1 + L2 * L2) = (s * s) * (4294967296 + t) := by rw [ht]
    grind
  have pt := qprod (s * s) t 4294967296 196617 (by omega) (by omega) (by omega) (by omega)
  omega
theorem of_parts (a b c g L0 L1 L2 : Int) (k : Nat) (hk : 40 ≤ k) (hu : quat_unit.f k [a, b, c] = some ([L0, L1, L2], true)) :
    quat_Of.f k a b c g = some (cosI (g / 2), mulI L0 (sinI (g / 2)), mulI L1 (sinI (g / 2)), mulI L2 (sinI (g / 2))) := by
  have l : (([L0, L1, L2] : List Int).length : Int) = 3 := rfl
  have r0 : rd [L0, L1, L2] 0 = L0 := rfl
  have r1 : rd [L0, L1, L2] 1 = L1 := rfl
  have r2 : rd [L0, L1, L2] 2 = L2 := rfl
  have t0 : (0 : Int) < 3 := by omega
  have t1 : (1 : Int) < 3 := by omega
  have t2 : (2 : Int) < 3 := by omega
  unfold quat_Of.f
  rw [hu, Option.bind_some, if_pos rfl, sin_f, Option.bind_some, cos_f, Option.bind_some, l, if_pos t0, r0, mul_f _ _ k hk, Option.bind_some, if_pos t1, r1, mul_f _ _ k hk, Option.bind_some, if_pos t2, r2, mul_f _ _ k hk, Option.bind_some]
theorem of_f (a b c g : Int) (ha : -1073741824 ≤ a ∧ a ≤ 1073741824) (hb : -1073741824 ≤ b ∧ b ≤ 1073741824) (hc : -1073741824 ≤ c ∧ c ≤ 1073741824) (k : Nat) (hk : 300 ≤ k) :
    ∃ p0 p1 p2 p3 : Int, quat_Of.f k a b c g = some (p0, p1, p2, p3) ∧ (-65536 ≤ p0 ∧ p0 ≤ 65536) ∧ (-65536 ≤ p1 ∧ p1 ≤ 65536) ∧ (-65536 ≤ p2 ∧ p2 ≤ 65536) ∧ (-65536 ≤ p3 ∧ p3 ≤ 65536) ∧
      p0 * p0 + p1 * p1 + p2 * p2 + p3 * p3 - 4294967296 ≤ 1245184 ∧ 4294967296 - (p0 * p0 + p1 * p1 + p2 * p2 + p3 * p3) ≤ 1245184 := by
  rcases unit3 a b c ha hb hc k hk with ⟨_, _, _, hu⟩ | ⟨s, d, _, d0, _, S0, S1, hu⟩
  · refine ⟨65536, 0, 0, 0, ?_, by omega, by omega, by omega, by omega, by omega, by omega⟩
    unfold quat_Of.f
    rw [hu, Option.bind_some, if_neg (by decide)]
  · obtain ⟨h0, h1, h2, T0, T1⟩ := parts_norm (s * a) (s * b) (s * c) d d0 S0 S1
    generalize shareI (s * a) d = L0 at *
    generalize shareI (s * b) d = L1 at *
    generalize shareI (s * c) d = L2 at *
    have e := of_parts a b c g L0 L1 L2 k (by omega) hu
    have hs := sinI_range (g / 2)
    have hcs := cosI_range (g / 2)
    have hK := circle (g / 2)
    generalize sinI (g / 2) = sn at *
    generalize cosI (g / 2) = cs at *
    obtain ⟨e0, k0, b0, b0', m0, m0'⟩ := share_sin L0 sn h0 hs
    obtain ⟨e1, k1, b1, b1', m1, m1'⟩ := share_sin L1 sn h1 hs
    obtain ⟨e2, k2, b2, b2', m2, m2'⟩ := share_sin L2 sn h2 hs
    exact ⟨_, _, _, _, e, hcs, ⟨m0, m0'⟩, ⟨m1, m1'⟩, ⟨m2, m2'⟩, norm_of cs sn L0 L1 L2 _ _ _ e0 e1 e2 hs hK h0 h1 h2 ⟨T0, T1⟩ k0 k1 k2 ⟨b0, b0'⟩ ⟨b1, b1'⟩ ⟨b2, b2'⟩⟩

end Go.Proofs.Ytnadffanmnbfcaa.QOf
