/- The plain statement of QuantBounds: for every range, number of bits and two numbers the law's printed function returns true. No condition. -/
import Derived.Test.YtggfiacnkbcjbaaPAllx12
import Derived.Test.YtggfiacnkbcjbaaQQuant
namespace Go.Proofs.Ytggfiacnkbcjbaa.Pure
open Go Go.RowKit Go.Proofs.Ytggfiacnkbcjbaa.P Go.Proofs.Ytggfiacnkbcjbaa.QRnd Go.Proofs.Ytggfiacnkbcjbaa.QQuant Go.Proofs.YtggfiacnkbcjbaaW.PrintWords Go.Proofs.YtggfiacnkbcjbaaW.PrintLast Go.Proofs.YtggfiacnkbcjbaaW.PrintMore

theorem bounds_j (k : Nat) (hk : 100 < k) (x2 x3 x4 lo hi : Int) (hl0 : -1099511627776 ≤ lo) (hlt : lo ≤ hi) (hh : hi ≤ 1099511627776) : tourkeep1_QuantBounds.j0 k x2 x3 x4 lo hi = some true := by
  obtain ⟨k, rfl⟩ : ∃ m, k = m + 10 := ⟨k - 10, by omega⟩
  simp only [tourkeep1_QuantBounds.j0]
  rw [below_f _ _ (by omega) (by omega)]
  have hm := Int.emod_nonneg x2 (show (32 : Int) ≠ 0 by omega)
  have hl := Int.emod_lt_of_pos x2 (show (0 : Int) < 32 by omega)
  simp only [Option.bind_some]
  generalize x2 % 32 = n0 at *
  rw [wrap64_in (1 + n0) (by omega) (by omega)]
  by_cases he : lo = hi
  · rw [if_pos he]
    unfold quant_Bound.f quant_range1.f
    rw [clamp_f, clamp_f]
    simp only [Option.bind_some]
    rw [if_pos (by omega), if_pos (by omega), if_pos (by omega)]
    simp only [Option.bind_some]
    rw [if_neg (by omega)]
    rfl
  rw [if_neg he]
  obtain ⟨s, hs, hs1, hs2⟩ := pow_range (1 + n0) (by omega) (by omega)
  have hv : lo ≤ min (max x3 lo) hi ∧ min (max x3 lo) hi ≤ hi := by omega
  have hu : lo ≤ min (max x4 lo) hi ∧ min (max x4 lo) hi ≤ hi := by omega
  rw [mx_eq, mn_eq, mx_eq, mn_eq]
  generalize min (max x3 lo) hi = v at *
  generalize min (max x4 lo) hi = u at *
  rw [bound_f lo hi (1 + n0) s hl0 (by omega) hh (by omega) (by omega) hs hs1 hs2]
  simp only [Option.bind_some]
  rw [coarse_f _ lo hi (1 + n0) s v (by omega) hl0 (by omega) hh (by omega) (by omega) hs hs1 hs2 hv.1 hv.2]
  simp only [Option.bind_some]
  have hr := rq_in (show 0 ≤ v - lo by omega) (show v - lo ≤ hi - lo by omega) (show 0 ≤ s by omega) (by omega)
  rw [fine_f _ lo hi (1 + n0) s _ (by omega) hl0 (by omega) hh (by omega) (by omega) hs hs1 hs2 hr.1 hr.2]
  simp only [Option.bind_some]
  rw [coarse_f _ lo hi (1 + n0) s u (by omega) hl0 (by omega) hh (by omega) (by omega) hs hs1 hs2 hu.1 hu.2]
  simp only [Option.bind_some]
  rw [fine_f _ lo hi (1 + n0) s 0 (by omega) hl0 (by omega) hh (by omega) (by omega) hs hs1 hs2 (by omega) (by omega)]
  simp only [Option.bind_some]
  rw [if_pos (by omega), hs, wrap64_in (s + 1 - 1) (by omega) (by omega), show s + 1 - 1 = s by omega, fine_f _ lo hi (1 + n0) s s (by omega) hl0 (by omega) hh (by omega) (by omega) hs hs1 hs2 (by omega) (by omega)]
  simp only [Option.bind_some]
  rw [rq_zero _ _ (by omega), rq_self _ _ (by omega)]
  have hb := rq_back (v - lo) (hi - lo) s (by omega) (by omega)
  have hx := rq_in hr.1 hr.2 (show 0 ≤ hi - lo by omega) (show 0 < s by omega)
  have m1 : v ≤ u → rq (v - lo) s (hi - lo) ≤ rq (u - lo) s (hi - lo) := fun h => rq_mono (by omega) (by omega) (by omega)
  have m2 : u ≤ v → rq (u - lo) s (hi - lo) ≤ rq (v - lo) s (hi - lo) := fun h => rq_mono (by omega) (by omega) (by omega)
  generalize (hi - lo + s - 1) / s / 2 + 1 = most at *
  generalize rq (rq (v - lo) s (hi - lo)) (hi - lo) s = y at *
  generalize rq (v - lo) s (hi - lo) = kk at *
  generalize rq (u - lo) s (hi - lo) = mm at *
  have hw : ∀ i : Int, 0 ≤ i → i ≤ 6 → wrap64 (i + 1) = i + 1 := fun i _ _ => wrap64_in _ (by omega) (by omega)
  have hz : ∀ i : Int, 0 ≤ i → i < 6 → rd [0, 0, 0, 0, 0, 0] i = 0 := by
    intro i h0 h1
    obtain ⟨j, rfl⟩ : ∃ j : Nat, i = (j : Int) := ⟨i.toNat, by omega⟩
    have h : ∀ j : Fin 6, rd [0, 0, 0, 0, 0, 0] (j.val : Int) = 0 := by decide
    exact h ⟨j, by omega⟩
  have step : ∀ (k : Nat) (i : Int) (r : Option Bool), 0 ≤ i → i < 6 → tourkeep1_QuantBounds.l0 k v u most kk (lo + y) mm (lo + 0) (lo + (hi - lo)) [0, 0, 0, 0, 0, 0] 6 (i + 1) lo hi = r →
      tourkeep1_QuantBounds.l0 (k + 1) v u most kk (lo + y) mm (lo + 0) (lo + (hi - lo)) [0, 0, 0, 0, 0, 0] 6 i lo hi = r := by
    intro k i r h0 h1 h
    simp only [tourkeep1_QuantBounds.l0]
    rw [if_pos h1, if_pos h0, if_pos (by simpa using h1), if_pos (hz i h0 h1), hw i h0 (by omega)]
    exact h
  show tourkeep1_QuantBounds.l0 (k + 9) v u most kk (lo + y) mm (lo + 0) (lo + (hi - lo)) [0, 0, 0, 0, 0, 0] 6 0 lo hi = some true
  iterate 6 refine step _ _ _ (by omega) (by omega) ?_
  simp only [tourkeep1_QuantBounds.l0]
  rw [if_neg (by omega), near_f _ _ _ (by omega) (by omega), decide_eq_true (by omega)]
  simp only [Option.bind_some, clamp_f, if_true]
  have e : ((lo + y) == min (max (lo + y) (-1099511627776)) 1099511627776) = true := by
    rw [beq_iff_eq]; omega
  rw [if_pos (by omega), if_pos (by omega), e]
  by_cases c1 : u < v
  · have := m2 (by omega)
    rw [if_pos c1, if_neg (by omega), if_pos (by omega)]
  · have := m1 (by omega)
    rw [if_neg c1, if_pos (by omega)]
    by_cases c2 : u > v
    · rw [if_pos c2]
    · have := m2 (by omega)
      rw [if_neg c2, if_pos (by omega)]

theorem QuantBounds : tourkeep1_QuantBounds.Pure := by
  intro a0 a1 a2 a3 a4 _ _ _ _ _
  refine ⟨200, ?_⟩
  unfold tourkeep1_QuantBounds.f
  have hq : tourkeep1_quantBegun.f = some true := by decide +kernel
  rw [hq]
  simp only [Option.bind_some, if_true]
  rw [number_f _ _ (by omega) (by omega), number_f _ _ (by omega) (by omega)]
  simp only [Option.bind_some]
  have h0 := Int.emod_nonneg a0 (show (2 * 1099511627776 + 1 : Int) ≠ 0 by omega)
  have h1 := Int.emod_lt_of_pos a0 (show (0 : Int) < 2 * 1099511627776 + 1 by omega)
  have h2 := Int.emod_nonneg a1 (show (2 * 1099511627776 + 1 : Int) ≠ 0 by omega)
  have h3 := Int.emod_lt_of_pos a1 (show (0 : Int) < 2 * 1099511627776 + 1 by omega)
  generalize a0 % (2 * 1099511627776 + 1) = p at *
  generalize a1 % (2 * 1099511627776 + 1) = q at *
  split
  · exact bounds_j 200 (by omega) _ _ _ _ _ (by omega) (by omega) (by omega)
  · exact bounds_j 200 (by omega) _ _ _ _ _ (by omega) (by omega) (by omega)
end Go.Proofs.Ytggfiacnkbcjbaa.Pure
