/- tourmake.Below, fix.Clamp and the law's own number, in plain Lean. No condition. -/
import Derived.Test.YtggfiacnkbcjbaaPAllx1
namespace Go.Proofs.Ytggfiacnkbcjbaa.Pure
open Go.RowKit Go.Proofs.Ytggfiacnkbcjbaa.P Go.Proofs.YtggfiacnkbcjbaaW.PrintWords Go.Proofs.YtggfiacnkbcjbaaW.PrintLast
theorem wrap64_in (x : Int) (h0 : -9223372036854775808 ≤ x) (h1 : x < 9223372036854775808) : wrap64 x = x := by unfold wrap64; omega
theorem mx_eq (a b : Int) : mx a b = max a b := by unfold mx; split <;> omega
theorem mn_eq (a b : Int) : mn a b = min a b := by unfold mn; split <;> omega
theorem below_f (a n : Int) (hn : 0 < n) (hn2 : n ≤ 4611686018427387904) : tourmake_Below.f a n = some (a % n) := by
  unfold tourmake_Below.f
  rw [if_neg (by omega)]
  have hm := Int.emod_nonneg a (show n ≠ 0 by omega)
  have hl := Int.emod_lt_of_pos a hn
  by_cases h0 : 0 ≤ a
  · rw [Int.tmod_eq_emod_of_nonneg h0, if_neg (by omega)]
  · have e : Int.tmod a n = - ((-a) % n) := by
      rw [← Int.tmod_eq_emod_of_nonneg (show 0 ≤ -a by omega), Int.neg_tmod]; omega
    have hm' := Int.emod_nonneg (-a) (show n ≠ 0 by omega)
    have hl' := Int.emod_lt_of_pos (-a) hn
    have e2 : (a % n) = if (-a) % n = 0 then 0 else n - (-a) % n := by
      have q1 := Int.mul_ediv_add_emod a n
      have q2 := Int.mul_ediv_add_emod (-a) n
      split
      · rename_i hz
        rw [hz] at q2
        have hd : n ∣ a := ⟨-((-a) / n), by rw [Int.mul_neg]; omega⟩
        exact Int.emod_eq_zero_of_dvd hd
      · have hx : (n - (-a) % n) % n = n - (-a) % n := Int.emod_eq_of_lt (by omega) (by omega)
        rw [← hx]
        have : a = (n - (-a) % n) + n * (-((-a) / n) - 1) := by
          rw [Int.mul_sub, Int.mul_neg]; omega
        conv => lhs; rw [this]
        exact Int.add_mul_emod_self_left _ _ _
    rw [e]
    by_cases hz : (-a) % n = 0
    · rw [if_neg (by omega), e2, if_pos hz, hz]; rfl
    · rw [if_pos (by omega), e2, if_neg hz]
      congr 1
      unfold wrap64; omega
theorem clamp_f (a : Int) : fix_Clamp.f a = some (min (max a (-1099511627776)) 1099511627776) := by
  unfold fix_Clamp.f; rw [mx_eq, mn_eq]
theorem number_f (a most : Int) (h0 : 0 ≤ most) (h1 : most ≤ 1099511627776) : tourkeep1_number.f a most = some (a % (2 * most + 1) - most) := by
  unfold tourkeep1_number.f
  rw [wrap64_in (2 * most) (by omega) (by omega), wrap64_in (2 * most + 1) (by omega) (by omega), below_f _ _ (by omega) (by omega)]
  have hm := Int.emod_nonneg a (show 2 * most + 1 ≠ 0 by omega)
  have hl := Int.emod_lt_of_pos a (show 0 < 2 * most + 1 by omega)
  simp only [Option.bind_some]
  rw [wrap64_in _ (by omega) (by omega)]
end Go.Proofs.Ytggfiacnkbcjbaa.Pure
