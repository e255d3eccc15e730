/- What the printed functions of package fix compute: clamps, sums, and the product of two numbers through a third one, rounded half up. Conditions: none but enough rounds. -/
import Derived.Test.YtnadffanmnbfcaaPAllx5
import Derived.Test.YtnadffanmnbfcaaPAllx6
import Derived.Test.YtnadffanmnbfcaaPAllx8
import Derived.Test.YtnadffanmnbfcaaPAllx2
import Derived.Test.YtnadffanmnbfcaaQDiv
namespace Go.Proofs.Ytnadffanmnbfcaa.QFix
open Go Go.RowKit Go.Proofs.Ytnadffanmnbfcaa.P Go.Proofs.Ytnadffanmnbfcaa.QDiv Go.Proofs.YtnadffanmnbfcaaW.PrintWords Go.Proofs.YtnadffanmnbfcaaW.PrintLast Go.Proofs.YtnadffanmnbfcaaW.PrintMore

theorem mx_eq (a b : Int) : mx a b = max a b := by unfold mx; split <;> omega
theorem mn_eq (a b : Int) : mn a b = min a b := by unfold mn; split <;> omega
def clampI (a : Int) : Int := min (max a (-1099511627776)) 1099511627776
theorem clamp_f (a : Int) : fix_Clamp.f a = some (clampI a) := by
  unfold fix_Clamp.f clampI; rw [mx_eq, mn_eq]
theorem clamp_range (a : Int) : -1099511627776 ≤ clampI a ∧ clampI a ≤ 1099511627776 := by unfold clampI; omega
theorem clamp_in (a : Int) (h0 : -1099511627776 ≤ a) (h1 : a ≤ 1099511627776) : clampI a = a := by unfold clampI; omega
theorem clamp_mono {a b : Int} (h : a ≤ b) : clampI a ≤ clampI b := by unfold clampI; omega
theorem add_f (a b : Int) : fix_Add.f a b = some (clampI (clampI a + clampI b)) := by
  unfold fix_Add.f
  have ha := clamp_range a
  have hb := clamp_range b
  rw [clamp_f, clamp_f]; simp only [Option.bind_some]
  rw [wrap64_in _ (by omega) (by omega), clamp_f]
  rfl
theorem mag_f (a : Int) (h0 : -1099511627776 ≤ a) (h1 : a ≤ 1099511627776) : fix_mag.f a = some (max a (-a)) := by
  unfold fix_mag.f
  split
  · rw [wrap64_in _ (by omega) (by omega), IntKind.wrap_u64]; congr 1; omega
  · rw [IntKind.wrap_u64]; congr 1; omega
/-- a number through a positive number, rounded half up -/
def rnd (p d : Int) : Int := (2 * p + d) / (2 * d)
theorem rnd_pos (q r d : Int) (hd : 0 < d) (h0 : 0 ≤ r) (h1 : r < d) : rnd (d * q + r) d = if r ≥ d - r then q + 1 else q := by
  unfold rnd
  have e : 2 * (d * q + r) + d = (2 * r + d) + (2 * d) * q := by grind
  rw [e, Int.add_mul_ediv_left _ _ (by omega)]
  split
  · have : (2 * r + d) / (2 * d) = 1 := by
      apply Int.le_antisymm
      · have := Int.ediv_lt_of_lt_mul (a := 2 * r + d) (b := 2) (c := 2 * d) (by omega) (by omega); omega
      · exact (Int.le_ediv_iff_mul_le (by omega)).2 (by omega)
    omega
  · rw [Int.ediv_eq_zero_of_lt (by omega) (by omega)]; omega
theorem rnd_neg (q r d : Int) (hd : 0 < d) (h0 : 0 ≤ r) (h1 : r < d) : rnd (-(d * q + r)) d = if r > d - r then -(q + 1) else -q := by
  unfold rnd
  have e : 2 * (-(d * q + r)) + d = (d - 2 * r) + (2 * d) * (-q) := by grind
  rw [e, Int.add_mul_ediv_left _ _ (by omega)]
  split
  · have : (d - 2 * r) / (2 * d) = -1 := by
      apply Int.le_antisymm
      · have := Int.ediv_lt_of_lt_mul (a := d - 2 * r) (b := 0) (c := 2 * d) (by omega) (by omega); omega
      · exact (Int.le_ediv_iff_mul_le (by omega)).2 (by omega)
    omega
  · rw [Int.ediv_eq_zero_of_lt (by omega) (by omega)]; omega
theorem rnd_le {p p' d : Int} (h : p ≤ p') (hd : 0 < d) : rnd p d ≤ rnd p' d := by
  unfold rnd; exact Int.ediv_le_ediv (by omega) (by omega)
theorem rnd_bounds (p d : Int) (hd : 0 < d) : -d < 2 * (rnd p d * d - p) ∧ 2 * (rnd p d * d - p) ≤ d := by
  unfold rnd
  have h := Int.mul_ediv_add_emod (2 * p + d) (2 * d)
  have h0 := Int.emod_nonneg (2 * p + d) (show 2 * d ≠ 0 by omega)
  have h1 := Int.emod_lt_of_pos (2 * p + d) (show 0 < 2 * d by omega)
  generalize (2 * p + d) / (2 * d) = q at *
  have e : 2 * d * q = 2 * (q * d) := by grind
  omega
theorem rnd_mul (x d : Int) (hd : 0 < d) : rnd (x * d) d = x := by
  unfold rnd
  rw [show 2 * (x * d) + d = d + (2 * d) * x by grind, Int.add_mul_ediv_left _ _ (by omega), Int.ediv_eq_zero_of_lt (by omega) (by omega)]; omega

/-- the sign that the function has counted -/
def sg (neg : Bool) (m : Int) : Int := if neg then -m else m
theorem j2_tells (neg : Bool) (d q r : Int) (hd : 0 < d) (hd2 : d ≤ 1099511627776) (h0 : 0 ≤ r) (h1 : r < d) (hq0 : 0 ≤ q) (hq : q ≤ 1099511627777) (k : Nat) : fix_MulDiv.j2 (k + 2) neg d q r = some (clampI (rnd (sg neg (d * q + r)) d)) := by
  simp only [fix_MulDiv.j2]
  have w1 : IntKind.u64.wrap (d - r) = d - r := by rw [IntKind.wrap_u64]; omega
  rw [w1, wrap64_in q (by omega) (by omega), wrap64_in (q + 1) (by omega) (by omega)]
  cases neg with
  | true =>
    rw [if_pos rfl, show sg true (d * q + r) = -(d * q + r) from rfl, rnd_neg q r d hd h0 h1, wrap64_in (-(q + 1)) (by omega) (by omega), wrap64_in (-q) (by omega) (by omega), clamp_f, clamp_f]
    split <;> rfl
  | false =>
    rw [if_neg (by decide), show sg false (d * q + r) = d * q + r from rfl, rnd_pos q r d hd h0 h1]
    simp only [fix_MulDiv.j3, clamp_f]
    split <;> rfl
theorem j1_tells (A B C : Int) (neg : Bool) (hA0 : -1099511627776 ≤ A) (hA1 : A ≤ 1099511627776) (hB0 : -1099511627776 ≤ B) (hB1 : B ≤ 1099511627776) (hC0 : -1099511627776 ≤ C) (hC1 : C ≤ 1099511627776) (hC : C ≠ 0) (k : Nat) (hk : 30 ≤ k) :
    fix_MulDiv.j1 k A B C neg = some (clampI (rnd (sg neg (max A (-A) * max B (-B))) (max C (-C)))) := by
  obtain ⟨k, rfl⟩ : ∃ m, k = m + 1 := ⟨k - 1, by omega⟩
  simp only [fix_MulDiv.j1]
  rw [mag_f C hC0 hC1]; simp only [Option.bind_some]
  rw [mag_f A hA0 hA1]; simp only [Option.bind_some]
  rw [mag_f B hB0 hB1]; simp only [Option.bind_some]
  have a0 : 0 ≤ max A (-A) := by omega
  have a1 : max A (-A) ≤ 1099511627776 := by omega
  have b0 : 0 ≤ max B (-B) := by omega
  have b1 : max B (-B) ≤ 1099511627776 := by omega
  have c0 : 0 < max C (-C) := by omega
  have c1 : max C (-C) ≤ 1099511627776 := by omega
  generalize max A (-A) = a at *
  generalize max B (-B) = b at *
  generalize max C (-C) = d at *
  rw [mul64_f a b a0 (by omega) b0 (by omega)]; simp only [Option.bind_some]
  have m0 : 0 ≤ a * b := Int.mul_nonneg a0 b0
  have m1 : a * b ≤ 1099511627776 * 1099511627776 := Int.mul_le_mul a1 b1 b0 (by omega)
  generalize a * b = M at *
  by_cases hh : M / 18446744073709551616 ≥ d
  · rw [if_pos hh]
    have big : 18446744073709551616 * d ≤ M := by omega
    cases neg with
    | true =>
      rw [if_pos rfl, show sg true M = -M from rfl]
      have : rnd (-M) d ≤ -1099511627776 := by
        have h := rnd_le (p := -M) (p' := (-18446744073709551616) * d) (d := d) (by omega) c0
        rw [rnd_mul _ _ c0] at h; omega
      unfold clampI; congr 1; omega
    | false =>
      rw [if_neg (by decide), show sg false M = M from rfl]
      have : 1099511627776 ≤ rnd M d := by
        have h := rnd_le (p := 18446744073709551616 * d) (p' := M) (d := d) (by omega) c0
        rw [rnd_mul _ _ c0] at h; omega
      unfold clampI; congr 1; omega
  · rw [if_neg hh, div64_f _ _ _ (by omega) (by omega) (by omega) (by omega) (by omega) _ (by omega)]
    have e : 18446744073709551616 * (M / 18446744073709551616) + M % 18446744073709551616 = M := by omega
    rw [e]
    simp only [Option.bind_some]
    have q0 : 0 ≤ M / d := Int.ediv_nonneg m0 (by omega)
    have r0 := Int.emod_nonneg M (show d ≠ 0 by omega)
    have r1 := Int.emod_lt_of_pos M c0
    have hM := Int.mul_ediv_add_emod M d
    obtain ⟨k, rfl⟩ : ∃ m, k = m + 2 := ⟨k - 2, by omega⟩
    by_cases hq : M / d > 1099511627776
    · rw [if_pos hq, j2_tells neg d 1099511627777 0 c0 c1 (by omega) (by omega) (by omega) (by omega)]
      congr 1
      have hle : d * 1099511627777 ≤ M := by
        have := Int.mul_le_mul_of_nonneg_left (show 1099511627777 ≤ M / d by omega) (show 0 ≤ d by omega)
        omega
      have eq1 : d * 1099511627777 + 0 = 1099511627777 * d := by omega
      rw [eq1]
      cases neg with
      | true =>
        show clampI (rnd (-(1099511627777 * d)) d) = clampI (rnd (-M) d)
        have h1 := rnd_le (p := -M) (p' := -(1099511627777 * d)) (d := d) (by omega) c0
        rw [show -(1099511627777 * d) = (-1099511627777) * d by omega, rnd_mul _ _ c0] at h1 ⊢
        unfold clampI; omega
      | false =>
        show clampI (rnd (1099511627777 * d) d) = clampI (rnd M d)
        have h1 := rnd_le (p := 1099511627777 * d) (p' := M) (d := d) (by omega) c0
        rw [rnd_mul _ _ c0] at h1 ⊢
        unfold clampI; omega
    · rw [if_neg hq, j2_tells neg d (M / d) (M % d) c0 c1 r0 r1 q0 (by omega), hM]
/-- what MulDiv answers -/
def mdI (a b c : Int) : Int := if clampI c = 0 then 0 else if 0 < clampI c then clampI (rnd (clampI a * clampI b) (clampI c)) else clampI (rnd (-(clampI a * clampI b)) (-clampI c))
theorem muldiv_f (a b c : Int) (k : Nat) (hk : 40 ≤ k) : fix_MulDiv.f k a b c = some (mdI a b c) := by
  unfold fix_MulDiv.f mdI
  rw [clamp_f, clamp_f, clamp_f]; simp only [Option.bind_some]
  have hA := clamp_range a
  have hB := clamp_range b
  have hC := clamp_range c
  generalize clampI a = A at *
  generalize clampI b = B at *
  generalize clampI c = C at *
  by_cases h : C = 0
  · rw [if_pos h, if_pos h]
  rw [if_neg h, if_neg h]
  obtain ⟨k, rfl⟩ : ∃ m, k = m + 1 := ⟨k - 1, by omega⟩
  simp only [fix_MulDiv.j0, j1_tells A B C _ hA.1 hA.2 hB.1 hB.2 hC.1 hC.2 h k (by omega)]
  have key : ∀ A B : Int, (if B < 0 then sg (!decide (A < 0)) (max A (-A) * max B (-B)) else sg (decide (A < 0)) (max A (-A) * max B (-B))) = A * B := by
    intro A B
    by_cases h1 : A < 0 <;> by_cases h2 : B < 0
    · rw [if_pos h2, decide_eq_true h1, show max A (-A) = -A by omega, show max B (-B) = -B by omega]; show -A * -B = A * B; grind
    · rw [if_neg h2, decide_eq_true h1, show max A (-A) = -A by omega, show max B (-B) = B by omega]; show -(-A * B) = A * B; grind
    · rw [if_pos h2, decide_eq_false h1, show max A (-A) = A by omega, show max B (-B) = -B by omega]; show -(A * -B) = A * B; grind
    · rw [if_neg h2, decide_eq_false h1, show max A (-A) = A by omega, show max B (-B) = B by omega]; rfl
  have flip : ∀ (n : Bool) (m : Int), sg (!n) m = -sg n m := by intro n m; cases n <;> simp [sg]
  have hk := key A B
  by_cases hc : C < 0
  · rw [if_neg (show ¬ 0 < C by omega), show max C (-C) = -C by omega]
    by_cases h2 : B < 0
    · rw [if_pos h2] at hk
      rw [if_pos h2, if_pos hc, flip, hk]
    · rw [if_neg h2] at hk
      rw [if_neg h2, if_pos hc, flip, hk]
  · rw [if_pos (show 0 < C by omega), show max C (-C) = C by omega]
    by_cases h2 : B < 0
    · rw [if_pos h2] at hk
      rw [if_pos h2, if_neg hc, hk]
    · rw [if_neg h2] at hk
      rw [if_neg h2, if_neg hc, hk]
def mulI (a b : Int) : Int := clampI (rnd (clampI a * clampI b) 65536)
theorem mul_f (a b : Int) (k : Nat) (hk : 40 ≤ k) : fix_Mul.f k a b = some (mulI a b) := by
  unfold fix_Mul.f mulI
  rw [muldiv_f _ _ _ _ hk]
  simp only [Option.bind_some]
  unfold mdI
  rw [show clampI 65536 = 65536 from clamp_in _ (by omega) (by omega), if_neg (by omega), if_pos (by omega)]
theorem below_f (a n : Int) (hn : 0 < n) (hn2 : n ≤ 4611686018427387904) : tourmake_Below.f a n = some (a % n) := by
  unfold tourmake_Below.f
  rw [if_neg (by omega)]
  have hm := Int.emod_nonneg a (show n ≠ 0 by omega)
  have hl := Int.emod_lt_of_pos a hn
  by_cases h0 : 0 ≤ a
  · rw [Int.tmod_eq_emod_of_nonneg h0, if_neg (by omega)]
  · have e : Int.tmod a n = - ((-a) % n) := by
      rw [← Int.tmod_eq_emod_of_nonneg (show 0 ≤ -a by omega), Int.neg_tmod]; omega
    have hm' := Int.emod_nonneg (-a) (show n ≠ 0 by omega)
    have hl' := Int.emod_lt_of_pos (-a) hn
    have e2 : (a % n) = if (-a) % n = 0 then 0 else n - (-a) % n := by
      have q1 := Int.mul_ediv_add_emod a n
      have q2 := Int.mul_ediv_add_emod (-a) n
      split
      · rename_i hz
        rw [hz] at q2
        have hd : n ∣ a := ⟨-((-a) / n), by rw [Int.mul_neg]; omega⟩
        exact Int.emod_eq_zero_of_dvd hd
      · have hx : (n - (-a) % n) % n = n - (-a) % n := Int.emod_eq_of_lt (by omega) (by omega)
        rw [← hx]
        have : a = (n - (-a) % n) + n * (-((-a) / n) - 1) := by
          rw [Int.mul_sub, Int.mul_neg]; omega
        conv => lhs; rw [this]
        exact Int.add_mul_emod_self_left _ _ _
    rw [e]
    by_cases hz : (-a) % n = 0
    · rw [if_neg (by omega), e2, if_pos hz, hz]; rfl
    · rw [if_pos (by omega), e2, if_neg hz]
      congr 1
      unfold wrap64; omega
theorem number_f (a most : Int) (h0 : 0 ≤ most) (h1 : most ≤ 1099511627776) : tourkeep1_number.f a most = some (a % (2 * most + 1) - most) := by
  unfold tourkeep1_number.f
  rw [wrap64_in (2 * most) (by omega) (by omega), wrap64_in (2 * most + 1) (by omega) (by omega), below_f _ _ (by omega) (by omega)]
  have hm := Int.emod_nonneg a (show 2 * most + 1 ≠ 0 by omega)
  have hl := Int.emod_lt_of_pos a (show 0 < 2 * most + 1 by omega)
  simp only [Option.bind_some]
  rw [wrap64_in _ (by omega) (by omega)]
theorem number_range (a most : Int) (h0 : 0 ≤ most) : -most ≤ a % (2 * most + 1) - most ∧ a % (2 * most + 1) - most ≤ most := by
  have hm := Int.emod_nonneg a (show 2 * most + 1 ≠ 0 by omega)
  have hl := Int.emod_lt_of_pos a (show 0 < 2 * most + 1 by omega)
  omega
theorem near_f (a b m : Int) (h1 : -9223372036854775808 < a - b) (h2 : a - b < 9223372036854775808) : tourkeep1_near.f a b m = some (decide (a - b ≤ m ∧ b - a ≤ m)) := by
  unfold tourkeep1_near.f
  rw [wrap64_in _ (by omega) (by omega), wrap64_in _ (by omega) (by omega)]
  split <;> simp [*]
end Go.Proofs.Ytnadffanmnbfcaa.QFix
