/- What the printed fix.Root computes: the floor of the root of a number of two words. Condition: the number lies below 2^127, in two words. -/
import Derived.Test.YtnadffanmnbfcaaPAllx9
import Derived.Test.YtnadffanmnbfcaaQDiv
namespace Go.Proofs.Ytnadffanmnbfcaa.QRoot
open Go Go.RowKit Go.Proofs.Ytnadffanmnbfcaa.P Go.Proofs.Ytnadffanmnbfcaa.QDiv Go.Proofs.YtnadffanmnbfcaaW.PrintWords Go.Proofs.YtnadffanmnbfcaaW.PrintLast Go.Proofs.YtnadffanmnbfcaaW.PrintMore

theorem or_bit (x : Int) (b : Nat) (_hb : b ≤ 63) (h0 : 0 ≤ x) (h1 : x + 2 ^ b < 18446744073709551616) (hx : x % 2 ^ (b + 1) = 0) : Go.bits .or .u64 x (2 ^ b) = x + 2 ^ b := by
  have hP : (0 : Int) < 2 ^ b := Int.pow_pos (by omega)
  have hn : ((2 ^ b : Nat) : Int) = 2 ^ b := by rw [Int.natCast_pow]; rfl
  have hn1 : ((2 ^ (b + 1) : Nat) : Int) = 2 ^ (b + 1) := by rw [Int.natCast_pow]; rfl
  obtain ⟨x, rfl⟩ := Int.eq_ofNat_of_zero_le h0
  rw [← hn1] at hx
  have hx2 : x % 2 ^ (b + 1) = 0 := by exact_mod_cast hx
  rw [← hn] at h1 hP ⊢
  have hlt : 2 ^ b < 2 ^ (b + 1) := Nat.pow_lt_pow_right (by omega) (by omega)
  rw [u64_or_nat x (2 ^ b) (by omega) (by omega), nat_join (b + 1) x (2 ^ b) hx2 hlt]
  rfl
theorem sq_le {a b : Int} (h0 : 0 ≤ a) (h : a ≤ b) : a * a ≤ b * b := Int.mul_le_mul h h h0 (by omega)
theorem pair_le (a b c d : Int) (hb0 : 0 ≤ b) (hb : b < 18446744073709551616) (hd0 : 0 ≤ d) (hd : d < 18446744073709551616) : (a < c ∨ a = c ∧ b ≤ d) ↔ 18446744073709551616 * a + b ≤ 18446744073709551616 * c + d := by omega

/-- from bit b on: what has been found is a multiple of 2^b, its square is not greater, that of the next multiple is -/
theorem root_loop (hi lo N : Int) (hlo0 : 0 ≤ lo) (hlo : lo < 18446744073709551616) (hN : N = 18446744073709551616 * hi + lo) (b : Nat) : ∀ (k : Nat) (x : Int), b ≤ 64 → b < k → 0 ≤ x → x % 2 ^ b = 0 → x + 2 ^ b ≤ 18446744073709551616 → x * x ≤ N → N < (x + 2 ^ b) * (x + 2 ^ b) →
    ∃ r, fix_Root.l0 k hi lo x (2 ^ b / 2) = some r ∧ 0 ≤ r ∧ r < 18446744073709551616 ∧ r * r ≤ N ∧ N < (r + 1) * (r + 1) := by
  induction b with
  | zero =>
    intro k x hb hk hx0 hxm hx1 h1 h2
    obtain ⟨k, rfl⟩ : ∃ m, k = m + 1 := ⟨k - 1, by omega⟩
    refine ⟨x, ?_, hx0, by have h3 := hx1; simp at h3; omega, h1, by simpa using h2⟩
    simp only [fix_Root.l0]
    rw [if_neg (by decide)]
  | succ b ih =>
    intro k x hb hk hx0 hxm hx1 h1 h2
    obtain ⟨k, rfl⟩ : ∃ m, k = m + 1 := ⟨k - 1, by omega⟩
    have e2 : (2 : Int) ^ (b + 1) = 2 * 2 ^ b := by rw [Int.pow_succ]; omega
    have hP : (0 : Int) < 2 ^ b := Int.pow_pos (by omega)
    have eh : (2 : Int) ^ (b + 1) / 2 = 2 ^ b := by omega
    have hor := or_bit x b (by omega) hx0 (by omega) hxm
    have hd : x % 2 ^ b = 0 := by
      have : (2 : Int) ^ b ∣ x := Int.dvd_trans ⟨2, by omega⟩ (Int.dvd_of_emod_eq_zero hxm)
      exact Int.emod_eq_zero_of_dvd this
    have hd2 : (x + 2 ^ b) % 2 ^ b = 0 := by rw [Int.add_emod_right]; exact hd
    rw [e2] at hx1 h2
    rw [eh]
    simp only [fix_Root.l0]
    rw [if_pos (by omega), hor]
    generalize hPd : (2 : Int) ^ b = P at *
    have hq0 : 0 ≤ (x + P) * (x + P) := Int.mul_nonneg (by omega) (by omega)
    rw [mul64_f (x + P) (x + P) (by omega) (by omega) (by omega) (by omega)]
    simp only [Option.bind_some]
    have hpl := pair_le ((x + P) * (x + P) / 18446744073709551616) ((x + P) * (x + P) % 18446744073709551616) hi lo (by omega) (by omega) hlo0 hlo
    have hS : 18446744073709551616 * ((x + P) * (x + P) / 18446744073709551616) + (x + P) * (x + P) % 18446744073709551616 = (x + P) * (x + P) := by omega
    rw [hS, ← hN] at hpl
    have yes : (x + P) * (x + P) ≤ N → ∃ r, fix_Root.l0 k hi lo (x + P) (P / 2) = some r ∧ 0 ≤ r ∧ r < 18446744073709551616 ∧ r * r ≤ N ∧ N < (r + 1) * (r + 1) := by
      intro h
      exact ih k (x + P) (by omega) (by omega) (by omega) hd2 (by omega) h (by rw [show x + P + P = x + 2 * P by omega]; exact h2)
    have no : ¬ (x + P) * (x + P) ≤ N → ∃ r, fix_Root.l0 k hi lo x (P / 2) = some r ∧ 0 ≤ r ∧ r < 18446744073709551616 ∧ r * r ≤ N ∧ N < (r + 1) * (r + 1) := by
      intro h
      exact ih k x (by omega) (by omega) hx0 hd (by omega) h1 (by omega)
    generalize (x + P) * (x + P) / 18446744073709551616 = H at *
    generalize (x + P) * (x + P) % 18446744073709551616 = L at *
    by_cases c1 : H < hi
    · rw [if_pos c1]; exact yes (hpl.1 (Or.inl c1))
    rw [if_neg c1]
    by_cases c2 : H = hi
    · rw [if_pos c2]
      by_cases c3 : L ≤ lo
      · rw [if_pos c3]; exact yes (hpl.1 (Or.inr ⟨c2, c3⟩))
      · rw [if_neg c3]; exact no (fun h => by rcases hpl.2 h with h | h <;> omega)
    · rw [if_neg c2]; exact no (fun h => by rcases hpl.2 h with h | h <;> omega)
theorem root_f (hi lo : Int) (h0 : 0 ≤ hi) (h1 : hi < 18446744073709551616) (hlo0 : 0 ≤ lo) (hlo : lo < 18446744073709551616) (k : Nat) (hk : 65 ≤ k) :
    ∃ r, fix_Root.f k hi lo = some r ∧ 0 ≤ r ∧ r < 18446744073709551616 ∧ r * r ≤ 18446744073709551616 * hi + lo ∧ 18446744073709551616 * hi + lo < (r + 1) * (r + 1) := by
  unfold fix_Root.f
  exact root_loop hi lo _ hlo0 hlo rfl 64 k 0 (by omega) (by omega) (by omega) (by omega) (by omega) (by omega) (by omega)
end Go.Proofs.Ytnadffanmnbfcaa.QRoot
