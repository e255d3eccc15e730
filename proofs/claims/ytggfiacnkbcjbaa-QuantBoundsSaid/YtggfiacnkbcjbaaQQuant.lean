/- What the printed functions of package quant compute: clamps, the rounded quotient bit by bit, and a number in a range and back. Each under the bounds that its row names. -/
import Derived.Test.YtggfiacnkbcjbaaPAllx11
import Derived.Test.YtggfiacnkbcjbaaQRnd
import Derived.Laws.BitsLemmas
namespace Go.Proofs.Ytggfiacnkbcjbaa.QQuant
open Go Go.RowKit Go.Proofs.Ytggfiacnkbcjbaa.P Go.Proofs.YtggfiacnkbcjbaaW.PrintWords Go.Proofs.YtggfiacnkbcjbaaW.PrintLast Go.Proofs.YtggfiacnkbcjbaaW.PrintMore

theorem i64_and1 (n : Int) : Go.bits .and .i64 n 1 = n % 2 := by
  have h1 : (BitVec.ofInt 64 1).toNat = 2 ^ 1 - 1 := by decide
  have key : (BitVec.ofInt 64 n &&& BitVec.ofInt 64 1).toNat = (n % ((2 ^ 64 : Nat) : Int)).toNat % 2 ^ 1 := by
    rw [BitVec.toNat_and, BitVec.toNat_ofInt, h1, Nat.and_two_pow_sub_one_eq_mod]
  show IntKind.i64.wrap ((BitVec.ofInt 64 n &&& BitVec.ofInt 64 1).toNat : Nat) = n % 2
  rw [key, IntKind.wrap_i64]
  omega
theorem wrap64_in (x : Int) (h0 : -9223372036854775808 ≤ x) (h1 : x < 9223372036854775808) : wrap64 x = x := by unfold wrap64; omega
theorem mx_eq (a b : Int) : mx a b = max a b := by unfold mx; split <;> omega
theorem mn_eq (a b : Int) : mn a b = min a b := by unfold mn; split <;> omega

/-- one bit of b, seen from bit i on -/
theorem high_bits (b : Int) (i : Nat) : b / 2 ^ i = 2 * (b / 2 ^ (i + 1)) + b / 2 ^ i % 2 := by
  have e : b / 2 ^ (i + 1) = b / 2 ^ i / 2 := by rw [Int.pow_succ, Int.ediv_ediv_of_nonneg (Int.pow_nonneg (by omega))]
  rw [e]; omega

theorem out_le {out c rest a p : Int} (h : out * c + rest = a * p) (hr : 0 ≤ rest) (hac : a ≤ c) (hp : 0 ≤ p) (hc : 0 < c) : out ≤ p := by
  have h1 : a * p ≤ c * p := Int.mul_le_mul_of_nonneg_right hac hp
  have h2 : out * c ≤ p * c := by rw [Int.mul_comm p c]; omega
  exact Int.le_of_mul_le_mul_right h2 hc
theorem through_loop (a b c : Int) (ha : 0 ≤ a) (hac : a ≤ c) (hc : 0 < c) (hc2 : c ≤ 2199023255552) (hb : 0 ≤ b) (hb2 : b < 4398046511104) (d : Nat) : ∀ (k : Nat) (out rest : Int), d ≤ 42 → 2 * d < k → 0 ≤ out → 0 ≤ rest → rest < c → out * c + rest = a * (b / 2 ^ d) →
    quant_through.l0 k a b c out rest ((d : Int) - 1) = some ((2 * (a * b) + c) / (2 * c)) := by
  induction d with
  | zero =>
    intro k out rest hd hk ho hr0 hr1 he
    have hob := out_le he hr0 hac (Int.ediv_nonneg hb (Int.pow_nonneg (by omega))) hc
    obtain ⟨k, rfl⟩ : ∃ m, k = m + 1 := ⟨k - 1, by omega⟩
    simp only [quant_through.l0]
    rw [if_neg (by omega)]
    have e0 : b / 2 ^ 0 = b := by simp
    rw [e0] at hob he
    rw [wrap64_in (2 * rest) (by omega) (by omega)]
    have h2 : 2 * (a * b) + c = (2 * rest + c) + (2 * c) * out := by rw [← he]; grind
    have h3 : (2 * (a * b) + c) / (2 * c) = (2 * rest + c) / (2 * c) + out := by rw [h2, Int.add_mul_ediv_left _ _ (by omega)]
    by_cases h : 2 * rest ≥ c
    · rw [if_pos h, wrap64_in (out + 1) (by omega) (by omega), h3]
      have : (2 * rest + c) / (2 * c) = 1 := by
        apply Int.le_antisymm
        · have := Int.ediv_lt_of_lt_mul (a := 2 * rest + c) (b := 2) (c := 2 * c) (by omega) (by omega); omega
        · exact (Int.le_ediv_iff_mul_le (by omega)).2 (by omega)
      rw [this, Int.add_comm]
    · rw [if_neg h, h3, Int.ediv_eq_zero_of_lt (by omega) (by omega), Int.zero_add]
  | succ d ih =>
    intro k out rest hd hk ho hr0 hr1 he
    have hob := out_le he hr0 hac (Int.ediv_nonneg hb (Int.pow_nonneg (by omega))) hc
    obtain ⟨k, rfl⟩ : ∃ m, k = m + 2 := ⟨k - 2, by omega⟩
    have hq0 : 0 ≤ b / 2 ^ (d + 1) := Int.ediv_nonneg hb (Int.pow_nonneg (by omega))
    have hq1 : b / 2 ^ (d + 1) ≤ b := Int.ediv_le_self _ hb
    have hbits := high_bits b d
    have hbit := Int.emod_two_eq (b / 2 ^ d)
    generalize hQ : b / 2 ^ (d + 1) = q at *
    generalize hP : b / 2 ^ d = p at *
    have hi : ((d + 1 : Nat) : Int) - 1 = (d : Int) := by omega
    have hsh : shr .i64 b (d : Int) = p := by
      unfold shr
      have : min (d : Int).toNat IntKind.i64.bits = d := by
        have : IntKind.i64.bits = 64 := rfl
        omega
      rw [this, hP]
    have hwd : wrap64 ((d : Int) - 1) = (d : Int) - 1 := wrap64_in _ (by omega) (by omega)
    rw [hi]
    simp only [quant_through.l0, quant_through.j1]
    rw [if_pos (by omega), hwd, wrap64_in (2 * rest) (by omega) (by omega), wrap64_in (2 * out) (by omega) (by omega), wrap64_in (2 * out + 1) (by omega) (by omega)]
    have hap : a * p = 2 * (a * q) + a * (p % 2) := by
      have : a * p = a * (2 * q + p % 2) := by rw [← hbits]
      rw [this]; grind
    rw [hap] at ih
    rw [← he] at ih
    have h0d : (0 : Int) ≤ (d : Int) := by omega
    by_cases h1 : 2 * rest ≥ c
    · rw [if_pos h1, if_pos h0d, hsh, i64_and1, wrap64_in (2 * rest - c) (by omega) (by omega)]
      rcases hbit with h0 | h0
      · rw [h0, if_neg (show ¬ (0 : Int) = 1 by omega)]
        rw [h0] at ih hbits
        exact ih _ _ _ (by omega) (by omega) (by omega) (by omega) (by omega) (by grind)
      · rw [h0, if_pos rfl, wrap64_in (2 * rest - c + a) (by omega) (by omega)]
        rw [h0] at ih hbits
        by_cases h2 : 2 * rest - c + a ≥ c
        · rw [if_pos h2, wrap64_in (2 * rest - c + a - c) (by omega) (by omega), wrap64_in (2 * out + 1 + 1) (by omega) (by omega)]
          exact ih _ _ _ (by omega) (by omega) (by omega) (by omega) (by omega) (by grind)
        rw [if_neg h2]
        exact ih _ _ _ (by omega) (by omega) (by omega) (by omega) (by omega) (by grind)
    · rw [if_neg h1, if_pos h0d, hsh, i64_and1]
      rcases hbit with h0 | h0
      · rw [h0, if_neg (show ¬ (0 : Int) = 1 by omega)]
        rw [h0] at ih hbits
        exact ih _ _ _ (by omega) (by omega) (by omega) (by omega) (by omega) (by grind)
      · rw [h0, if_pos rfl, wrap64_in (2 * rest + a) (by omega) (by omega)]
        rw [h0] at ih hbits
        by_cases h2 : 2 * rest + a ≥ c
        · rw [if_pos h2, wrap64_in (2 * rest + a - c) (by omega) (by omega)]
          exact ih _ _ _ (by omega) (by omega) (by omega) (by omega) (by omega) (by grind)
        · rw [if_neg h2]
          exact ih _ _ _ (by omega) (by omega) (by omega) (by omega) (by omega) (by grind)
/-- the rounded quotient -/
def rq (a b c : Int) : Int := (2 * (a * b) + c) / (2 * c)
theorem through_f (a b c : Int) (ha : 0 ≤ a) (hac : a ≤ c) (hc : 0 < c) (hc2 : c ≤ 2199023255552) (hb : 0 ≤ b) (hb2 : b < 4398046511104) (k : Nat) (hk : 84 < k) : quant_through.f k a b c = some (rq a b c) := by
  have e0 : b / 2 ^ 42 = 0 := Int.ediv_eq_zero_of_lt hb (by omega)
  exact through_loop a b c ha hac hc hc2 hb hb2 42 k 0 0 (by omega) (by omega) (by omega) (by omega) (by omega) (by rw [e0]; grind)
theorem rq_bounds (a b c : Int) (hc : 0 < c) : -c < 2 * (rq a b c * c - a * b) ∧ 2 * (rq a b c * c - a * b) ≤ c := by
  unfold rq
  have h := Int.mul_ediv_add_emod (2 * (a * b) + c) (2 * c)
  have h0 := Int.emod_nonneg (2 * (a * b) + c) (show 2 * c ≠ 0 by omega)
  have h1 := Int.emod_lt_of_pos (2 * (a * b) + c) (show 0 < 2 * c by omega)
  generalize (2 * (a * b) + c) / (2 * c) = q at *
  have e : 2 * c * q = 2 * (q * c) := by grind
  omega
theorem rq_mono {a a' b c : Int} (h : a ≤ a') (hb : 0 ≤ b) (hc : 0 < c) : rq a b c ≤ rq a' b c := by
  unfold rq
  have : a * b ≤ a' * b := Int.mul_le_mul_of_nonneg_right h hb
  exact Int.ediv_le_ediv (by omega) (by omega)
theorem rq_zero (b c : Int) (hc : 0 < c) : rq 0 b c = 0 := by
  unfold rq
  rw [Int.zero_mul]; exact Int.ediv_eq_zero_of_lt (by omega) (by omega)
theorem rq_self (b c : Int) (hc : 0 < c) : rq c b c = b := by
  unfold rq
  rw [show 2 * (c * b) + c = c + (2 * c) * b by grind, Int.add_mul_ediv_left _ _ (by omega), Int.ediv_eq_zero_of_lt (by omega) (by omega), Int.zero_add]
theorem rq_in {a b c : Int} (ha : 0 ≤ a) (hac : a ≤ c) (hb : 0 ≤ b) (hc : 0 < c) : 0 ≤ rq a b c ∧ rq a b c ≤ b := by
  have h1 := rq_mono ha hb hc
  have h2 := rq_mono hac hb hc
  rw [rq_zero b c hc] at h1; rw [rq_self b c hc] at h2
  exact ⟨h1, h2⟩
theorem rq_back (D W S : Int) (hW : 0 < W) (hS : 0 < S) : rq (rq D S W) W S - D ≤ (W + S - 1) / S / 2 + 1 ∧ D - rq (rq D S W) W S ≤ (W + S - 1) / S / 2 + 1 := by
  have h1 := rq_bounds D S W hW
  have h2 := rq_bounds (rq D S W) W S hS
  generalize rq D S W = k at *
  generalize rq k W S = y at *
  have h3 := Int.mul_ediv_add_emod (W + S - 1) S
  have h4 := Int.emod_lt_of_pos (W + S - 1) hS
  have h5 := Int.emod_nonneg (W + S - 1) (show S ≠ 0 by omega)
  generalize (W + S - 1) / S = M at *
  have a1 : 2 * (y - D) * S ≤ (M + 1) * S := by
    have e1 : 2 * (y - D) * S = 2 * (y * S - k * W) + 2 * (k * W - D * S) := by grind
    have e2 : (M + 1) * S = S * M + S := by grind
    omega
  have a2 : 2 * (D - y) * S ≤ (M + 1) * S := by
    have e1 : 2 * (D - y) * S = - (2 * (y * S - k * W)) - (2 * (k * W - D * S)) := by grind
    have e2 : (M + 1) * S = S * M + S := by grind
    omega
  have b1 := Int.le_of_mul_le_mul_right a1 hS
  have b2 := Int.le_of_mul_le_mul_right a2 hS
  omega

theorem clamp_f (a : Int) : fix_Clamp.f a = some (min (max a (-1099511627776)) 1099511627776) := by
  unfold fix_Clamp.f; rw [mx_eq, mn_eq]
theorem number_f (a most : Int) (h0 : 0 ≤ most) (h1 : most ≤ 1099511627776) : tourkeep1_number.f a most = some (a % (2 * most + 1) - most) := by
  unfold tourkeep1_number.f
  rw [wrap64_in (2 * most) (by omega) (by omega), wrap64_in (2 * most + 1) (by omega) (by omega), QRnd.below_f _ _ (by omega) (by omega)]
  have hm := Int.emod_nonneg a (show 2 * most + 1 ≠ 0 by omega)
  have hl := Int.emod_lt_of_pos a (show 0 < 2 * most + 1 by omega)
  simp only [Option.bind_some]
  rw [wrap64_in _ (by omega) (by omega)]
theorem pow_range (n : Int) (h1 : 1 ≤ n) (h2 : n ≤ 32) : ∃ s : Int, shl .i64 1 n = s + 1 ∧ 1 ≤ s ∧ s ≤ 4294967295 := by
  have h : ∀ m : Nat, m < 33 → 1 ≤ m → ∃ s : Int, shl .i64 1 (m : Int) = s + 1 ∧ 1 ≤ s ∧ s ≤ 4294967295 := by
    intro m hm h1
    have hh : ∀ m : Fin 33, 1 ≤ m.val → shl .i64 1 (m.val : Int) - 1 + 1 = shl .i64 1 (m.val : Int) ∧ 1 ≤ shl .i64 1 (m.val : Int) - 1 ∧ shl .i64 1 (m.val : Int) - 1 ≤ 4294967295 := by decide +kernel
    have := hh ⟨m, hm⟩ h1
    exact ⟨_, this.1.symm, this.2.1, this.2.2⟩
  obtain ⟨m, rfl⟩ : ∃ m : Nat, n = (m : Int) := ⟨n.toNat, by omega⟩
  exact h m (by omega) (by omega)
theorem range_f (lo hi n : Int) (hl0 : -1099511627776 ≤ lo) (hlt : lo < hi) (hh : hi ≤ 1099511627776) (h1 : 1 ≤ n) (h2 : n ≤ 32) : quant_range1.f lo hi n = some 0 := by
  unfold quant_range1.f
  rw [clamp_f, clamp_f]
  simp only [Option.bind_some]
  rw [if_pos (by omega), if_pos (by omega), if_neg (by omega), if_neg (by omega), if_neg (by omega)]
theorem bound_f (lo hi n s : Int) (hl0 : -1099511627776 ≤ lo) (hlt : lo < hi) (hh : hi ≤ 1099511627776) (h1 : 1 ≤ n) (h2 : n ≤ 32) (hs : shl .i64 1 n = s + 1) (hs1 : 1 ≤ s) (hs2 : s ≤ 4294967295) :
    quant_Bound.f lo hi n = some ((hi - lo + s - 1) / s / 2 + 1, 0) := by
  unfold quant_Bound.f
  rw [range_f lo hi n hl0 hlt hh h1 h2]
  simp only [Option.bind_some, if_true]
  have q0 : 0 ≤ (hi - lo + s - 1) / s := Int.ediv_nonneg (by omega) (by omega)
  have q1 : (hi - lo + s - 1) / s ≤ hi - lo + s - 1 := Int.ediv_le_self _ (by omega)
  rw [if_pos (by omega), hs, wrap64_in (s + 1 - 1) (by omega) (by omega), if_neg (by omega), wrap64_in (hi - lo) (by omega) (by omega), show s + 1 - 1 = s by omega, wrap64_in (hi - lo + s) (by omega) (by omega), wrap64_in (hi - lo + s - 1) (by omega) (by omega), Int.tdiv_eq_ediv_of_nonneg (a := hi - lo + s - 1) (by omega), wrap64_in ((hi - lo + s - 1) / s) (by omega) (by omega), Int.tdiv_eq_ediv_of_nonneg (by omega), wrap64_in ((hi - lo + s - 1) / s / 2) (by omega) (by omega), wrap64_in _ (by omega) (by omega)]
theorem coarse_f (k : Nat) (lo hi n s v : Int) (hk : 84 < k) (hl0 : -1099511627776 ≤ lo) (hlt : lo < hi) (hh : hi ≤ 1099511627776) (h1 : 1 ≤ n) (h2 : n ≤ 32) (hs : shl .i64 1 n = s + 1) (hs1 : 1 ≤ s) (hs2 : s ≤ 4294967295) (hv : lo ≤ v) (hv2 : v ≤ hi) :
    quant_Coarse.f k lo hi n v = some (rq (v - lo) s (hi - lo), 0) := by
  unfold quant_Coarse.f
  rw [range_f lo hi n hl0 hlt hh h1 h2]
  simp only [Option.bind_some, if_true]
  rw [if_pos (by omega), hs, mx_eq, mn_eq, show min (max v lo) hi = v by omega, wrap64_in (v - lo) (by omega) (by omega), wrap64_in (s + 1 - 1) (by omega) (by omega), wrap64_in (hi - lo) (by omega) (by omega), show s + 1 - 1 = s by omega, through_f _ _ _ (by omega) (by omega) (by omega) (by omega) (by omega) (by omega) k hk]
  rfl
theorem fine_f (k : Nat) (lo hi n s x : Int) (hk : 84 < k) (hl0 : -1099511627776 ≤ lo) (hlt : lo < hi) (hh : hi ≤ 1099511627776) (h1 : 1 ≤ n) (h2 : n ≤ 32) (hs : shl .i64 1 n = s + 1) (hs1 : 1 ≤ s) (hs2 : s ≤ 4294967295) (hx : 0 ≤ x) (hx2 : x ≤ s) :
    quant_Fine.f k lo hi n x = some (lo + rq x (hi - lo) s, 0) := by
  unfold quant_Fine.f
  rw [range_f lo hi n hl0 hlt hh h1 h2]
  simp only [Option.bind_some, if_true]
  have hr := rq_in hx hx2 (show 0 ≤ hi - lo by omega) (by omega)
  rw [if_neg (by omega), if_pos (by omega), hs, if_neg (by omega), wrap64_in (s + 1 - 1) (by omega) (by omega), wrap64_in (hi - lo) (by omega) (by omega), show s + 1 - 1 = s by omega, through_f _ _ _ (by omega) (by omega) (by omega) (by omega) (by omega) (by omega) k hk]
  simp only [Option.bind_some]
  rw [wrap64_in _ (by omega) (by omega)]
theorem near_f (a b m : Int) (h1 : -4611686018427387904 ≤ a - b) (h2 : a - b ≤ 4611686018427387904) : tourkeep1_near.f a b m = some (decide (a - b ≤ m ∧ b - a ≤ m)) := by
  unfold tourkeep1_near.f
  rw [wrap64_in _ (by omega) (by omega), wrap64_in _ (by omega) (by omega)]
  split <;> simp [*]
end Go.Proofs.Ytggfiacnkbcjbaa.QQuant
