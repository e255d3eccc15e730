/- What the printed math/bits functions Mul64 and Div64 compute: the exact product in two words, and the quotient and the remainder of two words by one. Conditions: words, and a divisor above the high word. What the printed functions of package fix compute: clamps, sums, and the product of two numbers through a third one, rounded half up. Conditions: none but enough rounds. What the printed functions Sin and Cos of package trig compute, and the laws of that: periods, mirrors, order. Condition: numbers of 64 bits. Package graph: Point and Within answer, whatever they are given. No condition but enough rounds. -/
import Derived.Test.YtffbonfgbmohdaaPAllx15
import Derived.Test.YtffbonfgbmohdaaPAllx17
import Derived.Laws.BitsAllLaws
import Derived.Test.YtffbonfgbmohdaaPAllx18
import Derived.Test.YtffbonfgbmohdaaPM1
import Derived.Test.YtffbonfgbmohdaaPAllx13
import Derived.Test.YtffbonfgbmohdaaPAllx22
import Derived.Test.YtffbonfgbmohdaaPAllx23
namespace Go.Proofs.Ytffbonfgbmohdaa.QDiv
open Go Go.RowKit Go.Proofs.Ytffbonfgbmohdaa.P Go.Proofs.YtffbonfgbmohdaaW.PrintWords Go.Proofs.YtffbonfgbmohdaaW.PrintLast Go.Proofs.YtffbonfgbmohdaaW.PrintMore

theorem low32 (a : Int) (h0 : 0 ≤ a) (h1 : a < 18446744073709551616) : Go.bits .and .u64 a 4294967295 = a % 4294967296 := by
  rw [u64_and a 4294967295 h0 h1 (by omega) (by omega)]
  have : (4294967295 : Int).toNat = 2 ^ 32 - 1 := rfl
  rw [this, Nat.and_two_pow_sub_one_eq_mod]
  omega
theorem mul64_f (a b : Int) (ha0 : 0 ≤ a) (ha : a < 18446744073709551616) (hb0 : 0 ≤ b) (hb : b < 18446744073709551616) :
    bits_Mul64.f a b = some (a * b / 18446744073709551616, a * b % 18446744073709551616) := by
  unfold bits_Mul64.f
  rw [low32 a ha0 ha, low32 b hb0 hb]
  obtain ⟨x1, x0, rfl, p1, p2, p3, p4, e1, e2⟩ : ∃ x1 x0 : Int, a = 4294967296 * x1 + x0 ∧ 0 ≤ x1 ∧ x1 < 4294967296 ∧ 0 ≤ x0 ∧ x0 < 4294967296 ∧ a / 4294967296 = x1 ∧ a % 4294967296 = x0 :=
    ⟨a / 4294967296, a % 4294967296, by omega, by omega, by omega, by omega, by omega, rfl, rfl⟩
  obtain ⟨y1, y0, rfl, r1, r2, r3, r4, f1, f2⟩ : ∃ x1 x0 : Int, b = 4294967296 * x1 + x0 ∧ 0 ≤ x1 ∧ x1 < 4294967296 ∧ 0 ≤ x0 ∧ x0 < 4294967296 ∧ b / 4294967296 = x1 ∧ b % 4294967296 = x0 :=
    ⟨b / 4294967296, b % 4294967296, by omega, by omega, by omega, by omega, by omega, rfl, rfl⟩
  rw [e1, e2, f1, f2]
  have bd : ∀ u v : Int, 0 ≤ u → u < 4294967296 → 0 ≤ v → v < 4294967296 → 0 ≤ u * v ∧ u * v ≤ 4294967295 * 4294967295 := fun u v h1 h2 h3 h4 => ⟨Int.mul_nonneg h1 h3, Int.mul_le_mul (by omega) (by omega) h3 (by omega)⟩
  obtain ⟨a1, a2⟩ := bd x1 y1 p1 p2 r1 r2
  obtain ⟨b1, b2⟩ := bd x1 y0 p1 p2 r3 r4
  obtain ⟨c1, c2⟩ := bd x0 y1 p3 p4 r1 r2
  obtain ⟨d1, d2⟩ := bd x0 y0 p3 p4 r3 r4
  have hp : (4294967296 * x1 + x0) * (4294967296 * y1 + y0) = 18446744073709551616 * (x1 * y1) + 4294967296 * (x1 * y0) + 4294967296 * (x0 * y1) + x0 * y0 := by grind
  rw [hp]
  generalize x1 * y1 = A at *
  generalize x1 * y0 = B at *
  generalize x0 * y1 = C at *
  generalize x0 * y0 = D at *
  simp only [IntKind.wrap_u64]
  rw [low32 _ (by omega) (by omega)]
  congr 2
  omega

/-- One digit: from a guess that is not too small to the digit itself. -/
theorem digit_low {u u1 v1 v0 Y q r : Int} (hY : Y = 4294967296 * v1 + v0) (hq : q * v1 + r = u) (h : q * v0 ≤ 4294967296 * r + u1) : q * Y ≤ 4294967296 * u + u1 := by
  subst hY; rw [← hq]; grind
theorem digit_high {u u1 v1 v0 Y q r : Int} (hY : Y = 4294967296 * v1 + v0) (hq : q * v1 + r = u) (h : q * v0 > 4294967296 * r + u1) : q * Y > 4294967296 * u + u1 := by
  subst hY; rw [← hq]; grind
theorem le_quot {N Y q : Int} (hY : 0 < Y) (h : q * Y ≤ N) : q ≤ N / Y := (Int.le_ediv_iff_mul_le hY).2 h
theorem quot_lt {N Y q : Int} (hY : 0 < Y) (h : q * Y > N) : N / Y < q := Int.ediv_lt_of_lt_mul hY h

theorem l_step (Y s v1 v0 u u1 u0 : Int) (r : Int × Int) (K : Nat) (hY : Y = 4294967296 * v1 + v0) (h1 : 2147483648 ≤ v1) (h2 : v1 < 4294967296) (h3 : 0 ≤ v0) (h4 : v0 < 4294967296) (hu0 : 0 ≤ u) (hu : u < Y) (hu1 : 0 ≤ u1) (hu2 : u1 < 4294967296)
    (hK : ∀ k, K ≤ k → bits_Div64.j2 k Y s v1 v0 u u1 u0 ((4294967296 * u + u1) / Y) = some r) (k : Nat) (q t : Int) (hk : K + 2 ≤ k) (hq : q * v1 + t = u) (ht0 : 0 ≤ t) (ht1 : t < 4294967296) (hge : (4294967296 * u + u1) / Y ≤ q) (hle : q ≤ 4294967297)
    (more : ∀ k', k ≤ k' + 2 → t + v1 < 4294967296 → (q - 1) * v1 + (t + v1) = u → (4294967296 * u + u1) / Y ≤ q - 1 → bits_Div64.l0 k' Y s v1 v0 u u1 u0 (q - 1) (t + v1) = some r) :
    bits_Div64.l0 k Y s v1 v0 u u1 u0 q t = some r := by
  have hYp : 0 < Y := by omega
  have hQ0 : 0 ≤ (4294967296 * u + u1) / Y := Int.ediv_nonneg (by omega) (by omega)
  have hQ1 : (4294967296 * u + u1) / Y < 4294967296 := Int.ediv_lt_of_lt_mul hYp (by omega)
  obtain ⟨k, rfl⟩ : ∃ m, k = m + 2 := ⟨k - 2, by omega⟩
  have hqv0 : 0 ≤ q * v0 := Int.mul_nonneg (by omega) h3
  have hqv1 : q * v0 ≤ 4294967297 * 4294967295 := Int.mul_le_mul hle (by omega) h3 (by omega)
  have hw1 : IntKind.u64.wrap (q * v0) = q * v0 := by rw [IntKind.wrap_u64]; omega
  have hw2 : IntKind.u64.wrap (IntKind.u64.wrap (4294967296 * t) + u1) = 4294967296 * t + u1 := by simp only [IntKind.wrap_u64]; omega
  have hw3 : IntKind.u64.wrap (t + v1) = t + v1 := by rw [IntKind.wrap_u64]; omega
  -- the guess is too great
  have down : (4294967296 * u + u1) / Y < q → bits_Div64.j1 (k + 1) Y s v1 v0 u u1 u0 q t true = some r := by
    intro hlt
    have hw4 : IntKind.u64.wrap (q - 1) = q - 1 := by rw [IntKind.wrap_u64]; omega
    have hq' : (q - 1) * v1 + (t + v1) = u := by rw [← hq]; grind
    simp only [bits_Div64.j1]
    rw [if_pos trivial, hw3, hw4]
    by_cases hb : t + v1 ≥ 4294967296
    · rw [if_pos hb]
      have a1 : (q - 1) * v0 ≤ 4294967296 * 4294967295 := Int.mul_le_mul (by omega) (by omega) h3 (by omega)
      have a2 := le_quot hYp (digit_low (u1 := u1) hY hq' (by omega))
      have e : (4294967296 * u + u1) / Y = q - 1 := by omega
      rw [← e]; exact hK k (by omega)
    · rw [if_neg hb]
      exact more k (by omega) (by omega) hq' (by omega)
  simp only [bits_Div64.l0]
  by_cases hc : q ≥ 4294967296
  · rw [if_pos hc]; exact down (by omega)
  · rw [if_neg hc, hw1, hw2]
    by_cases hc2 : q * v0 > 4294967296 * t + u1
    · rw [decide_eq_true hc2]; exact down (quot_lt hYp (digit_high hY hq hc2))
    · rw [decide_eq_false hc2]
      simp only [bits_Div64.j1]
      rw [if_neg (by decide)]
      have a2 := le_quot hYp (digit_low (u1 := u1) hY hq (by omega))
      have e : (4294967296 * u + u1) / Y = q := by omega
      rw [← e]; exact hK k (by omega)
theorem l0_tells (Y s v1 v0 u u1 u0 : Int) (r : Int × Int) (K : Nat) (hY : Y = 4294967296 * v1 + v0) (h1 : 2147483648 ≤ v1) (h2 : v1 < 4294967296) (h3 : 0 ≤ v0) (h4 : v0 < 4294967296) (hu0 : 0 ≤ u) (hu : u < Y) (hu1 : 0 ≤ u1) (hu2 : u1 < 4294967296)
    (hK : ∀ k, K ≤ k → bits_Div64.j2 k Y s v1 v0 u u1 u0 ((4294967296 * u + u1) / Y) = some r) (d : Nat) :
    ∀ (k : Nat) (q t : Int), K + 2 * d + 2 ≤ k → q * v1 + t = u → 0 ≤ t → t < 4294967296 → 4294967296 ≤ t + (d + 1) * 2147483648 → (4294967296 * u + u1) / Y ≤ q → q ≤ 4294967297 →
      bits_Div64.l0 k Y s v1 v0 u u1 u0 q t = some r := by
  have hYp : 0 < Y := by omega
  have hQ0 : 0 ≤ (4294967296 * u + u1) / Y := Int.ediv_nonneg (by omega) (by omega)
  have hQ1 : (4294967296 * u + u1) / Y < 4294967296 := Int.ediv_lt_of_lt_mul hYp (by omega)
  induction d with
  | zero =>
    intro k q t hk hq ht0 ht1 hd hge hle
    exact l_step Y s v1 v0 u u1 u0 r K hY h1 h2 h3 h4 hu0 hu hu1 hu2 hK k q t (by omega) hq ht0 ht1 hge hle (fun k' hk' h5 => by omega)
  | succ d ih =>
    intro k q t hk hq ht0 ht1 hd hge hle
    refine l_step Y s v1 v0 u u1 u0 r K hY h1 h2 h3 h4 hu0 hu hu1 hu2 hK k q t (by omega) hq ht0 ht1 hge hle (fun k' hk' h5 h6 h7 => ?_)
    exact ih k' (q - 1) (t + v1) (by omega) h6 (by omega) h5 (by omega) h7 (by omega)
theorem fin (p u u1 Y v1 v0 s : Int) (r : Int × Int) (hY : Y = 4294967296 * v1 + v0) (h1 : 2147483648 ≤ v1) (h2 : v1 < 4294967296) (h3 : 0 ≤ v0) (h4 : v0 < 4294967296) (hu0 : 0 ≤ u) (hu : u < Y) (hu1 : 0 ≤ u1) (hu2 : u1 < 4294967296) (hp0 : 0 ≤ p) (hp : p < 4294967296)
    (hK : (4294967296 * p + (4294967296 * u + u1) / Y, shr .u64 (4294967296 * u + u1 - (4294967296 * u + u1) / Y * Y) s) = r) :
    (IntKind.u64.wrap ((IntKind.u64.wrap (p * 4294967296)) + (4294967296 * u + u1) / Y), shr .u64 (IntKind.u64.wrap ((IntKind.u64.wrap ((IntKind.u64.wrap (u * 4294967296)) + u1)) - (IntKind.u64.wrap ((4294967296 * u + u1) / Y * Y)))) s) = r := by
  have hYp : 0 < Y := by omega
  have hQ0 : 0 ≤ (4294967296 * u + u1) / Y := Int.ediv_nonneg (by omega) (by omega)
  have hQ1 : (4294967296 * u + u1) / Y < 4294967296 := Int.ediv_lt_of_lt_mul hYp (by omega)
  have hm := Int.mul_ediv_add_emod (4294967296 * u + u1) Y
  have hm0 := Int.emod_nonneg (4294967296 * u + u1) (show Y ≠ 0 by omega)
  have hm1 := Int.emod_lt_of_pos (4294967296 * u + u1) hYp
  rw [Int.mul_comm Y] at hm
  rw [← hK]
  generalize (4294967296 * u + u1) / Y = Q at *
  generalize Q * Y = P at *
  have e1 : IntKind.u64.wrap ((IntKind.u64.wrap (p * 4294967296)) + Q) = 4294967296 * p + Q := by simp only [IntKind.wrap_u64]; omega
  have e2 : (IntKind.u64.wrap ((IntKind.u64.wrap ((IntKind.u64.wrap (u * 4294967296)) + u1)) - (IntKind.u64.wrap P))) = 4294967296 * u + u1 - P := by simp only [IntKind.wrap_u64]; omega
  rw [e1, e2]
theorem m_step (Y s v1 v0 u u1 p : Int) (r : Int × Int) (hs : 0 ≤ s) (hp0 : 0 ≤ p) (hp : p < 4294967296) (hY : Y = 4294967296 * v1 + v0) (h1 : 2147483648 ≤ v1) (h2 : v1 < 4294967296) (h3 : 0 ≤ v0) (h4 : v0 < 4294967296) (hu0 : 0 ≤ u) (hu : u < Y) (hu1 : 0 ≤ u1) (hu2 : u1 < 4294967296)
    (hK : (4294967296 * p + (4294967296 * u + u1) / Y, shr .u64 (4294967296 * u + u1 - (4294967296 * u + u1) / Y * Y) s) = r) (k : Nat) (q t : Int) (hk : 2 ≤ k) (hq : q * v1 + t = u) (ht0 : 0 ≤ t) (ht1 : t < 4294967296) (hge : (4294967296 * u + u1) / Y ≤ q) (hle : q ≤ 4294967297)
    (more : ∀ k', k ≤ k' + 2 → t + v1 < 4294967296 → (q - 1) * v1 + (t + v1) = u → (4294967296 * u + u1) / Y ≤ q - 1 → bits_Div64.l1 k' Y s v1 v0 u1 p (t + v1) u (q - 1) = some r) :
    bits_Div64.l1 k Y s v1 v0 u1 p t u q = some r := by
  have hYp : 0 < Y := by omega
  have hQ0 : 0 ≤ (4294967296 * u + u1) / Y := Int.ediv_nonneg (by omega) (by omega)
  have hQ1 : (4294967296 * u + u1) / Y < 4294967296 := Int.ediv_lt_of_lt_mul hYp (by omega)
  obtain ⟨k, rfl⟩ : ∃ m, k = m + 2 := ⟨k - 2, by omega⟩
  have hqv0 : 0 ≤ q * v0 := Int.mul_nonneg (by omega) h3
  have hqv1 : q * v0 ≤ 4294967297 * 4294967295 := Int.mul_le_mul hle (by omega) h3 (by omega)
  have hw1 : IntKind.u64.wrap (q * v0) = q * v0 := by rw [IntKind.wrap_u64]; omega
  have hw2 : IntKind.u64.wrap (IntKind.u64.wrap (4294967296 * t) + u1) = 4294967296 * t + u1 := by simp only [IntKind.wrap_u64]; omega
  have hw3 : IntKind.u64.wrap (t + v1) = t + v1 := by rw [IntKind.wrap_u64]; omega
  -- the guess is too great
  have down : (4294967296 * u + u1) / Y < q → bits_Div64.j4 (k + 1) Y s v1 v0 u1 p t u q true = some r := by
    intro hlt
    have hw4 : IntKind.u64.wrap (q - 1) = q - 1 := by rw [IntKind.wrap_u64]; omega
    have hq' : (q - 1) * v1 + (t + v1) = u := by rw [← hq]; grind
    simp only [bits_Div64.j4]
    rw [if_pos trivial, hw3, hw4]
    by_cases hb : t + v1 ≥ 4294967296
    · rw [if_pos hb]
      have a1 : (q - 1) * v0 ≤ 4294967296 * 4294967295 := Int.mul_le_mul (by omega) (by omega) h3 (by omega)
      have a2 := le_quot hYp (digit_low (u1 := u1) hY hq' (by omega))
      have e : (4294967296 * u + u1) / Y = q - 1 := by omega
      rw [← e]; rw [if_pos hs]; exact congrArg some (fin p u u1 Y v1 v0 s r hY h1 h2 h3 h4 hu0 hu hu1 hu2 hp0 hp hK)
    · rw [if_neg hb]
      exact more k (by omega) (by omega) hq' (by omega)
  simp only [bits_Div64.l1]
  by_cases hc : q ≥ 4294967296
  · rw [if_pos hc]; exact down (by omega)
  · rw [if_neg hc, hw1, hw2]
    by_cases hc2 : q * v0 > 4294967296 * t + u1
    · rw [decide_eq_true hc2]; exact down (quot_lt hYp (digit_high hY hq hc2))
    · rw [decide_eq_false hc2]
      simp only [bits_Div64.j4]
      rw [if_neg (by decide)]
      have a2 := le_quot hYp (digit_low (u1 := u1) hY hq (by omega))
      have e : (4294967296 * u + u1) / Y = q := by omega
      rw [← e]; rw [if_pos hs]; exact congrArg some (fin p u u1 Y v1 v0 s r hY h1 h2 h3 h4 hu0 hu hu1 hu2 hp0 hp hK)
theorem l1_tells (Y s v1 v0 u u1 p : Int) (r : Int × Int) (hs : 0 ≤ s) (hp0 : 0 ≤ p) (hp : p < 4294967296) (hY : Y = 4294967296 * v1 + v0) (h1 : 2147483648 ≤ v1) (h2 : v1 < 4294967296) (h3 : 0 ≤ v0) (h4 : v0 < 4294967296) (hu0 : 0 ≤ u) (hu : u < Y) (hu1 : 0 ≤ u1) (hu2 : u1 < 4294967296)
    (hK : (4294967296 * p + (4294967296 * u + u1) / Y, shr .u64 (4294967296 * u + u1 - (4294967296 * u + u1) / Y * Y) s) = r) (d : Nat) :
    ∀ (k : Nat) (q t : Int), 2 * d + 2 ≤ k → q * v1 + t = u → 0 ≤ t → t < 4294967296 → 4294967296 ≤ t + (d + 1) * 2147483648 → (4294967296 * u + u1) / Y ≤ q → q ≤ 4294967297 →
      bits_Div64.l1 k Y s v1 v0 u1 p t u q = some r := by
  have hYp : 0 < Y := by omega
  have hQ0 : 0 ≤ (4294967296 * u + u1) / Y := Int.ediv_nonneg (by omega) (by omega)
  have hQ1 : (4294967296 * u + u1) / Y < 4294967296 := Int.ediv_lt_of_lt_mul hYp (by omega)
  induction d with
  | zero =>
    intro k q t hk hq ht0 ht1 hd hge hle
    exact m_step Y s v1 v0 u u1 p r hs hp0 hp hY h1 h2 h3 h4 hu0 hu hu1 hu2 hK k q t (by omega) hq ht0 ht1 hge hle (fun k' hk' h5 => by omega)
  | succ d ih =>
    intro k q t hk hq ht0 ht1 hd hge hle
    refine m_step Y s v1 v0 u u1 p r hs hp0 hp hY h1 h2 h3 h4 hu0 hu hu1 hu2 hK k q t (by omega) hq ht0 ht1 hge hle (fun k' hk' h5 h6 h7 => ?_)
    exact ih k' (q - 1) (t + v1) (by omega) h6 (by omega) h5 (by omega) h7 (by omega)
/-! the number of leading zeros -/
def len8 : ByteArray := ⟨#[0, 1, 2, 2, 3, 3, 3, 3, 4, 4, 4, 4, 4, 4, 4, 4, 5, 5, 5, 5, 5, 5, 5, 5, 5, 5, 5, 5, 5, 5, 5, 5, 6, 6, 6, 6, 6, 6, 6, 6, 6, 6, 6, 6, 6, 6, 6, 6, 6, 6, 6, 6, 6, 6, 6, 6, 6, 6, 6, 6, 6, 6, 6, 6, 7, 7, 7, 7, 7, 7, 7, 7, 7, 7, 7, 7, 7, 7, 7, 7, 7, 7, 7, 7, 7, 7, 7, 7, 7, 7, 7, 7, 7, 7, 7, 7, 7, 7, 7, 7, 7, 7, 7, 7, 7, 7, 7, 7, 7, 7, 7, 7, 7, 7, 7, 7, 7, 7, 7, 7, 7, 7, 7, 7, 7, 7, 7, 7, 8, 8, 8, 8, 8, 8, 8, 8, 8, 8, 8, 8, 8, 8, 8, 8, 8, 8, 8, 8, 8, 8, 8, 8, 8, 8, 8, 8, 8, 8, 8, 8, 8, 8, 8, 8, 8, 8, 8, 8, 8, 8, 8, 8, 8, 8, 8, 8, 8, 8, 8, 8, 8, 8, 8, 8, 8, 8, 8, 8, 8, 8, 8, 8, 8, 8, 8, 8, 8, 8, 8, 8, 8, 8, 8, 8, 8, 8, 8, 8, 8, 8, 8, 8, 8, 8, 8, 8, 8, 8, 8, 8, 8, 8, 8, 8, 8, 8, 8, 8, 8, 8, 8, 8, 8, 8, 8, 8, 8, 8, 8, 8, 8, 8, 8, 8, 8, 8, 8, 8, 8, 8, 8, 8, 8, 8, 8, 8]⟩
set_option maxRecDepth 100000 in
theorem len8_tells (i : Int) (h0 : 1 ≤ i) (h1 : i < 256) : ∃ t : Nat, 1 ≤ t ∧ t ≤ 8 ∧ bt len8 i = t ∧ 2 ^ (t - 1) ≤ i ∧ i < 2 ^ t := by
  have h : ∀ j : Fin 256, 1 ≤ j.val → 1 ≤ (bt len8 (j.val : Int)).toNat ∧ (bt len8 (j.val : Int)).toNat ≤ 8 ∧ bt len8 (j.val : Int) = ((bt len8 (j.val : Int)).toNat : Int) ∧ ((2 ^ ((bt len8 (j.val : Int)).toNat - 1) : Nat) : Int) ≤ (j.val : Int) ∧ (j.val : Int) < ((2 ^ (bt len8 (j.val : Int)).toNat : Nat) : Int) := by decide +kernel
  obtain ⟨j, rfl⟩ : ∃ j : Nat, i = (j : Int) := ⟨i.toNat, by omega⟩
  obtain ⟨a, b, c, d, e⟩ := h ⟨j, by omega⟩ (by show 1 ≤ j; omega)
  refine ⟨_, a, b, c, ?_, ?_⟩
  · rw [Int.natCast_pow] at d; exact d
  · rw [Int.natCast_pow] at e; exact e
theorem wrap64_in (x : Int) (h0 : -9223372036854775808 ≤ x) (h1 : x < 9223372036854775808) : wrap64 x = x := by unfold wrap64; omega
theorem len_part (x n : Int) (h0 : 1 ≤ x) (h1 : x < 4294967296) (hn0 : 0 ≤ n) (hn : n ≤ 32) (k : Nat) : ∃ l : Nat, 1 ≤ l ∧ l ≤ 32 ∧ bits_Len64.j0 (k + 1) x n = some (n + l) ∧ 2 ^ (l - 1) ≤ x ∧ x < 2 ^ l := by
  have eight : ∀ t : Nat, 1 ≤ t → t ≤ 8 → t = 1 ∨ t = 2 ∨ t = 3 ∨ t = 4 ∨ t = 5 ∨ t = 6 ∨ t = 7 ∨ t = 8 := fun t _ _ => by omega
  rw [show bits_Len64.j0 (k + 1) x n = (if x ≥ 65536 then (if (x / 65536) ≥ 256 then (if 0 ≤ (((x / 65536) / 256) % 256) then (if (((x / 65536) / 256) % 256) < 256 then (some (wrap64 ((wrap64 ((wrap64 (n + 16)) + 8)) + (wrap64 (bt len8 (((x / 65536) / 256) % 256)))))) else (none)) else (none)) else (if 0 ≤ ((x / 65536) % 256) then (if ((x / 65536) % 256) < 256 then (some (wrap64 ((wrap64 (n + 16)) + (wrap64 (bt len8 ((x / 65536) % 256)))))) else (none)) else (none))) else (if x ≥ 256 then (if 0 ≤ ((x / 256) % 256) then (if ((x / 256) % 256) < 256 then (some (wrap64 ((wrap64 (n + 8)) + (wrap64 (bt len8 ((x / 256) % 256)))))) else (none)) else (none)) else (if 0 ≤ ((x) % 256) then (if ((x) % 256) < 256 then (some (wrap64 (n + (wrap64 (bt len8 ((x) % 256)))))) else (none)) else (none)))) from rfl]
  by_cases c1 : x ≥ 65536
  · rw [if_pos c1]
    by_cases c2 : x / 65536 ≥ 256
    · obtain ⟨t, a, b, c, d, e⟩ := len8_tells ((x / 65536) / 256 % 256) (by omega) (by omega)
      rw [if_pos c2, if_pos (by omega), if_pos (by omega), c, wrap64_in (n + 16) (by omega) (by omega), wrap64_in (n + 16 + 8) (by omega) (by omega), wrap64_in (t : Int) (by omega) (by omega), wrap64_in _ (by omega) (by omega)]
      clear c
      refine ⟨t + 24, by omega, by omega, congrArg some (by omega), ?_, ?_⟩
      · rcases eight t a b with rfl | rfl | rfl | rfl | rfl | rfl | rfl | rfl <;> simp at d ⊢ <;> omega
      · rcases eight t a b with rfl | rfl | rfl | rfl | rfl | rfl | rfl | rfl <;> simp at e ⊢ <;> omega
    · obtain ⟨t, a, b, c, d, e⟩ := len8_tells ((x / 65536) % 256) (by omega) (by omega)
      rw [if_neg c2, if_pos (by omega), if_pos (by omega), c, wrap64_in (n + 16) (by omega) (by omega), wrap64_in (t : Int) (by omega) (by omega), wrap64_in _ (by omega) (by omega)]
      clear c
      refine ⟨t + 16, by omega, by omega, congrArg some (by omega), ?_, ?_⟩
      · rcases eight t a b with rfl | rfl | rfl | rfl | rfl | rfl | rfl | rfl <;> simp at d ⊢ <;> omega
      · rcases eight t a b with rfl | rfl | rfl | rfl | rfl | rfl | rfl | rfl <;> simp at e ⊢ <;> omega
  · rw [if_neg c1]
    by_cases c2 : x ≥ 256
    · obtain ⟨t, a, b, c, d, e⟩ := len8_tells ((x / 256) % 256) (by omega) (by omega)
      rw [if_pos c2, if_pos (by omega), if_pos (by omega), c, wrap64_in (n + 8) (by omega) (by omega), wrap64_in (t : Int) (by omega) (by omega), wrap64_in _ (by omega) (by omega)]
      clear c
      refine ⟨t + 8, by omega, by omega, congrArg some (by omega), ?_, ?_⟩
      · rcases eight t a b with rfl | rfl | rfl | rfl | rfl | rfl | rfl | rfl <;> simp at d ⊢ <;> omega
      · rcases eight t a b with rfl | rfl | rfl | rfl | rfl | rfl | rfl | rfl <;> simp at e ⊢ <;> omega
    · obtain ⟨t, a, b, c, d, e⟩ := len8_tells (x % 256) (by omega) (by omega)
      rw [if_neg c2, if_pos (by omega), if_pos (by omega), c, wrap64_in (t : Int) (by omega) (by omega), wrap64_in _ (by omega) (by omega)]
      clear c
      refine ⟨t, by omega, by omega, rfl, ?_, ?_⟩
      · rcases eight t a b with rfl | rfl | rfl | rfl | rfl | rfl | rfl | rfl <;> simp at d ⊢ <;> omega
      · rcases eight t a b with rfl | rfl | rfl | rfl | rfl | rfl | rfl | rfl <;> simp at e ⊢ <;> omega
theorem lz_tells (y : Int) (h0 : 1 ≤ y) (h1 : y < 18446744073709551616) (k : Nat) : ∃ s : Nat, s ≤ 63 ∧ bits_LeadingZeros64.f (k + 1) y = some (s : Int) ∧ 9223372036854775808 ≤ y * 2 ^ s ∧ y * 2 ^ s < 18446744073709551616 := by
  obtain ⟨l, a, b, c, d, e⟩ : ∃ l : Nat, 1 ≤ l ∧ l ≤ 64 ∧ bits_Len64.f (k + 1) y = some (l : Int) ∧ 2 ^ (l - 1) ≤ y ∧ y < 2 ^ l := by
    unfold bits_Len64.f
    by_cases c1 : y ≥ 4294967296
    · obtain ⟨l, a, b, c, d, e⟩ := len_part (y / 4294967296) 32 (by omega) (by omega) (by omega) (by omega) k
      rw [if_pos c1, c]
      refine ⟨l + 32, by omega, by omega, congrArg some (by omega), ?_, ?_⟩
      · rw [show l + 32 - 1 = (l - 1) + 32 by omega, Int.pow_add]
        generalize (2 : Int) ^ (l - 1) = P at *
        omega
      · rw [Int.pow_add]
        generalize (2 : Int) ^ l = P at *
        omega
    · obtain ⟨l, a, b, c, d, e⟩ := len_part y 0 h0 (by omega) (by omega) (by omega) k
      rw [if_neg c1, c]
      exact ⟨l, a, by omega, by congr 1; omega, d, e⟩
  refine ⟨64 - l, by omega, ?_, ?_, ?_⟩
  · unfold bits_LeadingZeros64.f
    rw [c]
    simp only [Option.bind_some]
    rw [wrap64_in _ (by omega) (by omega)]
    congr 1; omega
  · have h2 : (2 : Int) ^ (l - 1) * 2 ^ (64 - l) = 9223372036854775808 := by
      rw [← Int.pow_add, show l - 1 + (64 - l) = 63 by omega]; rfl
    have h3 : (0 : Int) ≤ 2 ^ (64 - l) := Int.pow_nonneg (by omega)
    have := Int.mul_le_mul_of_nonneg_right d h3
    omega
  · have h2 : (2 : Int) ^ l * 2 ^ (64 - l) = 18446744073709551616 := by
      rw [← Int.pow_add, show l + (64 - l) = 64 by omega]; rfl
    have h3 : (0 : Int) < 2 ^ (64 - l) := Int.pow_pos (by omega)
    have := Int.mul_lt_mul_of_pos_right e h3
    omega
theorem guess (u u1 v1 v0 Y : Int) (hY : Y = 4294967296 * v1 + v0) (h1 : 2147483648 ≤ v1) (h3 : 0 ≤ v0) (h4 : v0 < 4294967296) (hu0 : 0 ≤ u) (hu : u < Y) (hu1 : 0 ≤ u1) (hu2 : u1 < 4294967296) :
    (4294967296 * u + u1) / Y ≤ u / v1 ∧ u / v1 ≤ 4294967297 := by
  have hYp : 0 < Y := by omega
  have hQ0 : 0 ≤ (4294967296 * u + u1) / Y := Int.ediv_nonneg (by omega) (by omega)
  constructor
  · have hm := Int.ediv_mul_le (4294967296 * u + u1) (show Y ≠ 0 by omega)
    generalize (4294967296 * u + u1) / Y = Q at *
    refine (Int.le_ediv_iff_mul_le (by omega)).2 ?_
    have h5 : 0 ≤ Q * v0 := Int.mul_nonneg hQ0 h3
    have e : Q * Y = 4294967296 * (Q * v1) + Q * v0 := by rw [hY]; grind
    omega
  · have : u / v1 < 4294967298 := Int.ediv_lt_of_lt_mul (by omega) (by omega)
    omega
theorem u64_tdiv (a b : Int) (h0 : 0 ≤ a) (h1 : a < 18446744073709551616) (hb : 0 < b) : IntKind.u64.wrap (Int.tdiv a b) = a / b := by
  have := Int.ediv_le_self b h0
  have := Int.ediv_nonneg h0 (show 0 ≤ b by omega)
  rw [Int.tdiv_eq_ediv_of_nonneg h0, IntKind.wrap_u64]
  have := Int.ediv_le_self (a := a) b h0
  omega
theorem u64_rest (a b : Int) (h0 : 0 ≤ a) (h1 : a < 18446744073709551616) (hb : 0 < b) : IntKind.u64.wrap (a - IntKind.u64.wrap (a / b * b)) = a % b := by
  have hm := Int.mul_ediv_add_emod a b
  have h2 := Int.emod_nonneg a (show b ≠ 0 by omega)
  rw [Int.mul_comm] at hm
  simp only [IntKind.wrap_u64]
  have h3 : 0 ≤ a / b * b := Int.mul_nonneg (Int.ediv_nonneg h0 (by omega)) (by omega)
  omega
theorem both (Y s v1 v0 u u1 u0 : Int) (hs : 0 ≤ s) (hY : Y = 4294967296 * v1 + v0) (h1 : 2147483648 ≤ v1) (h2 : v1 < 4294967296) (h3 : 0 ≤ v0) (h4 : v0 < 4294967296) (hu0 : 0 ≤ u) (hu : u < Y) (hu1 : 0 ≤ u1) (hu2 : u1 < 4294967296) (h00 : 0 ≤ u0) (h01 : u0 < 4294967296) (k : Nat) (hk : 20 ≤ k) :
    bits_Div64.l0 k Y s v1 v0 u u1 u0 (u / v1) (u % v1) = some ((18446744073709551616 * u + 4294967296 * u1 + u0) / Y, shr .u64 ((18446744073709551616 * u + 4294967296 * u1 + u0) % Y) s) := by
  have hYp : 0 < Y := by omega
  obtain ⟨g1, g2⟩ := guess u u1 v1 v0 Y hY h1 h3 h4 hu0 hu hu1 hu2
  have hm := Int.mul_ediv_add_emod u v1
  have hm0 := Int.emod_nonneg u (show v1 ≠ 0 by omega)
  have hm1 := Int.emod_lt_of_pos u (show 0 < v1 by omega)
  refine l0_tells Y s v1 v0 u u1 u0 _ 8 hY h1 h2 h3 h4 hu0 hu hu1 hu2 (fun k hk => ?_) 1 k _ _ (by omega) (by rw [Int.mul_comm]; exact hm) hm0 (by omega) (by omega) g1 g2
  have hQ0 : 0 ≤ (4294967296 * u + u1) / Y := Int.ediv_nonneg (by omega) (by omega)
  have hQ1 : (4294967296 * u + u1) / Y < 4294967296 := Int.ediv_lt_of_lt_mul hYp (by omega)
  have hq := Int.mul_ediv_add_emod (4294967296 * u + u1) Y
  have hr0 := Int.emod_nonneg (4294967296 * u + u1) (show Y ≠ 0 by omega)
  have hr1 := Int.emod_lt_of_pos (4294967296 * u + u1) hYp
  rw [Int.mul_comm Y] at hq
  obtain ⟨k, rfl⟩ : ∃ m, k = m + 1 := ⟨k - 1, by omega⟩
  simp only [bits_Div64.j2]
  have e2 : (IntKind.u64.wrap ((IntKind.u64.wrap ((IntKind.u64.wrap (u * 4294967296)) + u1)) - (IntKind.u64.wrap ((4294967296 * u + u1) / Y * Y)))) = (4294967296 * u + u1) % Y := by
    generalize (4294967296 * u + u1) / Y * Y = P at *
    simp only [IntKind.wrap_u64]; omega
  rw [if_neg (by omega), e2, u64_tdiv _ _ hr0 (by omega) (by omega), u64_rest _ _ hr0 (by omega) (by omega)]
  have hN : 18446744073709551616 * u + 4294967296 * u1 + u0 = (4294967296 * ((4294967296 * u + u1) % Y) + u0) + Y * (4294967296 * ((4294967296 * u + u1) / Y)) := by
    have : Y * (4294967296 * ((4294967296 * u + u1) / Y)) = 4294967296 * ((4294967296 * u + u1) / Y * Y) := by grind
    omega
  rw [hN, Int.add_mul_ediv_left _ _ (by omega), Int.add_mul_emod_self_left]
  generalize (4294967296 * u + u1) % Y = w at *
  generalize (4294967296 * u + u1) / Y = p at *
  obtain ⟨g1, g2⟩ := guess w u0 v1 v0 Y hY h1 h3 h4 hr0 hr1 h00 h01
  have hm := Int.mul_ediv_add_emod w v1
  have hm0 := Int.emod_nonneg w (show v1 ≠ 0 by omega)
  have hm1 := Int.emod_lt_of_pos w (show 0 < v1 by omega)
  refine l1_tells Y s v1 v0 w u0 p _ hs hQ0 hQ1 hY h1 h2 h3 h4 hr0 hr1 h00 h01 ?_ 1 k _ _ (by omega) (by rw [Int.mul_comm]; exact hm) hm0 (by omega) (by omega) g1 g2
  have hz := Int.mul_ediv_add_emod (4294967296 * w + u0) Y
  rw [Int.mul_comm Y] at hz
  congr 1
  · omega
  · congr 1; omega
theorem shl_u64 (a : Int) (s : Nat) (hs : s ≤ 63) : shl .u64 a (s : Int) = a * 2 ^ s % 18446744073709551616 := by
  unfold shl
  have : min (s : Int).toNat IntKind.u64.bits = s := by
    have : IntKind.u64.bits = 64 := rfl
    omega
  rw [this, IntKind.wrap_u64]
theorem shr_u64 (a : Int) (s : Nat) (hs : s ≤ 64) : shr .u64 a (s : Int) = a / 2 ^ s := by
  unfold shr
  have : min (s : Int).toNat IntKind.u64.bits = s := by
    have : IntKind.u64.bits = 64 := rfl
    omega
  rw [this]
theorem div64_f (hi lo y : Int) (h0 : 0 ≤ hi) (hlt : hi < y) (hl0 : 0 ≤ lo) (hl : lo < 18446744073709551616) (hy : y < 18446744073709551616) (k : Nat) (hk : 20 ≤ k) :
    bits_Div64.f k hi lo y = some ((18446744073709551616 * hi + lo) / y, (18446744073709551616 * hi + lo) % y) := by
  unfold bits_Div64.f
  rw [if_neg (by omega), if_neg (by omega)]
  by_cases hz : hi = 0
  · subst hz
    rw [if_pos rfl, u64_tdiv _ _ hl0 hl (by omega), Int.tmod_eq_emod_of_nonneg hl0]
    simp
  rw [if_neg hz]
  obtain ⟨k', rfl⟩ : ∃ m, k = m + 1 := ⟨k - 1, by omega⟩
  obtain ⟨s, hs, hlz, hy1, hy2⟩ := lz_tells y (by omega) hy k'
  rw [hlz]
  simp only [Option.bind_some]
  have w1 : IntKind.u64.wrap (s : Int) = (s : Int) := by rw [IntKind.wrap_u64]; omega
  have w2 : IntKind.u64.wrap (64 - (s : Int)) = ((64 - s : Nat) : Int) := by rw [IntKind.wrap_u64]; omega
  rw [w1, w2, if_pos (by omega), if_pos (by omega), shl_u64 y s hs, shl_u64 hi s hs, shl_u64 lo s hs, shr_u64 lo (64 - s) (by omega)]
  have hPR : (2 : Int) ^ s * 2 ^ (64 - s) = 18446744073709551616 := by
    rw [← Int.pow_add, show s + (64 - s) = 64 by omega]; rfl
  have hP : (0 : Int) < 2 ^ s := Int.pow_pos (by omega)
  have hR : (0 : Int) < 2 ^ (64 - s) := Int.pow_pos (by omega)
  have hnat : (((2 ^ s : Nat)) : Int) = 2 ^ s := by rw [Int.natCast_pow]; rfl
  have hor : ∀ x z : Int, 0 ≤ x → x < 18446744073709551616 → 0 ≤ z → z < 18446744073709551616 → z < 2 ^ s → x % 2 ^ s = 0 → Go.bits .or .u64 x z = x + z := by
    intro x z a b c d e f
    obtain ⟨x, rfl⟩ := Int.eq_ofNat_of_zero_le a
    obtain ⟨z, rfl⟩ := Int.eq_ofNat_of_zero_le c
    rw [u64_or_nat x z (by omega) (by omega), nat_join s x z (by rw [← hnat] at f; exact_mod_cast f) (by rw [← hnat] at e; exact_mod_cast e)]
    rfl
  generalize hPd : (2 : Int) ^ s = P at *
  generalize hRd : (2 : Int) ^ (64 - s) = R at *
  -- the shifted numbers
  have hlR := Int.mul_ediv_add_emod lo R
  have hl2 := Int.emod_nonneg lo (show R ≠ 0 by omega)
  have hl3 := Int.emod_lt_of_pos lo hR
  have hl4 : 0 ≤ lo / R := Int.ediv_nonneg hl0 (by omega)
  have hl5 : lo / R < P := Int.ediv_lt_of_lt_mul hR (by omega)
  have hP1 : (lo % R) * P < 18446744073709551616 := by
    have : (lo % R) * P < R * P := Int.mul_lt_mul_of_pos_right hl3 hP
    have e : R * P = P * R := Int.mul_comm _ _
    omega
  have hP2 : 0 ≤ (lo % R) * P := Int.mul_nonneg hl2 (by omega)
  have hlo : lo * P = 18446744073709551616 * (lo / R) + (lo % R) * P := by
    have : lo * P = (R * (lo / R) + lo % R) * P := by rw [hlR]
    rw [this, ← hPR]; grind
  have hhi : hi * P < y * P := Int.mul_lt_mul_of_pos_right hlt hP
  have hhi0 : 0 ≤ hi * P := Int.mul_nonneg h0 (by omega)
  have hPle : P ≤ 18446744073709551616 := by
    have : P * 1 ≤ P * R := Int.mul_le_mul_of_nonneg_left (by omega) (by omega)
    omega
  have e1 : y * P % 18446744073709551616 = y * P := by omega
  have e2 : hi * P % 18446744073709551616 = hi * P := by omega
  have e3 : lo * P % 18446744073709551616 = (lo % R) * P := by omega
  rw [e1, e2, e3, hor (hi * P) (lo / R) hhi0 (by omega) hl4 (by omega) hl5 (Int.mul_emod_left _ _), low32 (y * P) (by omega) hy2, low32 (lo % R * P) hP2 hP1]
  -- the high part is below the divisor
  have hN : (18446744073709551616 * hi + lo) * P = 18446744073709551616 * (hi * P + lo / R) + (lo % R) * P := by
    have : (18446744073709551616 * hi + lo) * P = 18446744073709551616 * (hi * P) + lo * P := by grind
    omega
  have hu : hi * P + lo / R < y * P := by
    have : (hi + 1) * P ≤ y * P := Int.mul_le_mul_of_nonneg_right (by omega) (by omega)
    have e : (hi + 1) * P = hi * P + P := by grind
    omega
  generalize hY : y * P = Y at *
  generalize hU : hi * P + lo / R = U at *
  generalize hW : lo % R * P = W at *
  rw [if_neg (by omega), u64_tdiv U (Y / 4294967296) (by omega) (by omega) (by omega), u64_rest U (Y / 4294967296) (by omega) (by omega) (by omega)]
  rw [both Y s (Y / 4294967296) (Y % 4294967296) U (W / 4294967296) (W % 4294967296) (by omega) (by omega) (by omega) (by omega) (by omega) (by omega) (by omega) hu (by omega) (by omega) (by omega) (by omega) _ (by omega)]
  have e4 : 18446744073709551616 * U + 4294967296 * (W / 4294967296) + W % 4294967296 = (18446744073709551616 * hi + lo) * P := by omega
  rw [e4, shr_u64 _ s (by omega), hPd, ← hY, Int.mul_ediv_mul_of_pos_left _ _ hP, Int.mul_comm _ P, Int.mul_comm _ P, Int.mul_emod_mul_of_pos _ _ hP, Int.mul_ediv_cancel_left _ (by omega)]
end Go.Proofs.Ytffbonfgbmohdaa.QDiv
namespace Go.Proofs.Ytffbonfgbmohdaa.QFix
open Go Go.RowKit Go.Proofs.Ytffbonfgbmohdaa.P Go.Proofs.Ytffbonfgbmohdaa.QDiv Go.Proofs.YtffbonfgbmohdaaW.PrintWords Go.Proofs.YtffbonfgbmohdaaW.PrintLast Go.Proofs.YtffbonfgbmohdaaW.PrintMore

theorem mx_eq (a b : Int) : mx a b = max a b := by unfold mx; split <;> omega
theorem mn_eq (a b : Int) : mn a b = min a b := by unfold mn; split <;> omega
def clampI (a : Int) : Int := min (max a (-1099511627776)) 1099511627776
theorem clamp_f (a : Int) : fix_Clamp.f a = some (clampI a) := by
  unfold fix_Clamp.f clampI; rw [mx_eq, mn_eq]
theorem clamp_range (a : Int) : -1099511627776 ≤ clampI a ∧ clampI a ≤ 1099511627776 := by unfold clampI; omega
theorem clamp_in (a : Int) (h0 : -1099511627776 ≤ a) (h1 : a ≤ 1099511627776) : clampI a = a := by unfold clampI; omega
theorem add_f (a b : Int) : fix_Add.f a b = some (clampI (clampI a + clampI b)) := by
  unfold fix_Add.f
  have ha := clamp_range a
  have hb := clamp_range b
  rw [clamp_f, clamp_f]; simp only [Option.bind_some]
  rw [wrap64_in _ (by omega) (by omega), clamp_f]
  rfl
theorem mag_f (a : Int) (h0 : -1099511627776 ≤ a) (h1 : a ≤ 1099511627776) : fix_mag.f a = some (max a (-a)) := by
  unfold fix_mag.f
  split
  · rw [wrap64_in _ (by omega) (by omega), IntKind.wrap_u64]; congr 1; omega
  · rw [IntKind.wrap_u64]; congr 1; omega
/-- a number through a positive number, rounded half up -/
def rnd (p d : Int) : Int := (2 * p + d) / (2 * d)
theorem rnd_pos (q r d : Int) (hd : 0 < d) (h0 : 0 ≤ r) (h1 : r < d) : rnd (d * q + r) d = if r ≥ d - r then q + 1 else q := by
  unfold rnd
  have e : 2 * (d * q + r) + d = (2 * r + d) + (2 * d) * q := by grind
  rw [e, Int.add_mul_ediv_left _ _ (by omega)]
  split
  · have : (2 * r + d) / (2 * d) = 1 := by
      apply Int.le_antisymm
      · have := Int.ediv_lt_of_lt_mul (a := 2 * r + d) (b := 2) (c := 2 * d) (by omega) (by omega); omega
      · exact (Int.le_ediv_iff_mul_le (by omega)).2 (by omega)
    omega
  · rw [Int.ediv_eq_zero_of_lt (by omega) (by omega)]; omega
theorem rnd_neg (q r d : Int) (hd : 0 < d) (h0 : 0 ≤ r) (h1 : r < d) : rnd (-(d * q + r)) d = if r > d - r then -(q + 1) else -q := by
  unfold rnd
  have e : 2 * (-(d * q + r)) + d = (d - 2 * r) + (2 * d) * (-q) := by grind
  rw [e, Int.add_mul_ediv_left _ _ (by omega)]
  split
  · have : (d - 2 * r) / (2 * d) = -1 := by
      apply Int.le_antisymm
      · have := Int.ediv_lt_of_lt_mul (a := d - 2 * r) (b := 0) (c := 2 * d) (by omega) (by omega); omega
      · exact (Int.le_ediv_iff_mul_le (by omega)).2 (by omega)
    omega
  · rw [Int.ediv_eq_zero_of_lt (by omega) (by omega)]; omega
theorem rnd_le {p p' d : Int} (h : p ≤ p') (hd : 0 < d) : rnd p d ≤ rnd p' d := by
  unfold rnd; exact Int.ediv_le_ediv (by omega) (by omega)
theorem rnd_mul (x d : Int) (hd : 0 < d) : rnd (x * d) d = x := by
  unfold rnd
  rw [show 2 * (x * d) + d = d + (2 * d) * x by grind, Int.add_mul_ediv_left _ _ (by omega), Int.ediv_eq_zero_of_lt (by omega) (by omega)]; omega

/-- the sign that the function has counted -/
def sg (neg : Bool) (m : Int) : Int := if neg then -m else m
theorem j2_tells (neg : Bool) (d q r : Int) (hd : 0 < d) (hd2 : d ≤ 1099511627776) (h0 : 0 ≤ r) (h1 : r < d) (hq0 : 0 ≤ q) (hq : q ≤ 1099511627777) (k : Nat) : fix_MulDiv.j2 (k + 2) neg d q r = some (clampI (rnd (sg neg (d * q + r)) d)) := by
  simp only [fix_MulDiv.j2]
  have w1 : IntKind.u64.wrap (d - r) = d - r := by rw [IntKind.wrap_u64]; omega
  rw [w1, wrap64_in q (by omega) (by omega), wrap64_in (q + 1) (by omega) (by omega)]
  cases neg with
  | true =>
    rw [if_pos rfl, show sg true (d * q + r) = -(d * q + r) from rfl, rnd_neg q r d hd h0 h1, wrap64_in (-(q + 1)) (by omega) (by omega), wrap64_in (-q) (by omega) (by omega), clamp_f, clamp_f]
    split <;> rfl
  | false =>
    rw [if_neg (by decide), show sg false (d * q + r) = d * q + r from rfl, rnd_pos q r d hd h0 h1]
    simp only [fix_MulDiv.j3, clamp_f]
    split <;> rfl
theorem j1_tells (A B C : Int) (neg : Bool) (hA0 : -1099511627776 ≤ A) (hA1 : A ≤ 1099511627776) (hB0 : -1099511627776 ≤ B) (hB1 : B ≤ 1099511627776) (hC0 : -1099511627776 ≤ C) (hC1 : C ≤ 1099511627776) (hC : C ≠ 0) (k : Nat) (hk : 30 ≤ k) :
    fix_MulDiv.j1 k A B C neg = some (clampI (rnd (sg neg (max A (-A) * max B (-B))) (max C (-C)))) := by
  obtain ⟨k, rfl⟩ : ∃ m, k = m + 1 := ⟨k - 1, by omega⟩
  simp only [fix_MulDiv.j1]
  rw [mag_f C hC0 hC1]; simp only [Option.bind_some]
  rw [mag_f A hA0 hA1]; simp only [Option.bind_some]
  rw [mag_f B hB0 hB1]; simp only [Option.bind_some]
  have a0 : 0 ≤ max A (-A) := by omega
  have a1 : max A (-A) ≤ 1099511627776 := by omega
  have b0 : 0 ≤ max B (-B) := by omega
  have b1 : max B (-B) ≤ 1099511627776 := by omega
  have c0 : 0 < max C (-C) := by omega
  have c1 : max C (-C) ≤ 1099511627776 := by omega
  generalize max A (-A) = a at *
  generalize max B (-B) = b at *
  generalize max C (-C) = d at *
  rw [mul64_f a b a0 (by omega) b0 (by omega)]; simp only [Option.bind_some]
  have m0 : 0 ≤ a * b := Int.mul_nonneg a0 b0
  have m1 : a * b ≤ 1099511627776 * 1099511627776 := Int.mul_le_mul a1 b1 b0 (by omega)
  generalize a * b = M at *
  by_cases hh : M / 18446744073709551616 ≥ d
  · rw [if_pos hh]
    have big : 18446744073709551616 * d ≤ M := by omega
    cases neg with
    | true =>
      rw [if_pos rfl, show sg true M = -M from rfl]
      have : rnd (-M) d ≤ -1099511627776 := by
        have h := rnd_le (p := -M) (p' := (-18446744073709551616) * d) (d := d) (by omega) c0
        rw [rnd_mul _ _ c0] at h; omega
      unfold clampI; congr 1; omega
    | false =>
      rw [if_neg (by decide), show sg false M = M from rfl]
      have : 1099511627776 ≤ rnd M d := by
        have h := rnd_le (p := 18446744073709551616 * d) (p' := M) (d := d) (by omega) c0
        rw [rnd_mul _ _ c0] at h; omega
      unfold clampI; congr 1; omega
  · rw [if_neg hh, div64_f _ _ _ (by omega) (by omega) (by omega) (by omega) (by omega) _ (by omega)]
    have e : 18446744073709551616 * (M / 18446744073709551616) + M % 18446744073709551616 = M := by omega
    rw [e]
    simp only [Option.bind_some]
    have q0 : 0 ≤ M / d := Int.ediv_nonneg m0 (by omega)
    have r0 := Int.emod_nonneg M (show d ≠ 0 by omega)
    have r1 := Int.emod_lt_of_pos M c0
    have hM := Int.mul_ediv_add_emod M d
    obtain ⟨k, rfl⟩ : ∃ m, k = m + 2 := ⟨k - 2, by omega⟩
    by_cases hq : M / d > 1099511627776
    · rw [if_pos hq, j2_tells neg d 1099511627777 0 c0 c1 (by omega) (by omega) (by omega) (by omega)]
      congr 1
      have hle : d * 1099511627777 ≤ M := by
        have := Int.mul_le_mul_of_nonneg_left (show 1099511627777 ≤ M / d by omega) (show 0 ≤ d by omega)
        omega
      have eq1 : d * 1099511627777 + 0 = 1099511627777 * d := by omega
      rw [eq1]
      cases neg with
      | true =>
        show clampI (rnd (-(1099511627777 * d)) d) = clampI (rnd (-M) d)
        have h1 := rnd_le (p := -M) (p' := -(1099511627777 * d)) (d := d) (by omega) c0
        rw [show -(1099511627777 * d) = (-1099511627777) * d by omega, rnd_mul _ _ c0] at h1 ⊢
        unfold clampI; omega
      | false =>
        show clampI (rnd (1099511627777 * d) d) = clampI (rnd M d)
        have h1 := rnd_le (p := 1099511627777 * d) (p' := M) (d := d) (by omega) c0
        rw [rnd_mul _ _ c0] at h1 ⊢
        unfold clampI; omega
    · rw [if_neg hq, j2_tells neg d (M / d) (M % d) c0 c1 r0 r1 q0 (by omega), hM]
/-- what MulDiv answers -/
def mdI (a b c : Int) : Int := if clampI c = 0 then 0 else if 0 < clampI c then clampI (rnd (clampI a * clampI b) (clampI c)) else clampI (rnd (-(clampI a * clampI b)) (-clampI c))
theorem muldiv_f (a b c : Int) (k : Nat) (hk : 40 ≤ k) : fix_MulDiv.f k a b c = some (mdI a b c) := by
  unfold fix_MulDiv.f mdI
  rw [clamp_f, clamp_f, clamp_f]; simp only [Option.bind_some]
  have hA := clamp_range a
  have hB := clamp_range b
  have hC := clamp_range c
  generalize clampI a = A at *
  generalize clampI b = B at *
  generalize clampI c = C at *
  by_cases h : C = 0
  · rw [if_pos h, if_pos h]
  rw [if_neg h, if_neg h]
  obtain ⟨k, rfl⟩ : ∃ m, k = m + 1 := ⟨k - 1, by omega⟩
  simp only [fix_MulDiv.j0, j1_tells A B C _ hA.1 hA.2 hB.1 hB.2 hC.1 hC.2 h k (by omega)]
  have key : ∀ A B : Int, (if B < 0 then sg (!decide (A < 0)) (max A (-A) * max B (-B)) else sg (decide (A < 0)) (max A (-A) * max B (-B))) = A * B := by
    intro A B
    by_cases h1 : A < 0 <;> by_cases h2 : B < 0
    · rw [if_pos h2, decide_eq_true h1, show max A (-A) = -A by omega, show max B (-B) = -B by omega]; show -A * -B = A * B; grind
    · rw [if_neg h2, decide_eq_true h1, show max A (-A) = -A by omega, show max B (-B) = B by omega]; show -(-A * B) = A * B; grind
    · rw [if_pos h2, decide_eq_false h1, show max A (-A) = A by omega, show max B (-B) = -B by omega]; show -(A * -B) = A * B; grind
    · rw [if_neg h2, decide_eq_false h1, show max A (-A) = A by omega, show max B (-B) = B by omega]; rfl
  have flip : ∀ (n : Bool) (m : Int), sg (!n) m = -sg n m := by intro n m; cases n <;> simp [sg]
  have hk := key A B
  by_cases hc : C < 0
  · rw [if_neg (show ¬ 0 < C by omega), show max C (-C) = -C by omega]
    by_cases h2 : B < 0
    · rw [if_pos h2] at hk
      rw [if_pos h2, if_pos hc, flip, hk]
    · rw [if_neg h2] at hk
      rw [if_neg h2, if_pos hc, flip, hk]
  · rw [if_pos (show 0 < C by omega), show max C (-C) = C by omega]
    by_cases h2 : B < 0
    · rw [if_pos h2] at hk
      rw [if_pos h2, if_neg hc, hk]
    · rw [if_neg h2] at hk
      rw [if_neg h2, if_neg hc, hk]
def mulI (a b : Int) : Int := clampI (rnd (clampI a * clampI b) 65536)
theorem mul_f (a b : Int) (k : Nat) (hk : 40 ≤ k) : fix_Mul.f k a b = some (mulI a b) := by
  unfold fix_Mul.f mulI
  rw [muldiv_f _ _ _ _ hk]
  simp only [Option.bind_some]
  unfold mdI
  rw [show clampI 65536 = 65536 from clamp_in _ (by omega) (by omega), if_neg (by omega), if_pos (by omega)]
theorem sub_f (a b : Int) : fix_Sub.f a b = some (clampI (clampI a - clampI b)) := by
  unfold fix_Sub.f
  have ha := clamp_range a
  have hb := clamp_range b
  rw [clamp_f, clamp_f]; simp only [Option.bind_some]
  rw [wrap64_in _ (by omega) (by omega), clamp_f]
  rfl
end Go.Proofs.Ytffbonfgbmohdaa.QFix
namespace Go.Proofs.Ytffbonfgbmohdaa.QTrig
open Go Go.RowKit Go.Proofs.Ytffbonfgbmohdaa.P Go.Proofs.Ytffbonfgbmohdaa.QDiv Go.Proofs.Ytffbonfgbmohdaa.QFix Go.Proofs.YtffbonfgbmohdaaW.PrintWords Go.Proofs.YtffbonfgbmohdaaW.PrintLast Go.Proofs.YtffbonfgbmohdaaW.PrintMore

theorem i64_low16 (n : Int) : Go.bits .and .i64 n 65535 = n % 65536 := by
  have h1 : (BitVec.ofInt 64 65535).toNat = 2 ^ 16 - 1 := by decide
  have key : (BitVec.ofInt 64 n &&& BitVec.ofInt 64 65535).toNat = (n % ((2 ^ 64 : Nat) : Int)).toNat % 2 ^ 16 := by
    rw [BitVec.toNat_and, BitVec.toNat_ofInt, h1, Nat.and_two_pow_sub_one_eq_mod]
  show IntKind.i64.wrap ((BitVec.ofInt 64 n &&& BitVec.ofInt 64 65535).toNat : Nat) = n % 65536
  rw [key, IntKind.wrap_i64]
  omega
/-- the sine on the four quarters -/
def sinI (a : Int) : Int :=
  if a % 65536 < 16384 then sinFirst (a % 65536) else if a % 65536 < 32768 then sinFirst (32768 - a % 65536)
  else if a % 65536 < 49152 then -sinFirst (a % 65536 - 32768) else -sinFirst (65536 - a % 65536)
def cosI (a : Int) : Int := sinI (a + 16384)

/-! the first quarter -/
def tstep (i : Int) : Int := tabAt (i + 1) - tabAt i
theorem sinFirst_cell (i g : Int) (hg0 : 0 ≤ g) (hg : g < 256) : sinFirst (256 * i + g) = tabAt i + (tstep i * g + 128) / 256 := by
  unfold sinFirst tstep
  have e1 : (256 * i + g) / 256 = i := by omega
  have e2 : (256 * i + g) % 256 = g := by omega
  rw [e1, e2]
  split
  · rename_i h; rw [h, Int.mul_zero]; omega
  · rfl
theorem tstep_range (i : Int) (h0 : 0 ≤ i) (h1 : i < 64) : 20 ≤ tstep i ∧ tstep i ≤ 1608 ∧ (i < 33 → 1000 ≤ tstep i) := by
  have h : ∀ j : Fin 64, 20 ≤ tstep (j.val : Int) ∧ tstep (j.val : Int) ≤ 1608 ∧ ((j.val : Int) < 33 → 1000 ≤ tstep (j.val : Int)) := by decide +kernel
  obtain ⟨j, rfl⟩ : ∃ j : Nat, i = (j : Int) := ⟨i.toNat, by omega⟩
  exact h ⟨j, by omega⟩
theorem sinFirst_zero : sinFirst 0 = 0 := by decide +kernel
theorem sinFirst_top : sinFirst 16384 = 65536 := by decide +kernel
theorem sinFirst_next (a : Int) (h0 : 0 ≤ a) (h1 : a < 16384) : sinFirst a ≤ sinFirst (a + 1) ∧ (a < 8448 → sinFirst a < sinFirst (a + 1)) := by
  obtain ⟨i, g, rfl, hg0, hg1⟩ : ∃ i g : Int, a = 256 * i + g ∧ 0 ≤ g ∧ g < 256 := ⟨a / 256, a % 256, by omega, by omega, by omega⟩
  obtain ⟨s1, s2, s3⟩ := tstep_range i (by omega) (by omega)
  rw [sinFirst_cell i g hg0 hg1]
  by_cases hg : g = 255
  · have e : 256 * i + g + 1 = 256 * (i + 1) + 0 := by omega
    rw [e, sinFirst_cell (i + 1) 0 (by omega) (by omega), Int.mul_zero]
    have : tabAt (i + 1) = tabAt i + tstep i := by unfold tstep; omega
    subst hg
    omega
  · have e : 256 * i + g + 1 = 256 * i + (g + 1) := by omega
    rw [e, sinFirst_cell i (g + 1) (by omega) (by omega)]
    have : tstep i * (g + 1) = tstep i * g + tstep i := by grind
    rw [this]
    omega
theorem sinFirst_mono (n : Nat) : ∀ a : Int, 0 ≤ a → a + n ≤ 16384 → sinFirst a ≤ sinFirst (a + n) := by
  induction n with
  | zero => intro a _ _; simp
  | succ n ih =>
    intro a h0 h1
    have h2 := ih a h0 (by omega)
    have h3 := (sinFirst_next (a + n) (by omega) (by omega)).1
    have e : a + ((n + 1 : Nat) : Int) = a + n + 1 := by omega
    rw [e]; omega
theorem sinFirst_le {a b : Int} (h0 : 0 ≤ a) (h : a ≤ b) (h1 : b ≤ 16384) : sinFirst a ≤ sinFirst b := by
  have := sinFirst_mono (b - a).toNat a h0 (by omega)
  have e : a + ((b - a).toNat : Int) = b := by omega
  rw [e] at this; exact this
theorem sinFirst_range (a : Int) (h0 : 0 ≤ a) (h1 : a ≤ 16384) : 0 ≤ sinFirst a ∧ sinFirst a ≤ 65536 := by
  have h2 := sinFirst_le (Int.le_refl 0) h0 h1
  have h3 := sinFirst_le h0 h1 (Int.le_refl _)
  rw [sinFirst_zero] at h2; rw [sinFirst_top] at h3
  exact ⟨h2, h3⟩
theorem sin_f (a : Int) : trig_Sin.f a = some (sinI a) := by
  unfold trig_Sin.f sinI
  rw [i64_low16]
  have h0 : 0 ≤ a % 65536 := by omega
  have h1 : a % 65536 < 65536 := by omega
  generalize a % 65536 = r at *
  rw [Int.tdiv_eq_ediv_of_nonneg h0, Int.tmod_eq_emod_of_nonneg h0, wrap64_in (r / 16384) (by omega) (by omega), wrap64_in (16384 - r % 16384) (by omega) (by omega)]
  have ff : ∀ x : Int, 0 ≤ x → x ≤ 16384 → trig_first.f x = some (sinFirst x) := fun x a b => by unfold trig_first.f; rw [if_pos ⟨a, b⟩]
  rw [ff (r % 16384) (by omega) (by omega), ff (16384 - r % 16384) (by omega) (by omega)]
  simp only [Option.bind_some]
  have b1 := sinFirst_range (r % 16384) (by omega) (by omega)
  have b2 := sinFirst_range (16384 - r % 16384) (by omega) (by omega)
  rw [wrap64_in (-sinFirst (r % 16384)) (by omega) (by omega), wrap64_in (-sinFirst (16384 - r % 16384)) (by omega) (by omega)]
  by_cases c0 : r < 16384
  · rw [if_pos (by omega), if_pos c0, show r % 16384 = r by omega]
  · rw [if_neg (by omega), if_neg c0]
    by_cases c1 : r < 32768
    · rw [if_pos (by omega), if_pos c1, show 16384 - r % 16384 = 32768 - r by omega]
    · rw [if_neg (by omega), if_neg c1]
      by_cases c2 : r < 49152
      · rw [if_pos (by omega), if_pos c2, show r % 16384 = r - 32768 by omega]
      · rw [if_neg (by omega), if_neg c2, show 16384 - r % 16384 = 65536 - r by omega]
theorem sinI_mod (a : Int) : sinI (a % 65536) = sinI a := by unfold sinI; rw [Int.emod_emod]
theorem sinI_period (a b : Int) (h : a % 65536 = b % 65536) : sinI a = sinI b := by rw [← sinI_mod a, h, sinI_mod]
theorem cos_f (a : Int) : trig_Cos.f a = some (cosI a) := by
  unfold trig_Cos.f cosI
  rw [i64_low16, wrap64_in _ (by omega) (by omega), sin_f]
  simp only [Option.bind_some]
  rw [sinI_period (a % 65536 + 16384) (a + 16384) (by omega)]
end Go.Proofs.Ytffbonfgbmohdaa.QTrig
namespace Go.Proofs.Ytffbonfgbmohdaa.P
open Go Go.RowKit Go.Proofs.Ytffbonfgbmohdaa.QFix Go.Proofs.Ytffbonfgbmohdaa.QTrig Go.Proofs.YtffbonfgbmohdaaW.PrintWords Go.Proofs.YtffbonfgbmohdaaW.PrintLast Go.Proofs.YtffbonfgbmohdaaW.PrintMore
set_option linter.unusedVariables false
set_option linter.unusedSimpArgs false

theorem vadd_some (a b c d : Int) : ∃ r, vec_Add.f a b c d = some r := by
  unfold vec_Add.f
  rw [add_f, add_f]
  exact ⟨_, rfl⟩
theorem scale_some (k : Nat) (hk : 40 ≤ k) (a b c : Int) : ∃ r, vec_Scale.f k a b c = some r := by
  unfold vec_Scale.f
  rw [mul_f _ _ k hk, mul_f _ _ k hk]
  exact ⟨_, rfl⟩
theorem turn_some (k : Nat) (hk : 40 ≤ k) (a b c : Int) : ∃ r, vec_Turn.f k a b c = some r := by
  unfold vec_Turn.f
  rw [cos_f, sin_f, Option.bind_some, Option.bind_some, mul_f _ _ k hk, Option.bind_some, mul_f _ _ k hk, Option.bind_some, sub_f, Option.bind_some, mul_f _ _ k hk, Option.bind_some, mul_f _ _ k hk, Option.bind_some, add_f]
  exact ⟨_, rfl⟩
theorem point_some (p : S45) (x y : Int) : ∃ r1 r2, graph_Point.f 50 p.f0.f0 p.f0.f1 p.f1 p.f2 x y = some (r1, r2) := by
  unfold graph_Point.f
  obtain ⟨r, e⟩ := scale_some 50 (by omega) x y p.f2
  rw [e, Option.bind_some]
  obtain ⟨r, e⟩ := turn_some 50 (by omega) r.1 r.2 p.f1
  rw [e, Option.bind_some]
  obtain ⟨r, e⟩ := vadd_some p.f0.f0 p.f0.f1 r.1 r.2
  rw [e]
  exact ⟨_, _, rfl⟩
theorem within_some (p q : S45) : ∃ r1 r2 r3 r4, graph_Within.f 50 p.f0.f0 p.f0.f1 p.f1 p.f2 q.f0.f0 q.f0.f1 q.f1 q.f2 = some (r1, r2, r3, r4) := by
  unfold graph_Within.f
  obtain ⟨r, e⟩ := scale_some 50 (by omega) q.f0.f0 q.f0.f1 p.f2
  rw [e, Option.bind_some]
  obtain ⟨r, e⟩ := turn_some 50 (by omega) r.1 r.2 p.f1
  rw [e, Option.bind_some]
  obtain ⟨r, e⟩ := vadd_some p.f0.f0 p.f0.f1 r.1 r.2
  rw [e, Option.bind_some, mul_f _ _ 50 (by omega)]
  exact ⟨_, _, _, _, rfl⟩
end Go.Proofs.Ytffbonfgbmohdaa.P
