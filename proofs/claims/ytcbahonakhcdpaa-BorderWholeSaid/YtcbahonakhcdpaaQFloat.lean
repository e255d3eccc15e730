/- Numbers of 53 binary digits in 64-bit floating point: what is written is read back, and which bits are a whole number over 65536. No condition. -/
import Derived.Laws.FloatArith
namespace Go.Proofs.Ytcbahonakhcdpaa.Fl
open Ieee
set_option linter.unusedVariables false

theorem log2_shift (m k : Nat) (h : 0 < m) : (m * 2 ^ k).log2 = m.log2 + k := by
  have h1 : m ≠ 0 := by omega
  refine (Nat.log2_eq_iff (by have := Nat.mul_pos h (Nat.two_pow_pos k); omega)).2 ⟨?_, ?_⟩
  · rw [Nat.pow_add]; exact Nat.mul_le_mul_right _ (Nat.log2_self_le h1)
  · rw [Nat.add_right_comm, Nat.pow_add]; exact Nat.mul_lt_mul_of_pos_right Nat.lt_log2_self (Nat.two_pow_pos k)

/-- nothing is dropped but zeros -/
theorem cut_exact (way : Toward) (s : Bool) (m d : Nat) : way.cut s (m * 2 ^ d) d = m := by
  unfold Toward.cut
  by_cases h0 : m = 0
  · subst h0
    cases way <;> simp
  have hm : 0 < m := by omega
  have h : d ≤ (m * 2 ^ d).log2 + 2 := by rw [log2_shift m d hm]; omega
  rw [Nat.min_eq_left h, Nat.one_shiftLeft]
  have e1 : m * 2 ^ d / 2 ^ d = m := Nat.mul_div_cancel _ (Nat.two_pow_pos d)
  have e2 : m * 2 ^ d % 2 ^ d = 0 := Nat.mul_mod_left _ _
  have hp := Nat.two_pow_pos d
  have h3 : ¬ (2 ^ d = 0) := by omega
  simp only [e1, e2]
  cases way <;> simp

/-- the rung of the number m * 2 ^ place, if it is normal -/
def rung (m : Nat) (place : Int) : Nat := (place + m.log2 - 52 + 1074).toNat * 4503599627370496 + m * 2 ^ (52 - m.log2)

theorem leastPlace_d : double.leastPlace = -1074 := by decide
theorem binade_d : double.binade = 4503599627370496 := by decide
theorem infRung_d : double.infRung = 9218868437227405312 := by decide
theorem signWeight_d : double.signWeight = 9223372036854775808 := by decide
theorem fraction_d : double.fractionBits = 52 := rfl

theorem rung_lt (m : Nat) (hm : 0 < m) (hl : m.log2 ≤ 52) : 4503599627370496 ≤ m * 2 ^ (52 - m.log2) ∧ m * 2 ^ (52 - m.log2) < 9007199254740992 := by
  have e : (m * 2 ^ (52 - m.log2)).log2 = 52 := by rw [log2_shift _ _ hm]; omega
  have hne : m * 2 ^ (52 - m.log2) ≠ 0 := by have := Nat.mul_pos hm (Nat.two_pow_pos (52 - m.log2)); omega
  have := (Nat.log2_eq_iff hne).1 e
  omega

/-- write of a number that fits: m up to 53 digits, possibly with k digits 0 behind -/
theorem nearest_fits (s : Bool) (m k : Nat) (p : Int) (hm : 0 < m) (hl : m.log2 ≤ 52) (h0 : -1074 ≤ p + k + m.log2 - 52) (h1 : p + k + m.log2 ≤ 1000) :
    double.nearest s (m * 2 ^ k) p = double.word s (rung m (p + k)) := by
  have hne : m * 2 ^ k ≠ 0 := by have := Nat.mul_pos hm (Nat.two_pow_pos k); omega
  have hr := rung_lt m hm hl
  unfold Format.nearest
  rw [if_neg hne, leastPlace_d, binade_d, infRung_d, fraction_d, log2_shift m k hm]
  have e1 : max (p + ((m.log2 + k : Nat) : Int) - ((52 : Nat) : Int)) (-1074) = p + k + m.log2 - 52 := by omega
  simp only [e1]
  have e2 : Toward.even.cut s ((m * 2 ^ k) <<< (p - (p + k + m.log2 - 52)).toNat) (p + k + m.log2 - 52 - p).toNat = m * 2 ^ (52 - m.log2) := by
    by_cases hk : k + m.log2 ≤ 52
    · have e3 : (p + (k : Int) + m.log2 - 52 - p).toNat = 0 := by omega
      have e4 : (p - (p + (k : Int) + m.log2 - 52)).toNat = 52 - m.log2 - k := by omega
      rw [e3, e4, Nat.shiftLeft_eq, Nat.mul_assoc, ← Nat.pow_add, show k + (52 - m.log2 - k) = 52 - m.log2 from by omega]
      have := cut_exact .even s (m * 2 ^ (52 - m.log2)) 0
      rwa [Nat.pow_zero, Nat.mul_one] at this
    · have e3 : (p - (p + (k : Int) + m.log2 - 52)).toNat = 0 := by omega
      have e4 : (p + (k : Int) + m.log2 - 52 - p).toNat = k + m.log2 - 52 := by omega
      rw [e3, e4, Nat.shiftLeft_zero, show k = (52 - m.log2) + (k + m.log2 - 52) from by omega, Nat.pow_add, ← Nat.mul_assoc, show (52 - m.log2) + (k + m.log2 - 52) + m.log2 - 52 = k + m.log2 - 52 from by omega]
      exact cut_exact _ _ _ _
  rw [e2]
  congr 1
  have h3 : (p + k + m.log2 - 52 - -1074).toNat ≤ 2022 := by omega
  have h4 : rung m (p + k) = (p + k + m.log2 - 52 - -1074).toNat * 4503599627370496 + m * 2 ^ (52 - m.log2) := by unfold rung; rfl
  rw [h4]
  generalize m * 2 ^ (52 - m.log2) = M at hr
  exact Nat.min_eq_left (by omega)

theorem read_word (s : Bool) (r : Nat) (h : r < 9218868437227405312) :
    double.read (double.word s r) = if r < 4503599627370496 then .number s r (-1074) else .number s (4503599627370496 + r % 4503599627370496) (-1074 + (r / 4503599627370496 - 1 : Nat)) := by
  have e : double.word s r = (if s then 9223372036854775808 else 0) + r := by unfold Format.word; rw [signWeight_d]; cases s <;> simp
  unfold Format.read
  rw [signWeight_d, binade_d, infRung_d, leastPlace_d]
  have e1 : ((double.word s r) / 9223372036854775808 % 2 == 1) = s := by
    rw [e]
    cases s
    · have : (0 + r) / 9223372036854775808 % 2 = 0 := by omega
      simp only [Bool.false_eq_true, if_false, this]; rfl
    · have : (9223372036854775808 + r) / 9223372036854775808 % 2 = 1 := by omega
      simp only [if_true, this]; rfl
  have e2 : (double.word s r) % 9223372036854775808 = r := by
    rw [e]
    cases s
    · simp only [Bool.false_eq_true, if_false]; omega
    · simp only [if_true]; omega
  simp only [e1, e2]
  rw [if_pos h]

theorem read_fits (s : Bool) (m : Nat) (p : Int) (hm : 0 < m) (hl : m.log2 ≤ 52) (h0 : -1074 ≤ p + m.log2 - 52) (h1 : p + m.log2 ≤ 1000) :
    double.read (double.word s (rung m p)) = .number s (m * 2 ^ (52 - m.log2)) (p + m.log2 - 52) := by
  have hr := rung_lt m hm hl
  obtain ⟨q, hq⟩ : ∃ q : Nat, (p + m.log2 - 52 + 1074) = q := ⟨(p + m.log2 - 52 + 1074).toNat, by omega⟩
  have e : rung m p = q * 4503599627370496 + m * 2 ^ (52 - m.log2) := by unfold rung; rw [hq]; rfl
  rw [read_word s _ (by rw [e]; omega), e]
  generalize m * 2 ^ (52 - m.log2) = M at hr
  rw [if_neg (by omega)]
  congr 1
  · omega
  · omega

def two16 : Nat := 4679240012837945344
def two24 : Nat := 4715268809856909312
def maxF : Nat := 9218868437227405311
theorem read_two16 : double.read two16 = .number false 4503599627370496 (-36) := by decide +kernel
theorem read_two24 : double.read two24 = .number false 4503599627370496 (-28) := by decide +kernel
theorem read_max : double.read maxF = .number false 9007199254740991 971 := by decide +kernel
theorem read_negmax : double.read (9223372036854775808 + maxF) = .number true 9007199254740991 971 := by decide +kernel

/-- the bits of n / 65536 -/
def toW (n : Int) : Nat := double.word (n < 0) (if n = 0 then 0 else rung n.natAbs (-16))
theorem log2_le {m : Nat} (h : m ≤ 1099511627776) : m.log2 ≤ 40 := by
  by_cases h0 : m = 0
  · subst h0; decide
  · have := (Nat.log2_lt h0 (k := 41)).2 (by omega)
    omega

theorem nearest_int (n : Int) (h : n.natAbs ≤ 1099511627776) (hn : n ≠ 0) (p : Int) (h0 : -500 ≤ p) (h1 : p ≤ 500) : double.nearest (n < 0) n.natAbs p = double.word (n < 0) (rung n.natAbs p) := by
  have hl := log2_le h
  have := nearest_fits (n < 0) n.natAbs 0 p (by omega) (by omega) (by omega) (by omega)
  rw [Nat.pow_zero, Nat.mul_one] at this
  rw [this]
  congr 2
  omega

theorem div_zero : double.div (double.nearest (decide ((0:Int) < 0)) (0:Int).natAbs 0) two16 = some (toW 0) := by decide +kernel

theorem div_two16 (n : Int) (h : n.natAbs ≤ 1099511627776) : double.div (double.nearest (decide (n < 0)) n.natAbs 0) two16 = some (toW n) := by
  by_cases h0 : n = 0
  · subst h0
    exact div_zero
  unfold Format.div
  rw [read_two16]
  have hl := log2_le h
  rw [nearest_int n h h0 0 (by omega) (by omega), read_fits _ _ _ (by omega) (by omega) (by omega) (by omega), fraction_d]
  unfold Datum.quotient
  have hlog : (n.natAbs * 2 ^ (52 - n.natAbs.log2)).log2 = 52 := by rw [log2_shift _ _ (by omega)]; omega
  have hlog2 : Nat.log2 4503599627370496 = 52 := by decide +kernel
  simp only [hlog, hlog2]
  rw [if_neg (by omega)]
  simp only [Option.map_some]
  refine congrArg some ?_
  simp only [Format.write, Bool.xor_false]
  have e1 : (n.natAbs * 2 ^ (52 - n.natAbs.log2)) <<< (52 + 2 + 52 - 52) = (n.natAbs * 2 ^ (52 - n.natAbs.log2) * 4) * 4503599627370496 := by
    rw [Nat.shiftLeft_eq]
    generalize n.natAbs * 2 ^ (52 - n.natAbs.log2) = A
    rw [show (2 : Nat) ^ (52 + 2 + 52 - 52) = 18014398509481984 from by decide]
    omega
  rw [e1, Nat.mul_div_cancel _ (by omega), Nat.mul_mod_left]
  have e2 : 2 * (n.natAbs * 2 ^ (52 - n.natAbs.log2) * 4) + ((0 : Nat) != 0).toNat = n.natAbs * 2 ^ (52 - n.natAbs.log2 + 3) := by
    rw [Nat.pow_add, ← Nat.mul_assoc n.natAbs, show (2 : Nat) ^ 3 = 8 from rfl, show ((0 : Nat) != 0).toNat = 0 from rfl]
    generalize n.natAbs * 2 ^ (52 - n.natAbs.log2) = z
    omega
  rw [e2, nearest_fits _ _ _ _ (by omega) (by omega) (by omega) (by omega)]
  unfold toW
  rw [if_neg h0]
  refine congrArg (double.word _) (congrArg (rung _) ?_)
  omega

theorem read_toW (n : Int) (h : n.natAbs ≤ 1099511627776) (h0 : n ≠ 0) : double.read (toW n) = .number (decide (n < 0)) (n.natAbs * 2 ^ (52 - n.natAbs.log2)) ((n.natAbs.log2 : Int) - 68) := by
  have hl := log2_le h
  unfold toW
  rw [if_neg h0, read_fits _ _ _ (by omega) (by omega) (by omega) (by omega)]
  refine congrArg (Datum.number _ _) ?_
  omega
theorem read_int (n : Int) (h : n.natAbs ≤ 1099511627776) (h0 : n ≠ 0) : double.read (double.nearest (decide (n < 0)) n.natAbs 0) = .number (decide (n < 0)) (n.natAbs * 2 ^ (52 - n.natAbs.log2)) ((n.natAbs.log2 : Int) - 52) := by
  have hl := log2_le h
  rw [nearest_int n h h0 0 (by omega) (by omega), read_fits _ _ _ (by omega) (by omega) (by omega) (by omega)]
  refine congrArg (Datum.number _ _) ?_
  omega
theorem mul_toW (n : Int) (h : n.natAbs ≤ 1099511627776) : double.mul (toW n) two16 = some (double.nearest (decide (n < 0)) n.natAbs 0) := by
  by_cases h0 : n = 0
  · subst h0
    decide +kernel
  have hl := log2_le h
  unfold Format.mul
  rw [read_toW n h h0, read_two16]
  simp only [Datum.product, Option.map_some, Bool.xor_false]
  refine congrArg some ?_
  simp only [Format.write]
  have e : n.natAbs * 2 ^ (52 - n.natAbs.log2) * 4503599627370496 = n.natAbs * 2 ^ (104 - n.natAbs.log2) := by
    rw [Nat.mul_assoc, show 104 - n.natAbs.log2 = (52 - n.natAbs.log2) + 52 from by omega, Nat.pow_add]
  rw [e, nearest_fits _ _ _ _ (by omega) (by omega) (by omega) (by omega), nearest_int n h h0 0 (by omega) (by omega)]
  refine congrArg (double.word _) (congrArg (rung _) ?_)
  omega
theorem signed_abs (n : Int) : signed (decide (n < 0)) n.natAbs 0 = n := by
  unfold signed
  rw [Nat.shiftLeft_zero]
  by_cases h : n < 0
  · rw [if_pos (by simpa using h)]; omega
  · rw [if_neg (by simpa using h)]; omega
theorem integral_int (n : Int) (h : n.natAbs ≤ 1099511627776) : (double.read (double.nearest (decide (n < 0)) n.natAbs 0)).integral .zero = .number (decide (n < 0)) n.natAbs 0 := by
  by_cases h0 : n = 0
  · subst h0
    decide +kernel
  have hl := log2_le h
  rw [read_int n h h0]
  simp only [Datum.integral]
  rw [show ((n.natAbs.log2 : Int) - 52).toNat = 0 from by omega, Nat.shiftLeft_zero, show (-((n.natAbs.log2 : Int) - 52)).toNat = 52 - n.natAbs.log2 from by omega, cut_exact]
theorem toInt_int (n : Int) (h : n.natAbs ≤ 1099511627776) : (double.read (double.nearest (decide (n < 0)) n.natAbs 0)).toInt .zero = some n := by
  unfold Datum.toInt
  rw [integral_int n h]
  simp only [signed_abs]

/-! order -/
theorem order_num {x y : Nat} {s t : Bool} {m k : Nat} {i j : Int} (hx : double.read x = .number s m i) (hy : double.read y = .number t k j) : double.order x y = some (compare (signed s m (i - min i j).toNat) (signed t k (j - min i j).toNat)) := by
  unfold Format.order
  rw [hx, hy]
  rfl
theorem order_self {x : Nat} {s : Bool} {m : Nat} {i : Int} (hx : double.read x = .number s m i) : double.order x x = some .eq := by
  rw [order_num hx hx]
  exact congrArg some (by simp)
theorem cmp_lt {a b : Int} (h : a < b) : compare a b = .lt := by simp [Int.compare_eq_lt, h]
theorem cmp_gt {a b : Int} (h : b < a) : compare a b = .gt := by simp [Int.compare_eq_gt, h]

theorem signed_false (m k : Nat) : signed false m k = ((m * 2 ^ k : Nat) : Int) := by unfold signed; rw [Nat.shiftLeft_eq]; rfl
theorem signed_true (m k : Nat) : signed true m k = -((m * 2 ^ k : Nat) : Int) := by unfold signed; rw [Nat.shiftLeft_eq]; rfl
theorem signed_le (s : Bool) (m k : Nat) : -((m * 2 ^ k : Nat) : Int) ≤ signed s m k ∧ signed s m k ≤ ((m * 2 ^ k : Nat) : Int) := by
  cases s
  · rw [signed_false]; omega
  · rw [signed_true]; omega

/-- a number of 53 digits whose last place is below 971 lies between the greatest ones -/
theorem order_max {x : Nat} {s : Bool} {m : Nat} {i : Int} (hx : double.read x = .number s m i) (hm : m < 9007199254740992) (hi : i < 971) : double.order x maxF = some .lt ∧ double.order x (9223372036854775808 + maxF) = some .gt := by
  have h := signed_le s m (i - min i 971).toNat
  have e : (i - min i 971).toNat = 0 := by omega
  have hk : (2 : Nat) ^ 1 ≤ 2 ^ (971 - min i 971).toNat := Nat.pow_le_pow_right (by omega) (by omega)
  rw [order_num hx read_max, order_num hx read_negmax, signed_false, signed_true]
  rw [e, Nat.pow_zero, Nat.mul_one] at h
  rw [e]
  generalize (2 : Nat) ^ (971 - min i 971).toNat = q at hk
  exact ⟨congrArg some (cmp_lt (by omega)), congrArg some (cmp_gt (by omega))⟩

theorem order_two24 (n : Int) (h : n.natAbs ≤ 1099511627776) : double.order (toW (n.natAbs : Int)) two24 ≠ some .gt := by
  by_cases h0 : n = 0
  · subst h0
    decide +kernel
  have hl := log2_le h
  have h2 : ((n.natAbs : Int)).natAbs = n.natAbs := Int.natAbs_natCast _
  have hr := read_toW (n.natAbs : Int) (by omega) (by omega)
  rw [h2, show decide ((n.natAbs : Int) < 0) = false from decide_eq_false (by omega)] at hr
  rw [order_num hr read_two24, signed_false, signed_false]
  have e1 : ((n.natAbs.log2 : Int) - 68 - min ((n.natAbs.log2 : Int) - 68) (-28)).toNat = 0 := by omega
  have e2 : ((-28 : Int) - min ((n.natAbs.log2 : Int) - 68) (-28)).toNat = 40 - n.natAbs.log2 := by omega
  rw [e1, e2, Nat.pow_zero, Nat.mul_one]
  intro hc
  have hc' : ((4503599627370496 * 2 ^ (40 - n.natAbs.log2) : Nat) : Int) < ((n.natAbs * 2 ^ (52 - n.natAbs.log2) : Nat) : Int) := by
    rcases Int.lt_trichotomy ((n.natAbs * 2 ^ (52 - n.natAbs.log2) : Nat) : Int) ((4503599627370496 * 2 ^ (40 - n.natAbs.log2) : Nat) : Int) with q | q | q
    · rw [cmp_lt q] at hc; cases hc
    · rw [q] at hc; simp at hc
    · exact q
  rw [show (52 - n.natAbs.log2) = 12 + (40 - n.natAbs.log2) from by omega, Nat.pow_add, ← Nat.mul_assoc] at hc'
  have : n.natAbs * 2 ^ 12 * 2 ^ (40 - n.natAbs.log2) ≤ 4503599627370496 * 2 ^ (40 - n.natAbs.log2) := Nat.mul_le_mul_right _ (by rw [show (2 : Nat) ^ 12 = 4096 from rfl]; omega)
  omega

/-- what passes comes back -/
theorem cut_zero (s : Bool) (n d : Nat) : Toward.zero.cut s n d = n / 2 ^ d := by
  unfold Toward.cut
  rw [Nat.one_shiftLeft]
  show n / 2 ^ min d (n.log2 + 2) + 0 = _
  rw [Nat.add_zero]
  by_cases h : d ≤ n.log2 + 2
  · rw [Nat.min_eq_left h]
  · rw [Nat.min_eq_right (by omega)]
    have h1 : n < 2 ^ (n.log2 + 1) := Nat.lt_log2_self
    have h2 : 2 ^ (n.log2 + 1) ≤ 2 ^ (n.log2 + 2) := Nat.pow_le_pow_right (by omega) (by omega)
    have h3 : 2 ^ (n.log2 + 1) ≤ 2 ^ d := Nat.pow_le_pow_right (by omega) (by omega)
    rw [Nat.div_eq_of_lt (by omega), Nat.div_eq_of_lt (by omega)]

def trunc (y : Nat) : Nat := double.write ((double.read y).integral .zero)

theorem trunc_whole {y : Nat} {s : Bool} {m : Nat} {i : Int} (hy : double.read y = .number s m i) (hm : m < 9007199254740992) (hi : i < 0) (he : double.order y (trunc y) = some .eq) : m = m / 2 ^ (-i).toNat * 2 ^ (-i).toNat := by
  obtain ⟨d, hd⟩ : ∃ d : Nat, i = -(d : Int) := ⟨(-i).toNat, by omega⟩
  subst hd
  have ed : (-(-(d : Int))).toNat = d := by omega
  rw [ed]
  have hT : (double.read y).integral .zero = .number s (m / 2 ^ d) 0 := by
    rw [hy]
    simp only [Datum.integral]
    rw [show (-(d : Int)).toNat = 0 from by omega, Nat.shiftLeft_zero, ed, cut_zero]
  have hlt : m / 2 ^ d < 9007199254740992 := Nat.lt_of_le_of_lt (Nat.div_le_self _ _) hm
  unfold trunc at he
  rw [hT] at he
  simp only [Format.write] at he
  generalize hq : m / 2 ^ d = T at he hlt
  by_cases hT0 : T = 0
  · subst hT0
    have hz : double.read (double.nearest s 0 0) = .number s 0 (-1074) := by cases s <;> decide +kernel
    rw [order_num hy hz] at he
    have he' := Option.some.inj he
    have : m * 2 ^ (-(d : Int) - min (-(d : Int)) (-1074)).toNat = 0 := by
      cases s
      · rw [signed_false, signed_false] at he'
        have := Int.compare_eq_eq.1 he'
        omega
      · rw [signed_true, signed_true] at he'
        have := Int.compare_eq_eq.1 he'
        omega
    have hp := Nat.two_pow_pos (-(d : Int) - min (-(d : Int)) (-1074)).toNat
    rcases Nat.mul_eq_zero.1 this with h | h
    · omega
    · omega
  · have hl : T.log2 ≤ 52 := by
      have := (Nat.log2_lt hT0 (k := 53)).2 (by omega)
      omega
    have hz : double.read (double.nearest s T 0) = .number s (T * 2 ^ (52 - T.log2)) ((T.log2 : Int) - 52) := by
      have := nearest_fits s T 0 0 (by omega) hl (by omega) (by omega)
      rw [Nat.pow_zero, Nat.mul_one] at this
      rw [this, read_fits s T _ (by omega) hl (by omega) (by omega)]
      refine congrArg (Datum.number _ _) ?_
      omega
    rw [order_num hy hz] at he
    have he' := Option.some.inj he
    have h2 : m * 2 ^ (-(d : Int) - min (-(d : Int)) ((T.log2 : Int) - 52)).toNat = T * 2 ^ (52 - T.log2) * 2 ^ ((T.log2 : Int) - 52 - min (-(d : Int)) ((T.log2 : Int) - 52)).toNat := by
      cases s
      · rw [signed_false, signed_false] at he'
        have := Int.compare_eq_eq.1 he'
        omega
      · rw [signed_true, signed_true] at he'
        have := Int.compare_eq_eq.1 he'
        omega
    rw [Nat.mul_assoc, ← Nat.pow_add] at h2
    rw [show (52 - T.log2) + ((T.log2 : Int) - 52 - min (-(d : Int)) ((T.log2 : Int) - 52)).toNat = d + (-(d : Int) - min (-(d : Int)) ((T.log2 : Int) - 52)).toNat from by omega, Nat.pow_add, ← Nat.mul_assoc] at h2
    exact Nat.eq_of_mul_eq_mul_right (Nat.two_pow_pos _) h2

/-- b is a number that passes: what the float operations make of it -/
structure Passes (b : Nat) (n : Int) : Prop where
  small : n.natAbs ≤ 1099511627776
  bits : toW n = b

theorem read_nan_inf (s : Bool) (r : Nat) (h : 9218868437227405312 ≤ r) (h2 : r < 9223372036854775808) : (r = 9218868437227405312 ∧ double.read (double.word s r) = .infinity s) ∨ ∃ t, double.read (double.word s r) = .nan s t := by
  have e : double.word s r = (if s then 9223372036854775808 else 0) + r := by unfold Format.word; rw [signWeight_d]; cases s <;> simp
  unfold Format.read
  rw [signWeight_d, binade_d, infRung_d, leastPlace_d]
  have e1 : ((double.word s r) / 9223372036854775808 % 2 == 1) = s := by
    rw [e]
    cases s
    · have : (0 + r) / 9223372036854775808 % 2 = 0 := by omega
      simp only [Bool.false_eq_true, if_false, this]; rfl
    · have : (9223372036854775808 + r) / 9223372036854775808 % 2 = 1 := by omega
      simp only [if_true, this]; rfl
  have e2 : (double.word s r) % 9223372036854775808 = r := by
    rw [e]
    cases s
    · simp only [Bool.false_eq_true, if_false]; omega
    · simp only [if_true]; omega
  simp only [e1, e2]
  rw [if_neg (by omega), if_neg (by omega)]
  by_cases h3 : r = 9218868437227405312
  · rw [if_pos h3]; exact .inl ⟨h3, rfl⟩
  · rw [if_neg h3]; exact .inr ⟨_, rfl⟩

theorem word_div (s : Bool) (r : Nat) (h : r < 9223372036854775808) : double.word s r % 9223372036854775808 = r ∧ double.word s r < 18446744073709551616 := by
  have e : double.word s r = (if s then 9223372036854775808 else 0) + r := by unfold Format.word; rw [signWeight_d]; cases s <;> simp
  rw [e]
  cases s
  · simp only [Bool.false_eq_true, if_false]; omega
  · simp only [if_true]; omega

theorem finite_of {s : Bool} {r : Nat} (h2 : r < 9223372036854775808) (h : double.order (double.word s r) (double.word s r) = some .eq) (hg : double.order (double.word s r) maxF ≠ some .gt) (hl : double.order (double.word s r) (9223372036854775808 + maxF) ≠ some .lt) : r < 9218868437227405312 := by
  rcases Nat.lt_or_ge r 9218868437227405312 with h3 | h3
  · exact h3
  rcases read_nan_inf s r h3 h2 with ⟨_, h4⟩ | ⟨t, h4⟩
  · cases s
    · exact absurd (by unfold Format.order; rw [h4, read_max]; rfl) hg
    · exact absurd (by unfold Format.order; rw [h4, read_negmax]; rfl) hl
  · exfalso
    unfold Format.order at h
    rw [h4] at h
    exact absurd h (by simp [Datum.order])

/-- the product of a number that may pass, and what becomes of it -/
theorem passes_of {s : Bool} {r : Nat} (hr : r < 9218868437227405312) (h24 : double.order r two24 ≠ some .gt) (hz : double.word s r ≠ 9223372036854775808) :
    ∃ y, double.mul (double.word s r) two16 = some y ∧ (∃ m i, double.read y = .number s m i) ∧ (double.order y (trunc y) = some .eq → ∃ n, Passes (double.word s r) n ∧ y = double.nearest (decide (n < 0)) n.natAbs 0) := by
  have hw := read_word s r hr
  by_cases hsub : r < 4503599627370496
  · rw [if_pos hsub] at hw
    by_cases h0 : r = 0
    · subst h0
      cases s
      · refine ⟨0, by decide +kernel, ⟨0, -1074, by decide +kernel⟩, fun _ => ⟨0, ⟨by decide, by decide +kernel⟩, by decide +kernel⟩⟩
      · exact absurd (by decide +kernel) hz
    · have hl : r.log2 < 52 := (Nat.log2_lt h0).2 (by omega)
      have hm : double.mul (double.word s r) two16 = some (double.nearest s (r * 2 ^ 52) (-1110)) := by
        unfold Format.mul
        rw [hw, read_two16]
        simp only [Datum.product, Option.map_some, Bool.xor_false]
        rfl
      have hread : ∃ m i, double.read (double.nearest s (r * 2 ^ 52) (-1110)) = .number s m i ∧ 0 < m ∧ m < 9007199254740992 ∧ i ≤ -1000 := by
        by_cases h36 : 36 ≤ r.log2
        · rw [nearest_fits s r 52 (-1110) (by omega) (by omega) (by omega) (by omega), read_fits s r _ (by omega) (by omega) (by omega) (by omega)]
          have := rung_lt r (by omega) (by omega)
          exact ⟨_, _, rfl, by omega, by omega, by omega⟩
        · have hl2 : r < 2 ^ 36 := (Nat.log2_lt h0).1 (by omega)
          have e : double.nearest s (r * 2 ^ 52) (-1110) = double.word s (r * 65536) := by
            have hne : r * 2 ^ 52 ≠ 0 := by omega
            unfold Format.nearest
            rw [if_neg hne, leastPlace_d, binade_d, infRung_d, fraction_d, log2_shift r 52 (by omega)]
            have e1 : max (-1110 + ((r.log2 + 52 : Nat) : Int) - ((52 : Nat) : Int)) (-1074) = -1074 := by omega
            simp only [e1]
            rw [show ((-1110 : Int) - -1074).toNat = 0 from rfl, show ((-1074 : Int) - -1110).toNat = 36 from rfl, show ((-1074 : Int) - -1074).toNat = 0 from rfl, Nat.shiftLeft_zero]
            have e2 : r * 2 ^ 52 = (r * 65536) * 2 ^ 36 := by omega
            rw [e2, cut_exact, Nat.zero_mul, Nat.zero_add, Nat.min_eq_left (by omega)]
          rw [e, read_word s _ (by omega), if_pos (by omega)]
          exact ⟨_, _, rfl, by omega, by omega, by omega⟩
      obtain ⟨m, i, h1, h2, h3, h4⟩ := hread
      refine ⟨_, hm, ⟨m, i, h1⟩, fun he => ?_⟩
      exfalso
      have := trunc_whole h1 h3 (by omega) he
      have hq : m < 2 ^ (-i).toNat := Nat.lt_of_lt_of_le (show m < 2 ^ 53 by omega) (Nat.pow_le_pow_right (by omega) (by omega))
      rw [Nat.div_eq_of_lt hq] at this
      omega
  · rw [if_neg hsub] at hw
    have hw0 := read_word false r hr
    rw [if_neg hsub] at hw0
    have ew0 : double.word false r = r := rfl
    rw [ew0] at hw0
    obtain ⟨e, he⟩ : ∃ e : Nat, r / 4503599627370496 - 1 = e := ⟨_, rfl⟩
    obtain ⟨m, hm⟩ : ∃ m : Nat, 4503599627370496 + r % 4503599627370496 = m := ⟨_, rfl⟩
    rw [he, hm] at hw hw0
    have hm1 : 4503599627370496 ≤ m := by omega
    have hm2 : m < 9007199254740992 := by omega
    have hrm : r = e * 4503599627370496 + m := by omega
    have hlog : m.log2 = 52 := (Nat.log2_eq_iff (by omega)).2 ⟨by omega, by omega⟩
    -- not above 2 ^ 24
    have hi : (e : Int) - 1074 < -28 ∨ ((e : Int) - 1074 = -28 ∧ m = 4503599627370496) := by
      rw [order_num hw0 read_two24, signed_false, signed_false] at h24
      by_cases h1 : (e : Int) - 1074 < -28
      · exact .inl h1
      right
      rw [show ((-28 : Int) - min (-1074 + (e : Int)) (-28)).toNat = 0 from by omega, Nat.pow_zero, Nat.mul_one] at h24
      by_cases h2 : (e : Int) - 1074 = -28
      · refine ⟨h2, ?_⟩
        rw [show (-1074 + (e : Int) - min (-1074 + (e : Int)) (-28)).toNat = 0 from by omega, Nat.pow_zero, Nat.mul_one] at h24
        rcases Nat.lt_or_ge 4503599627370496 m with h3 | h3
        · exact absurd (congrArg some (cmp_gt (by omega))) h24
        · omega
      · exfalso
        apply h24
        refine congrArg some (cmp_gt ?_)
        have : (2 : Nat) ^ 1 ≤ 2 ^ (-1074 + (e : Int) - min (-1074 + (e : Int)) (-28)).toNat := Nat.pow_le_pow_right (by omega) (by omega)
        have h5 : m * 2 ≤ m * 2 ^ (-1074 + (e : Int) - min (-1074 + (e : Int)) (-28)).toNat := Nat.mul_le_mul_left _ this
        omega
    have hmul : double.mul (double.word s r) two16 = some (double.nearest s (m * 2 ^ 52) (-1074 + (e : Int) + -36)) := by
      unfold Format.mul
      rw [hw, read_two16]
      simp only [Datum.product, Option.map_some, Bool.xor_false]
      rfl
    have hn := nearest_fits s m 52 (-1074 + (e : Int) + -36) (by omega) (by omega) (by omega) (by omega)
    have hrd := read_fits s m (-1074 + (e : Int) + -36 + (52 : Nat)) (by omega) (by omega) (by omega) (by omega)
    rw [← hn, hlog, Nat.sub_self, Nat.pow_zero, Nat.mul_one] at hrd
    refine ⟨_, hmul, ⟨_, _, hrd⟩, fun hq => ?_⟩
    have hT := trunc_whole hrd hm2 (by omega) hq
    obtain ⟨d, hd⟩ : ∃ d : Nat, (-(-1074 + (e : Int) + -36 + ((52 : Nat) : Int) + ((52 : Nat) : Int) - 52)).toNat = d := ⟨_, rfl⟩
    rw [hd] at hT
    have hed : (e : Int) = 1058 - d := by omega
    have hd12 : 12 ≤ d := by omega
    obtain ⟨T, hTe⟩ : ∃ T : Nat, m / 2 ^ d = T := ⟨_, rfl⟩
    rw [hTe] at hT
    have hT0 : 0 < T := by
      rcases Nat.eq_zero_or_pos T with h | h
      · subst h; omega
      · exact h
    have hlT : T.log2 + d = 52 := by rw [← log2_shift T d hT0, ← hT, hlog]
    have hTle : T ≤ 1099511627776 := by
      rcases hi with h1 | ⟨h1, h2⟩
      · have : (2 : Nat) ^ 13 ≤ 2 ^ d := Nat.pow_le_pow_right (by omega) (by omega)
        have h3 := Nat.mul_le_mul_left T this
        omega
      · have : d = 12 := by omega
        subst this
        omega
    obtain ⟨n, hns, hna, hn0⟩ : ∃ n : Int, decide (n < 0) = s ∧ n.natAbs = T ∧ n ≠ 0 := by
      cases s
      · exact ⟨T, by simp, by simp, by omega⟩
      · exact ⟨-(T : Int), by simp; omega, by simp, by omega⟩
    refine ⟨n, ⟨by rw [hna]; exact hTle, ?_⟩, ?_⟩
    · unfold toW
      rw [if_neg hn0, hns, hna]
      refine congrArg (double.word s) ?_
      unfold rung
      rw [show 52 - T.log2 = d from by omega, ← hT, hrm]
      congr 2
      omega
    · rw [hns, hna]
      have h5 := nearest_fits s T d (-(d : Int)) hT0 (by omega) (by omega) (by omega)
      have h6 := nearest_fits s T 0 0 hT0 (by omega) (by omega) (by omega)
      rw [Nat.pow_zero, Nat.mul_one] at h6
      rw [← hT] at h5
      rw [h6, hn]
      refine congrArg (double.word s) ?_
      unfold rung
      rw [show 52 - T.log2 = d from by omega, ← hT, hlog, Nat.sub_self, Nat.pow_zero, Nat.mul_one]
      congr 2
      omega
end Go.Proofs.Ytcbahonakhcdpaa.Fl
