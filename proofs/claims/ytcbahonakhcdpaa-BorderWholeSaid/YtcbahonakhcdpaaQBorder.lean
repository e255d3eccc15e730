/- border.From and border.To in plain Lean: a number passes both ways, and bits that pass come back. No condition. -/
import Derived.Test.YtcbahonakhcdpaaQFloat
import Derived.Laws.BitsAllLaws
import Derived.Test.YtcbahonakhcdpaaPAllx1
namespace Go.Proofs.Ytcbahonakhcdpaa.Pure
open Go.RowKit Go.Proofs.Ytcbahonakhcdpaa.P Go.Proofs.YtcbahonakhcdpaaW.PrintWords Go.Proofs.YtcbahonakhcdpaaW.PrintLast Go.Proofs.Ytcbahonakhcdpaa.Fl Ieee
set_option linter.unusedVariables false

theorem absd_eq (b : Nat) (h : b < 18446744073709551616) : absd b = b % 9223372036854775808 := by
  unfold absd
  have := u64_andNot_nat b 9223372036854775808 h (by omega)
  rw [show ((9223372036854775808 : Nat) : Int) = 9223372036854775808 from rfl] at this
  rw [this, Int.toNat_natCast, show 18446744073709551615 - 9223372036854775808 = 2 ^ 63 - 1 from rfl, Nat.and_two_pow_sub_one_eq_mod]
theorem ordd_eq (x y : Nat) : ordd x y = double.order x y := rfl
theorem truncd_eq (y : Nat) : truncd y = trunc y := rfl
theorem decode_eq (y : Nat) : FloatKind.f64.decode y = double.read y := rfl

theorem toW_bounds (n : Int) (h : n.natAbs ≤ 1099511627776) : toW n < 18446744073709551616 ∧ toW n % 9223372036854775808 = toW (n.natAbs : Int) ∧ toW n ≠ 9223372036854775808 := by
  by_cases h0 : n = 0
  · subst h0
    decide +kernel
  have hl := log2_le h
  have hr := rung_lt n.natAbs (by omega) (by omega)
  have e1 : ((-16 : Int) + n.natAbs.log2 - 52 + 1074).toNat ≤ 1046 := by omega
  have e2 : 1006 ≤ ((-16 : Int) + n.natAbs.log2 - 52 + 1074).toNat := by omega
  have hlt : rung n.natAbs (-16) < 9223372036854775808 ∧ 0 < rung n.natAbs (-16) := by
    unfold rung
    generalize ((-16 : Int) + n.natAbs.log2 - 52 + 1074).toNat = q at e1 e2
    generalize n.natAbs * 2 ^ (52 - n.natAbs.log2) = M at hr
    omega
  have hw := word_div (decide (n < 0)) _ hlt.1
  have ea : toW (n.natAbs : Int) = rung n.natAbs (-16) := by
    unfold toW
    rw [if_neg (by omega), Int.natAbs_natCast, show decide ((n.natAbs : Int) < 0) = false from decide_eq_false (by omega)]
    rfl
  have eb : toW n = double.word (decide (n < 0)) (rung n.natAbs (-16)) := by unfold toW; rw [if_neg h0]
  rw [ea, eb]
  refine ⟨hw.2, hw.1, fun h => ?_⟩
  rw [h] at hw
  omega

theorem isNum_of {y : Nat} {s : Bool} {m : Nat} {i : Int} (h : double.read y = .number s m i) : isNum y = true := by
  unfold isNum
  rw [decode_eq, h]

theorem int_back (n : Int) (h : n.natAbs ≤ 1099511627776) : floatToIntVal .f64 (double.nearest (decide (n < 0)) n.natAbs 0) .i64 = some n := by
  unfold floatToIntVal
  rw [decode_eq, toInt_int n h]
  have h1 : IntKind.min .i64 = -9223372036854775808 := rfl
  have h2 : IntKind.max .i64 = 9223372036854775807 := rfl
  simp only [h1, h2]
  rw [if_pos (by omega)]

theorem trunc_int (n : Int) (h : n.natAbs ≤ 1099511627776) : trunc (double.nearest (decide (n < 0)) n.natAbs 0) = double.nearest (decide (n < 0)) n.natAbs 0 := by
  unfold trunc
  rw [integral_int n h]
  rfl

theorem order_int (n : Int) (h : n.natAbs ≤ 1099511627776) : double.order (double.nearest (decide (n < 0)) n.natAbs 0) (double.nearest (decide (n < 0)) n.natAbs 0) = some .eq ∧ isNum (double.nearest (decide (n < 0)) n.natAbs 0) = true := by
  by_cases h0 : n = 0
  · subst h0
    decide +kernel
  have hr := read_int n h h0
  exact ⟨order_self hr, isNum_of hr⟩

theorem toW_read (n : Int) (h : n.natAbs ≤ 1099511627776) : ∃ s m i, double.read (toW n) = .number s m i ∧ m < 9007199254740992 ∧ i < 971 := by
  by_cases h0 : n = 0
  · subst h0
    exact ⟨false, 0, -1074, by decide +kernel, by omega, by omega⟩
  have hl := log2_le h
  have hr := rung_lt n.natAbs (by omega) (by omega)
  exact ⟨_, _, _, read_toW n h h0, by omega, by omega⟩

def fromN (b : Nat) : Option (Int × Int) :=
  if (double.order b b != some .eq) = true then some (0, 3)
  else if (double.order (absd b) maxF == some .gt) = true then some (0, 3)
  else if (double.order (absd b) two24 == some .gt) = true then some (0, 2)
  else if (b : Int) = 9223372036854775808 then some (0, 3)
  else (floatBits .mul .f64 b two16).bind fun y =>
    if isNum y = true then
      if (double.order y (trunc y) != some .eq) = true then some (0, 3)
      else (floatToIntVal .f64 y .i64).bind fun n => some (n, 0)
    else none
theorem fromN_eq (b : Nat) : border_From.f b = fromN b := by
  unfold border_From.f
  rw [if_pos (by omega)]
  rfl

theorem from_toW (n : Int) (h : n.natAbs ≤ 1099511627776) : border_From.f (toW n) = some (n, 0) := by
  obtain ⟨s, m, i, hr, hm, hi⟩ := toW_read n h
  obtain ⟨hb1, hb2, hb3⟩ := toW_bounds n h
  have ha : absd (toW n) = toW (n.natAbs : Int) := by rw [absd_eq _ hb1, hb2]
  have hn2 : ((n.natAbs : Int)).natAbs ≤ 1099511627776 := by rw [Int.natAbs_natCast]; exact h
  obtain ⟨s2, m2, i2, hr2, hm2, hi2⟩ := toW_read (n.natAbs : Int) hn2
  have hmax := (order_max hr2 hm2 hi2).1
  have h24 := order_two24 n h
  obtain ⟨ho, hnum⟩ := order_int n h
  rw [fromN_eq]
  unfold fromN
  rw [ha]
  rw [if_neg (by rw [order_self hr]; decide)]
  rw [if_neg (by rw [hmax]; decide)]
  rw [if_neg (by intro hc; exact h24 (by simpa using hc))]
  rw [if_neg (by omega)]
  have hmul : floatBits .mul .f64 (toW n) two16 = some (double.nearest (decide (n < 0)) n.natAbs 0) := mul_toW n h
  rw [hmul]
  simp only [Option.bind_some]
  rw [if_pos hnum, if_neg (by rw [trunc_int n h, ho]; decide), int_back n h]
  rfl

theorem fix_clamp (a : Int) : ∃ c, fix_Clamp.f a = some c ∧ (c = a ↔ a.natAbs ≤ 1099511627776) := by
  refine ⟨_, rfl, ?_⟩
  unfold mn mx
  split <;> split <;> omega

theorem to_toW (n : Int) (h : n.natAbs ≤ 1099511627776) : border_To.f n = some (((toW n : Nat) : Int), 0) := by
  obtain ⟨c, hc, hcc⟩ := fix_clamp n
  unfold border_To.f
  rw [hc]
  simp only [Option.bind_some]
  rw [if_pos (hcc.2 h)]
  have : floatBits .quo .f64 (floatOfInt .f64 n) 4679240012837945344 = some (toW n) := div_two16 n h
  rw [this]
  rfl

theorem to_big (n : Int) (h : ¬ n.natAbs ≤ 1099511627776) : border_To.f n = some (0, 2) := by
  obtain ⟨c, hc, hcc⟩ := fix_clamp n
  unfold border_To.f
  rw [hc]
  simp only [Option.bind_some]
  rw [if_neg (fun h2 => h (hcc.1 h2))]

theorem word_of (b : Nat) (h : b < 18446744073709551616) : ∃ s r, b = double.word s r ∧ r = b % 9223372036854775808 ∧ r < 9223372036854775808 := by
  refine ⟨decide (9223372036854775808 ≤ b), b % 9223372036854775808, ?_, rfl, by omega⟩
  unfold Format.word
  rw [signWeight_d]
  by_cases h2 : 9223372036854775808 ≤ b
  · rw [decide_eq_true h2, if_pos rfl]; omega
  · rw [decide_eq_false h2, if_neg (by decide)]; omega

theorem finite_abs {s : Bool} {r : Nat} (h2 : r < 9223372036854775808) (h : double.order (double.word s r) (double.word s r) = some .eq) (hg : double.order r maxF ≠ some .gt) : r < 9218868437227405312 := by
  rcases Nat.lt_or_ge r 9218868437227405312 with h3 | h3
  · exact h3
  rcases read_nan_inf s r h3 h2 with ⟨h5, h4⟩ | ⟨t, h4⟩
  · subst h5
    exact absurd (by decide +kernel) hg
  · exfalso
    unfold Format.order at h
    rw [h4] at h
    exact absurd h (by simp [Datum.order])

theorem from_any (b : Int) (h0 : 0 ≤ b) (h1 : b < 18446744073709551616) : ∃ n e, border_From.f b = some (n, e) ∧ (e ≠ 0 → n = 0) ∧ (e = 0 → n.natAbs ≤ 1099511627776 ∧ (toW n : Int) = b) := by
  obtain ⟨b, rfl⟩ : ∃ b' : Nat, b = b' := ⟨b.toNat, by omega⟩
  obtain ⟨s, r, hb, hr, hr2⟩ := word_of b (by omega)
  have ha : absd b = r := by rw [absd_eq _ (by omega), hr]
  rw [fromN_eq]
  unfold fromN
  rw [ha]
  by_cases c1 : double.order b b ≠ some .eq
  · exact ⟨0, 3, by rw [if_pos (by simpa using c1)], fun _ => rfl, fun h => by omega⟩
  replace c1 := Decidable.not_not.1 c1
  rw [if_neg (by rw [c1]; decide)]
  by_cases c2 : double.order r maxF = some .gt
  · exact ⟨0, 3, by rw [if_pos (by simpa using c2)], fun _ => rfl, fun h => by omega⟩
  rw [if_neg (by simpa using c2)]
  by_cases c3 : double.order r two24 = some .gt
  · exact ⟨0, 2, by rw [if_pos (by simpa using c3)], fun _ => rfl, fun h => by omega⟩
  rw [if_neg (by simpa using c3)]
  by_cases c4 : (b : Int) = 9223372036854775808
  · exact ⟨0, 3, by rw [if_pos c4], fun _ => rfl, fun h => by omega⟩
  rw [if_neg c4]
  rw [hb] at c1
  have hfin := finite_abs hr2 c1 c2
  obtain ⟨y, hy, ⟨m, i, hm⟩, hp⟩ := passes_of (s := s) hfin c3 (by rw [← hb]; omega)
  rw [← hb] at hy
  have hmul : floatBits .mul .f64 b two16 = some y := hy
  rw [hmul]
  simp only [Option.bind_some]
  rw [if_pos (isNum_of hm)]
  by_cases c5 : double.order y (trunc y) ≠ some .eq
  · exact ⟨0, 3, by rw [if_pos (by simpa using c5)], fun _ => rfl, fun h => by omega⟩
  replace c5 := Decidable.not_not.1 c5
  obtain ⟨n, hn, hyn⟩ := hp c5
  rw [if_neg (by rw [c5]; decide), show floatToIntVal .f64 y .i64 = some n from by rw [hyn, int_back n hn.small]]
  refine ⟨n, 0, rfl, fun h => absurd rfl h, fun _ => ⟨hn.small, ?_⟩⟩
  rw [hn.bits, hb]

theorem begun : border_From.f 4609434218613702656 = some (98304, 0) := by
  have h := from_toW 98304 (by decide)
  have e : ((toW 98304 : Nat) : Int) = 4609434218613702656 := by decide +kernel
  rwa [e] at h
end Go.Proofs.Ytcbahonakhcdpaa.Pure
