/- What the printed function unit of package quat computes for three and for four numbers: scaled, divided by the floor of the root of the sum of their squares, rounded. Conditions: numbers of at most 2^30, and enough rounds. -/
import Derived.Test.YtnadffanmnbfcaaPAllx10
import Derived.Test.YtnadffanmnbfcaaQQuat
namespace Go.Proofs.Ytnadffanmnbfcaa.QUnit
open Go Go.RowKit Go.Proofs.Ytnadffanmnbfcaa.P Go.Proofs.Ytnadffanmnbfcaa.QDiv Go.Proofs.Ytnadffanmnbfcaa.QFix Go.Proofs.Ytnadffanmnbfcaa.QRoot Go.Proofs.Ytnadffanmnbfcaa.QVec Go.Proofs.Ytnadffanmnbfcaa.QQuat Go.Proofs.YtnadffanmnbfcaaW.PrintWords Go.Proofs.YtnadffanmnbfcaaW.PrintLast Go.Proofs.YtnadffanmnbfcaaW.PrintMore

/-- a number divided by a length, rounded -/
def shareI (n d : Int) : Int := (131072 * n + d) / (2 * d)
theorem set_len (l : List Int) (i : Nat) (x : Int) : (l.set i x).length = l.length := List.length_set
theorem l4_step (k : Nat) (l : List Int) (d i : Int) (h0 : 0 ≤ i) (hi : i < (l.length : Int)) (hl : l.length ≤ 8) (hd0 : 1 ≤ d) (hd : d ≤ 8589934592) (n0 : -4294967296 ≤ rd l i) (n1 : rd l i ≤ 4294967296) :
    quat_unit.l4 (k + 1) l d (l.length : Int) i = quat_unit.l4 k (l.set i.toNat (shareI (rd l i) d)) d (l.length : Int) (i + 1) := by
  have e1 : wrap64 (2 * d) = 2 * d := wrap64_in _ (by omega) (by omega)
  have e2 : wrap64 (2 * rd l i) = 2 * rd l i := wrap64_in _ (by omega) (by omega)
  have e3 : wrap64 (2 * rd l i * 65536) = 131072 * rd l i := by rw [wrap64_in _ (by omega) (by omega)]; omega
  have e4 : wrap64 (131072 * rd l i + d) = 131072 * rd l i + d := wrap64_in _ (by omega) (by omega)
  have e5 : wrap64 (i + 1) = i + 1 := wrap64_in _ (by omega) (by omega)
  have g : ∀ x : Int, rd (l.set i.toNat x) i = x := by
    intro x
    unfold rd
    rw [List.getD_eq_getElem?_getD, List.getElem?_set_self (by omega)]
    rfl
  have s2 : ∀ x y : Int, (l.set i.toNat x).set i.toNat y = l.set i.toNat y := fun x y => List.set_set ..
  rw [quat_unit.l4]
  simp only [e1, e2, e3, e4, e5]
  rw [if_pos hi, if_pos h0, if_pos hi, if_neg (by omega)]
  simp only [Option.bind_some, g, s2]
  unfold shareI
  have xb : -1000000000000000 ≤ 131072 * rd l i + d ∧ 131072 * rd l i + d ≤ 1000000000000000 := by omega
  generalize 131072 * rd l i + d = x at *
  by_cases hx : x < 0
  · rw [if_pos hx]
    have q1 : Int.tdiv x (2 * d) = -((-x) / (2 * d)) := by
      rw [← Int.tdiv_eq_ediv_of_nonneg (by omega), Int.neg_tdiv, Int.neg_neg]
    have q2 : Int.tmod x (2 * d) = -((-x) % (2 * d)) := by
      rw [← Int.tmod_eq_emod_of_nonneg (by omega), Int.neg_tmod, Int.neg_neg]
    have b1 := Int.emod_nonneg (-x) (show (2 * d) ≠ 0 by omega)
    have b2 := Int.emod_lt_of_pos (-x) (show 0 < 2 * d by omega)
    have b3 := Int.mul_ediv_add_emod (-x) (2 * d)
    have b4 : 0 ≤ (-x) / (2 * d) := Int.ediv_nonneg (by omega) (by omega)
    have b5 : (-x) / (2 * d) ≤ -x := Int.ediv_le_self _ (by omega)
    rw [q1, q2]
    generalize (-x) / (2 * d) = q at *
    generalize (-x) % (2 * d) = r at *
    by_cases hr : r = 0
    · subst hr
      rw [if_pos (by omega), wrap64_in (-q) (by omega) (by omega)]
      have : x / (2 * d) = -q := by
        rw [show x = -q * (2 * d) by grind]; exact Int.mul_ediv_cancel _ (by omega)
      rw [this]
    · rw [if_neg (by omega), wrap64_in (-q) (by omega) (by omega), wrap64_in (-q - 1) (by omega) (by omega)]
      have : x / (2 * d) = -q - 1 := by
        rw [show x = (2 * d - r) + (-q - 1) * (2 * d) by grind, Int.add_mul_ediv_right _ _ (by omega), Int.ediv_eq_zero_of_lt (by omega) (by omega)]; omega
      rw [this]
  · rw [if_neg hx, Int.tdiv_eq_ediv_of_nonneg (by omega)]
    have b4 : 0 ≤ x / (2 * d) := Int.ediv_nonneg (by omega) (by omega)
    have b5 : x / (2 * d) ≤ x := Int.ediv_le_self _ (by omega)
    rw [wrap64_in _ (by omega) (by omega)]
theorem l4_end (k : Nat) (l : List Int) (d : Int) : quat_unit.l4 (k + 1) l d (l.length : Int) (l.length : Int) = some (l, true) := by
  rw [quat_unit.l4, if_neg (by omega)]
/-- one more square -/
theorem l3_step (k : Nat) (l : List Int) (hi lo i : Int) (h0 : 0 ≤ i) (hi' : i < (l.length : Int)) (hl : l.length ≤ 8) (n0 : -2147483648 < rd l i) (n1 : rd l i < 2147483648) (hh0 : 0 ≤ hi) (hh : hi < 18446744073709551616) (l0 : 0 ≤ lo) (l1 : lo + rd l i * rd l i < 18446744073709551616) :
    quat_unit.l3 (k + 1) l hi lo (l.length : Int) i = quat_unit.l3 k l hi (lo + rd l i * rd l i) (l.length : Int) (i + 1) := by
  have e5 : wrap64 (i + 1) = i + 1 := wrap64_in _ (by omega) (by omega)
  rw [quat_unit.l3, if_pos hi', if_pos h0, if_pos hi', e5]
  have hq := sq_nonneg (rd l i)
  have hb := sq_bound (rd l i) 2147483648 (by omega) (by omega)
  have em : IntKind.u64.wrap (mx (rd l i) (wrap64 (-(rd l i)))) = max (rd l i) (-(rd l i)) := by
    rw [wrap64_in _ (by omega) (by omega), mx_eq, IntKind.wrap_u64]; omega
  rw [em, mul64_f _ _ (by omega) (by omega) (by omega) (by omega), sq_abs]
  generalize rd l i * rd l i = q at *
  have d1 : q / 18446744073709551616 = 0 := by omega
  have d2 : q % 18446744073709551616 = q := by omega
  rw [d1, d2]
  simp only [Option.bind_some]
  unfold bits_Add64.f
  rw [if_pos (by omega)]
  simp only [Option.bind_some]
  rw [if_pos (by omega)]
  simp only [Option.bind_some]
  rw [show (lo + q + 0) % 18446744073709551616 = lo + q by omega, show (hi + 0 + (lo + q + 0) / 18446744073709551616) % 18446744073709551616 = hi by omega]
theorem l3_end (k : Nat) (l : List Int) (hi lo : Int) : quat_unit.l3 (k + 1) l hi lo (l.length : Int) (l.length : Int) = (fix_Root.f k hi lo).bind fun t => quat_unit.l4 k l (wrap64 t) (l.length : Int) 0 := by
  rw [quat_unit.l3, if_neg (by omega)]
theorem l2_step (k : Nat) (l : List Int) (m i : Int) (h0 : 0 ≤ i) (hi : i < (l.length : Int)) (hl : l.length ≤ 8) (n0 : -4611686018427387904 < rd l i) (n1 : rd l i < 4611686018427387904) :
    quat_unit.l2 (k + 1) m l (l.length : Int) i = quat_unit.l2 k m (l.set i.toNat (2 * rd l i)) (l.length : Int) (i + 1) := by
  rw [quat_unit.l2, if_pos hi, if_pos h0, if_pos hi, wrap64_in (i + 1) (by omega) (by omega), wrap64_in _ (by omega) (by omega), Int.mul_comm]
theorem l2_end (k : Nat) (l : List Int) (m : Int) (h0 : 0 ≤ m) (h1 : m < 4611686018427387904) : quat_unit.l2 (k + 1) m l (l.length : Int) (l.length : Int) = quat_unit.l1 k (2 * m) l := by
  rw [quat_unit.l2, if_neg (by omega), wrap64_in _ (by omega) (by omega), Int.mul_comm]
theorem l0_step (k : Nat) (out l : List Int) (m i : Int) (h0 : 0 ≤ i) (hi : i < (l.length : Int)) (ho : out.length = l.length) (hl : l.length ≤ 8) (n0 : -1099511627776 ≤ rd l i) (n1 : rd l i ≤ 1099511627776) :
    quat_unit.l0 (k + 1) m out l (l.length : Int) i = quat_unit.l0 k (max (max m (rd l i)) (-(rd l i))) (out.set i.toNat (rd l i)) l (l.length : Int) (i + 1) := by
  have g : ∀ x : Int, rd (out.set i.toNat x) i = x := by
    intro x
    unfold rd
    rw [List.getD_eq_getElem?_getD, List.getElem?_set_self (by omega)]
    rfl
  rw [quat_unit.l0, if_pos hi, if_pos h0, if_pos hi, clamp_f, clamp_in _ n0 n1]
  simp only [Option.bind_some, g]
  rw [if_pos (by omega), wrap64_in (i + 1) (by omega) (by omega), wrap64_in (-(rd l i)) (by omega) (by omega), mx_eq, mx_eq]
theorem l0_end (k : Nat) (out l : List Int) (m : Int) : quat_unit.l0 (k + 1) m out l (l.length : Int) (l.length : Int) = if m = 0 then some ([], false) else quat_unit.l1 k m out := by
  rw [quat_unit.l0, if_neg (by omega)]
theorem double3 (t : Nat) : ∀ (k : Nat) (a b c m : Int), 1 ≤ m → m < 2147483648 → (-m ≤ a ∧ a ≤ m) → (-m ≤ b ∧ b ≤ m) → (-m ≤ c ∧ c ≤ m) → 1073741824 ≤ m * 2 ^ t →
    ∃ (s : Int) (k' : Nat), k ≤ k' ∧ 1 ≤ s ∧ s * m < 2147483648 ∧ 1073741824 ≤ s * m ∧ quat_unit.l1 (k + 5 * t + 1) m [a, b, c] = quat_unit.l3 k' [s * a, s * b, s * c] 0 0 (([s * a, s * b, s * c] : List Int).length : Int) 0 := by
  induction t with
  | zero =>
    intro k a b c m m1 m2 ha hb hc hm
    refine ⟨1, k, Nat.le_refl _, by omega, by omega, by omega, ?_⟩
    rw [show k + 5 * 0 + 1 = k + 1 by omega, quat_unit.l1, if_neg (by omega)]
    simp only [Int.one_mul]
  | succ t ih =>
    intro k a b c m m1 m2 ha hb hc hm
    by_cases h : m < 1073741824
    · obtain ⟨s, k', hk, s1, s2, s3, e⟩ := ih k (2 * a) (2 * b) (2 * c) (2 * m) (by omega) (by omega) (by omega) (by omega) (by omega) (by rw [Int.pow_succ] at hm; grind)
      refine ⟨2 * s, k', hk, by omega, by grind, by grind, ?_⟩
      rw [show 2 * s * a = s * (2 * a) by grind, show 2 * s * b = s * (2 * b) by grind, show 2 * s * c = s * (2 * c) by grind, ← e, quat_unit.l1, if_pos h, show k + 5 * (t + 1) = k + 5 * t + 1 + 1 + 1 + 1 + 1 by omega]
      have r0 : rd [a, b, c] 0 = a := rfl
      have r1 : rd [2 * a, b, c] 1 = b := rfl
      have r2 : rd [2 * a, 2 * b, c] 2 = c := rfl
      have l : ∀ x y z : Int, (([x, y, z] : List Int).length : Int) = 3 := fun _ _ _ => rfl
      have st0 := l2_step (k + 5 * t + 1 + 1 + 1 + 1) [a, b, c] m 0 (by omega) (by rw [l]; omega) (by simp) (by rw [r0]; omega) (by rw [r0]; omega)
      have st1 := l2_step (k + 5 * t + 1 + 1 + 1) [2 * a, b, c] m 1 (by omega) (by rw [l]; omega) (by simp) (by rw [r1]; omega) (by rw [r1]; omega)
      have st2 := l2_step (k + 5 * t + 1 + 1) [2 * a, 2 * b, c] m 2 (by omega) (by rw [l]; omega) (by simp) (by rw [r2]; omega) (by rw [r2]; omega)
      have st3 := l2_end (k + 5 * t + 1) [2 * a, 2 * b, 2 * c] m (by omega) (by omega)
      rw [st0, r0]
      exact st1.trans (by rw [r1]; exact st2.trans (by rw [r2]; exact st3))
    · refine ⟨1, k + 5 * (t + 1), by omega, by omega, by omega, by omega, ?_⟩
      rw [quat_unit.l1, if_neg h]
      simp only [Int.one_mul]
theorem unit3 (a b c : Int) (ha : -1073741824 ≤ a ∧ a ≤ 1073741824) (hb : -1073741824 ≤ b ∧ b ≤ 1073741824) (hc : -1073741824 ≤ c ∧ c ≤ 1073741824) (k : Nat) (hk : 300 ≤ k) :
    (a = 0 ∧ b = 0 ∧ c = 0 ∧ quat_unit.f k [a, b, c] = some ([], false)) ∨ ∃ s d : Int, 1 ≤ s ∧ 1073741824 ≤ d ∧ d ≤ 4294967296 ∧ d * d ≤ (s * a) * (s * a) + (s * b) * (s * b) + (s * c) * (s * c) ∧ (s * a) * (s * a) + (s * b) * (s * b) + (s * c) * (s * c) < (d + 1) * (d + 1) ∧
      quat_unit.f k [a, b, c] = some ([shareI (s * a) d, shareI (s * b) d, shareI (s * c) d], true) := by
  obtain ⟨n, rfl⟩ : ∃ n, k = n + 200 + 4 := ⟨k - 204, by omega⟩
  have l : ∀ x y z : Int, (([x, y, z] : List Int).length : Int) = 3 := fun _ _ _ => rfl
  have r0 : ∀ x y z : Int, rd [x, y, z] 0 = x := fun _ _ _ => rfl
  have r1 : ∀ x y z : Int, rd [x, y, z] 1 = y := fun _ _ _ => rfl
  have r2 : ∀ x y z : Int, rd [x, y, z] 2 = z := fun _ _ _ => rfl
  have hf : quat_unit.f (n + 200 + 4) [a, b, c] = if max (max (max (max (max (max 0 a) (-a)) b) (-b)) c) (-c) = 0 then some ([], false) else quat_unit.l1 (n + 200) (max (max (max (max (max (max 0 a) (-a)) b) (-b)) c) (-c)) [a, b, c] := by
    unfold quat_unit.f
    rw [if_pos (by rw [l]; omega), if_pos (by rw [l]; decide)]
    have st0 := l0_step (n + 200 + 3) [0, 0, 0] [a, b, c] 0 0 (by omega) (by rw [l]; omega) rfl (by simp) (by rw [r0]; omega) (by rw [r0]; omega)
    rw [r0] at st0
    have st1 := l0_step (n + 200 + 2) [a, 0, 0] [a, b, c] (max (max 0 a) (-a)) 1 (by omega) (by rw [l]; omega) rfl (by simp) (by rw [r1]; omega) (by rw [r1]; omega)
    rw [r1] at st1
    have st2 := l0_step (n + 200 + 1) [a, b, 0] [a, b, c] (max (max (max (max 0 a) (-a)) b) (-b)) 2 (by omega) (by rw [l]; omega) rfl (by simp) (by rw [r2]; omega) (by rw [r2]; omega)
    rw [r2] at st2
    have st3 := l0_end (n + 200) [a, b, c] [a, b, c] (max (max (max (max (max (max 0 a) (-a)) b) (-b)) c) (-c))
    exact st0.trans (st1.trans (st2.trans st3))
  by_cases hz : max (max (max (max (max (max 0 a) (-a)) b) (-b)) c) (-c) = 0
  · rw [if_pos hz] at hf
    exact .inl ⟨by omega, by omega, by omega, hf⟩
  · right
    rw [if_neg hz] at hf
    obtain ⟨m, hm⟩ : ∃ m, m = max (max (max (max (max (max 0 a) (-a)) b) (-b)) c) (-c) := ⟨_, rfl⟩
    rw [← hm] at hf hz
    obtain ⟨s, k', hk', s1, s2, s3, e⟩ := double3 30 (n + 49) a b c m (by omega) (by omega) (by omega) (by omega) (by omega) (by omega)
    rw [show n + 49 + 5 * 30 + 1 = n + 200 by omega] at e
    rw [e] at hf
    have A0 : -(s * m) ≤ s * a ∧ s * a ≤ s * m := by
      have g1 := Int.mul_le_mul_of_nonneg_left (show -m ≤ a by omega) (show 0 ≤ s by omega)
      have g2 := Int.mul_le_mul_of_nonneg_left (show a ≤ m by omega) (show 0 ≤ s by omega)
      rw [Int.mul_neg] at g1; exact ⟨g1, g2⟩
    have B0 : -(s * m) ≤ s * b ∧ s * b ≤ s * m := by
      have g1 := Int.mul_le_mul_of_nonneg_left (show -m ≤ b by omega) (show 0 ≤ s by omega)
      have g2 := Int.mul_le_mul_of_nonneg_left (show b ≤ m by omega) (show 0 ≤ s by omega)
      rw [Int.mul_neg] at g1; exact ⟨g1, g2⟩
    have C0 : -(s * m) ≤ s * c ∧ s * c ≤ s * m := by
      have g1 := Int.mul_le_mul_of_nonneg_left (show -m ≤ c by omega) (show 0 ≤ s by omega)
      have g2 := Int.mul_le_mul_of_nonneg_left (show c ≤ m by omega) (show 0 ≤ s by omega)
      rw [Int.mul_neg] at g1; exact ⟨g1, g2⟩
    have top : s * m = s * a ∨ s * m = -(s * a) ∨ s * m = s * b ∨ s * m = -(s * b) ∨ s * m = s * c ∨ s * m = -(s * c) := by
      have : m = a ∨ m = -a ∨ m = b ∨ m = -b ∨ m = c ∨ m = -c := by omega
      rcases this with h | h | h | h | h | h <;> simp [h, Int.mul_neg]
    generalize s * m = M at *
    generalize hx : s * a = x at *
    generalize hy : s * b = y at *
    generalize hz' : s * c = z at *
    have qx := sq_bound x 2147483647 (by omega) (by omega)
    have qy := sq_bound y 2147483647 (by omega) (by omega)
    have qz := sq_bound z 2147483647 (by omega) (by omega)
    have px := sq_nonneg x
    have py := sq_nonneg y
    have pz := sq_nonneg z
    have low : 1152921504606846976 ≤ x * x + y * y + z * z := by
      have g := Int.mul_le_mul (show 1073741824 ≤ M by omega) (show 1073741824 ≤ M by omega) (by omega) (by omega)
      rcases top with h | h | h | h | h | h <;> rw [h] at g <;> (try simp only [Int.neg_mul_neg] at g) <;> omega
    obtain ⟨q, rfl⟩ : ∃ q, k' = q + 49 := ⟨k' - 49, by omega⟩
    obtain ⟨r, er, r0', r1', r2', r3'⟩ := root_f 0 (x * x + y * y + z * z) (by omega) (by omega) (by omega) (by omega) (q + 45) (by omega)
    have d0 : 1073741824 ≤ r := by
      have := lt_of_sq_lt (a := 1073741824) (b := r + 1) (by omega) (by omega)
      omega
    have d1 : r ≤ 4294967296 := le_of_sq_lt (by omega) (by omega)
    refine ⟨s, r, s1, d0, d1, by rw [hx, hy, hz']; omega, by rw [hx, hy, hz']; omega, ?_⟩
    rw [hx, hy, hz', hf]
    have t0 := l3_step (q + 48) [x, y, z] 0 0 0 (by omega) (by rw [l]; omega) (by simp) (by rw [r0]; omega) (by rw [r0]; omega) (by omega) (by omega) (by omega) (by rw [r0]; omega)
    rw [r0, Int.zero_add] at t0
    have t1 := l3_step (q + 47) [x, y, z] 0 (x * x) 1 (by omega) (by rw [l]; omega) (by simp) (by rw [r1]; omega) (by rw [r1]; omega) (by omega) (by omega) (by omega) (by rw [r1]; omega)
    rw [r1] at t1
    have t2 := l3_step (q + 46) [x, y, z] 0 (x * x + y * y) 2 (by omega) (by rw [l]; omega) (by simp) (by rw [r2]; omega) (by rw [r2]; omega) (by omega) (by omega) (by omega) (by rw [r2]; omega)
    rw [r2] at t2
    have t3 := l3_end (q + 45) [x, y, z] 0 (x * x + y * y + z * z)
    rw [er] at t3
    simp only [Option.bind_some] at t3
    rw [wrap64_in r (by omega) (by omega)] at t3
    have u0 := l4_step (q + 44) [x, y, z] r 0 (by omega) (by rw [l]; omega) (by simp) (by omega) (by omega) (by rw [r0]; omega) (by rw [r0]; omega)
    rw [r0] at u0
    have u1 := l4_step (q + 43) [shareI x r, y, z] r 1 (by omega) (by rw [l]; omega) (by simp) (by omega) (by omega) (by rw [r1]; omega) (by rw [r1]; omega)
    rw [r1] at u1
    have u2 := l4_step (q + 42) [shareI x r, shareI y r, z] r 2 (by omega) (by rw [l]; omega) (by simp) (by omega) (by omega) (by rw [r2]; omega) (by rw [r2]; omega)
    rw [r2] at u2
    have u3 := l4_end (q + 41) [shareI x r, shareI y r, shareI z r] r
    exact t0.trans (t1.trans (t2.trans (t3.trans (u0.trans (u1.trans (u2.trans u3))))))

end Go.Proofs.Ytnadffanmnbfcaa.QUnit
