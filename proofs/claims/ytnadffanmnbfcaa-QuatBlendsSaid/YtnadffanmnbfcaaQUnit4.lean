/- What the printed function unit of package quat computes for four numbers. Conditions: numbers of at most 2^30, and enough rounds. -/
import Derived.Test.YtnadffanmnbfcaaQUnit
namespace Go.Proofs.Ytnadffanmnbfcaa.QUnit
open Go Go.RowKit Go.Proofs.Ytnadffanmnbfcaa.P Go.Proofs.Ytnadffanmnbfcaa.QDiv Go.Proofs.Ytnadffanmnbfcaa.QFix Go.Proofs.Ytnadffanmnbfcaa.QRoot Go.Proofs.Ytnadffanmnbfcaa.QVec Go.Proofs.Ytnadffanmnbfcaa.QQuat Go.Proofs.YtnadffanmnbfcaaW.PrintWords Go.Proofs.YtnadffanmnbfcaaW.PrintLast Go.Proofs.YtnadffanmnbfcaaW.PrintMore

theorem double4 (t : Nat) : ∀ (k : Nat) (a b c d m : Int), 1 ≤ m → m < 2147483648 → (-m ≤ a ∧ a ≤ m) → (-m ≤ b ∧ b ≤ m) → (-m ≤ c ∧ c ≤ m) → (-m ≤ d ∧ d ≤ m) → 1073741824 ≤ m * 2 ^ t →
    ∃ (s : Int) (k' : Nat), k ≤ k' ∧ 1 ≤ s ∧ s * m < 2147483648 ∧ 1073741824 ≤ s * m ∧ quat_unit.l1 (k + 6 * t + 1) m [a, b, c, d] = quat_unit.l3 k' [s * a, s * b, s * c, s * d] 0 0 (([s * a, s * b, s * c, s * d] : List Int).length : Int) 0 := by
  induction t with
  | zero =>
    intro k a b c d m m1 m2 ha hb hc hd hm
    refine ⟨1, k, Nat.le_refl _, by omega, by omega, by omega, ?_⟩
    rw [show k + 6 * 0 + 1 = k + 1 by omega, quat_unit.l1, if_neg (by omega)]
    simp only [Int.one_mul]
  | succ t ih =>
    intro k a b c d m m1 m2 ha hb hc hd hm
    by_cases h : m < 1073741824
    · obtain ⟨s, k', hk, s1, s2, s3, e⟩ := ih k (2 * a) (2 * b) (2 * c) (2 * d) (2 * m) (by omega) (by omega) (by omega) (by omega) (by omega) (by omega) (by rw [Int.pow_succ] at hm; grind)
      refine ⟨2 * s, k', hk, by omega, by grind, by grind, ?_⟩
      rw [show 2 * s * a = s * (2 * a) by grind, show 2 * s * b = s * (2 * b) by grind, show 2 * s * c = s * (2 * c) by grind, show 2 * s * d = s * (2 * d) by grind, ← e, quat_unit.l1, if_pos h, show k + 6 * (t + 1) = k + 6 * t + 1 + 1 + 1 + 1 + 1 + 1 by omega]
      have r0 : rd [a, b, c, d] 0 = a := rfl
      have r1 : rd [2 * a, b, c, d] 1 = b := rfl
      have r2 : rd [2 * a, 2 * b, c, d] 2 = c := rfl
      have r3 : rd [2 * a, 2 * b, 2 * c, d] 3 = d := rfl
      have l : ∀ x y z u : Int, (([x, y, z, u] : List Int).length : Int) = 4 := fun _ _ _ _ => rfl
      have st0 := l2_step (k + 6 * t + 1 + 1 + 1 + 1 + 1) [a, b, c, d] m 0 (by omega) (by rw [l]; omega) (by simp) (by rw [r0]; omega) (by rw [r0]; omega)
      have st1 := l2_step (k + 6 * t + 1 + 1 + 1 + 1) [2 * a, b, c, d] m 1 (by omega) (by rw [l]; omega) (by simp) (by rw [r1]; omega) (by rw [r1]; omega)
      have st2 := l2_step (k + 6 * t + 1 + 1 + 1) [2 * a, 2 * b, c, d] m 2 (by omega) (by rw [l]; omega) (by simp) (by rw [r2]; omega) (by rw [r2]; omega)
      have st3 := l2_step (k + 6 * t + 1 + 1) [2 * a, 2 * b, 2 * c, d] m 3 (by omega) (by rw [l]; omega) (by simp) (by rw [r3]; omega) (by rw [r3]; omega)
      have st4 := l2_end (k + 6 * t + 1) [2 * a, 2 * b, 2 * c, 2 * d] m (by omega) (by omega)
      rw [st0, r0]
      exact st1.trans (by rw [r1]; exact st2.trans (by rw [r2]; exact st3.trans (by rw [r3]; exact st4)))
    · refine ⟨1, k + 6 * (t + 1), by omega, by omega, by omega, by omega, ?_⟩
      rw [quat_unit.l1, if_neg h]
      simp only [Int.one_mul]
theorem unit4 (a b c d : Int) (ha : -1073741824 ≤ a ∧ a ≤ 1073741824) (hb : -1073741824 ≤ b ∧ b ≤ 1073741824) (hc : -1073741824 ≤ c ∧ c ≤ 1073741824) (hd : -1073741824 ≤ d ∧ d ≤ 1073741824) (k : Nat) (hk : 400 ≤ k) :
    (a = 0 ∧ b = 0 ∧ c = 0 ∧ d = 0 ∧ quat_unit.f k [a, b, c, d] = some ([], false)) ∨ ∃ s D : Int, 1 ≤ s ∧ 1073741824 ≤ D ∧ D ≤ 4294967296 ∧ D * D ≤ (s * a) * (s * a) + (s * b) * (s * b) + (s * c) * (s * c) + (s * d) * (s * d) ∧ (s * a) * (s * a) + (s * b) * (s * b) + (s * c) * (s * c) + (s * d) * (s * d) < (D + 1) * (D + 1) ∧
      quat_unit.f k [a, b, c, d] = some ([shareI (s * a) D, shareI (s * b) D, shareI (s * c) D, shareI (s * d) D], true) := by
  obtain ⟨n, rfl⟩ : ∃ n, k = n + 240 + 5 := ⟨k - 245, by omega⟩
  have l : ∀ x y z u : Int, (([x, y, z, u] : List Int).length : Int) = 4 := fun _ _ _ _ => rfl
  have r0 : ∀ x y z u : Int, rd [x, y, z, u] 0 = x := fun _ _ _ _ => rfl
  have r1 : ∀ x y z u : Int, rd [x, y, z, u] 1 = y := fun _ _ _ _ => rfl
  have r2 : ∀ x y z u : Int, rd [x, y, z, u] 2 = z := fun _ _ _ _ => rfl
  have r3 : ∀ x y z u : Int, rd [x, y, z, u] 3 = u := fun _ _ _ _ => rfl
  obtain ⟨m, hm⟩ : ∃ m, m = max (max (max (max (max (max (max (max 0 a) (-a)) b) (-b)) c) (-c)) d) (-d) := ⟨_, rfl⟩
  have hf : quat_unit.f (n + 240 + 5) [a, b, c, d] = if m = 0 then some ([], false) else quat_unit.l1 (n + 240) m [a, b, c, d] := by
    unfold quat_unit.f
    rw [if_pos (by rw [l]; omega), if_pos (by rw [l]; decide)]
    have st0 := l0_step (n + 240 + 4) [0, 0, 0, 0] [a, b, c, d] 0 0 (by omega) (by rw [l]; omega) rfl (by simp) (by rw [r0]; omega) (by rw [r0]; omega)
    rw [r0] at st0
    have st1 := l0_step (n + 240 + 3) [a, 0, 0, 0] [a, b, c, d] (max (max 0 a) (-a)) 1 (by omega) (by rw [l]; omega) rfl (by simp) (by rw [r1]; omega) (by rw [r1]; omega)
    rw [r1] at st1
    have st2 := l0_step (n + 240 + 2) [a, b, 0, 0] [a, b, c, d] (max (max (max (max 0 a) (-a)) b) (-b)) 2 (by omega) (by rw [l]; omega) rfl (by simp) (by rw [r2]; omega) (by rw [r2]; omega)
    rw [r2] at st2
    have st3 := l0_step (n + 240 + 1) [a, b, c, 0] [a, b, c, d] (max (max (max (max (max (max 0 a) (-a)) b) (-b)) c) (-c)) 3 (by omega) (by rw [l]; omega) rfl (by simp) (by rw [r3]; omega) (by rw [r3]; omega)
    rw [r3, ← hm] at st3
    have st4 := l0_end (n + 240) [a, b, c, d] [a, b, c, d] m
    exact st0.trans (st1.trans (st2.trans (st3.trans st4)))
  by_cases hz : m = 0
  · rw [if_pos hz] at hf
    exact .inl ⟨by omega, by omega, by omega, by omega, hf⟩
  · right
    rw [if_neg hz] at hf
    have m0 : 1 ≤ m := by omega
    have m1 : m ≤ 1073741824 := by omega
    have am : -m ≤ a ∧ a ≤ m := by omega
    have bm : -m ≤ b ∧ b ≤ m := by omega
    have cm : -m ≤ c ∧ c ≤ m := by omega
    have dm : -m ≤ d ∧ d ≤ m := by omega
    have tops : m = a ∨ m = -a ∨ m = b ∨ m = -b ∨ m = c ∨ m = -c ∨ m = d ∨ m = -d := by omega
    clear hm ha hb hc hd
    obtain ⟨s, k', hk', s1, s2, s3, e⟩ := double4 30 (n + 59) a b c d m (by omega) (by omega) am bm cm dm (by omega)
    rw [show n + 59 + 6 * 30 + 1 = n + 240 by omega] at e
    rw [e] at hf
    have sc : ∀ x : Int, (-m ≤ x ∧ x ≤ m) → -(s * m) ≤ s * x ∧ s * x ≤ s * m := by
      intro x hx
      have g1 := Int.mul_le_mul_of_nonneg_left (show -m ≤ x by omega) (show 0 ≤ s by omega)
      have g2 := Int.mul_le_mul_of_nonneg_left (show x ≤ m by omega) (show 0 ≤ s by omega)
      rw [Int.mul_neg] at g1; exact ⟨g1, g2⟩
    have A0 := sc a am
    have B0 := sc b bm
    have C0 := sc c cm
    have D0 := sc d dm
    have top : s * m = s * a ∨ s * m = -(s * a) ∨ s * m = s * b ∨ s * m = -(s * b) ∨ s * m = s * c ∨ s * m = -(s * c) ∨ s * m = s * d ∨ s * m = -(s * d) := by
      rcases tops with h | h | h | h | h | h | h | h
      · exact .inl (by rw [h])
      · exact .inr (.inl (by rw [h, Int.mul_neg]))
      · exact .inr (.inr (.inl (by rw [h])))
      · exact .inr (.inr (.inr (.inl (by rw [h, Int.mul_neg]))))
      · exact .inr (.inr (.inr (.inr (.inl (by rw [h])))))
      · exact .inr (.inr (.inr (.inr (.inr (.inl (by rw [h, Int.mul_neg]))))))
      · exact .inr (.inr (.inr (.inr (.inr (.inr (.inl (by rw [h])))))))
      · exact .inr (.inr (.inr (.inr (.inr (.inr (.inr (by rw [h, Int.mul_neg])))))))
    clear sc am bm cm dm tops hz m0 m1 e
    generalize s * m = M at *
    generalize hx : s * a = x at *
    generalize hy : s * b = y at *
    generalize hz' : s * c = z at *
    generalize hu : s * d = u at *
    have qx := sq_bound x 2147483647 (by omega) (by omega)
    have qy := sq_bound y 2147483647 (by omega) (by omega)
    have qz := sq_bound z 2147483647 (by omega) (by omega)
    have qu := sq_bound u 2147483647 (by omega) (by omega)
    have px := sq_nonneg x
    have py := sq_nonneg y
    have pz := sq_nonneg z
    have pu := sq_nonneg u
    have low : 1152921504606846976 ≤ x * x + y * y + z * z + u * u := by
      have g := Int.mul_le_mul (show 1073741824 ≤ M by omega) (show 1073741824 ≤ M by omega) (by omega) (by omega)
      rcases top with h | h | h | h | h | h | h | h <;> rw [h] at g <;> (try simp only [Int.neg_mul_neg] at g) <;> omega
    clear top
    obtain ⟨q, rfl⟩ : ∃ q, k' = q + 59 := ⟨k' - 59, by omega⟩
    obtain ⟨r, er, r0', r1', r2', r3'⟩ := root_f 0 (x * x + y * y + z * z + u * u) (by omega) (by omega) (by omega) (by omega) (q + 54) (by omega)
    have d0 : 1073741824 ≤ r := by
      have := lt_of_sq_lt (a := 1073741824) (b := r + 1) (by omega) (by omega)
      omega
    have d1 : r ≤ 4294967296 := le_of_sq_lt (by omega) (by omega)
    refine ⟨s, r, s1, d0, d1, by rw [hx, hy, hz', hu]; omega, by rw [hx, hy, hz', hu]; omega, ?_⟩
    rw [hx, hy, hz', hu, hf]
    have t0 := l3_step (q + 58) [x, y, z, u] 0 0 0 (by omega) (by rw [l]; omega) (by simp) (by rw [r0]; omega) (by rw [r0]; omega) (by omega) (by omega) (by omega) (by rw [r0]; omega)
    rw [r0, Int.zero_add] at t0
    have t1 := l3_step (q + 57) [x, y, z, u] 0 (x * x) 1 (by omega) (by rw [l]; omega) (by simp) (by rw [r1]; omega) (by rw [r1]; omega) (by omega) (by omega) (by omega) (by rw [r1]; omega)
    rw [r1] at t1
    have t2 := l3_step (q + 56) [x, y, z, u] 0 (x * x + y * y) 2 (by omega) (by rw [l]; omega) (by simp) (by rw [r2]; omega) (by rw [r2]; omega) (by omega) (by omega) (by omega) (by rw [r2]; omega)
    rw [r2] at t2
    have t3 := l3_step (q + 55) [x, y, z, u] 0 (x * x + y * y + z * z) 3 (by omega) (by rw [l]; omega) (by simp) (by rw [r3]; omega) (by rw [r3]; omega) (by omega) (by omega) (by omega) (by rw [r3]; omega)
    rw [r3] at t3
    have t4 := l3_end (q + 54) [x, y, z, u] 0 (x * x + y * y + z * z + u * u)
    rw [er] at t4
    simp only [Option.bind_some] at t4
    rw [wrap64_in r (by omega) (by omega)] at t4
    have u0 := l4_step (q + 53) [x, y, z, u] r 0 (by omega) (by rw [l]; omega) (by simp) (by omega) (by omega) (by rw [r0]; omega) (by rw [r0]; omega)
    rw [r0] at u0
    have u1 := l4_step (q + 52) [shareI x r, y, z, u] r 1 (by omega) (by rw [l]; omega) (by simp) (by omega) (by omega) (by rw [r1]; omega) (by rw [r1]; omega)
    rw [r1] at u1
    have u2 := l4_step (q + 51) [shareI x r, shareI y r, z, u] r 2 (by omega) (by rw [l]; omega) (by simp) (by omega) (by omega) (by rw [r2]; omega) (by rw [r2]; omega)
    rw [r2] at u2
    have u3 := l4_step (q + 50) [shareI x r, shareI y r, shareI z r, u] r 3 (by omega) (by rw [l]; omega) (by simp) (by omega) (by omega) (by rw [r3]; omega) (by rw [r3]; omega)
    rw [r3] at u3
    have u4 := l4_end (q + 49) [shareI x r, shareI y r, shareI z r, shareI u r] r
    exact t0.trans (t1.trans (t2.trans (t3.trans (t4.trans (u0.trans (u1.trans (u2.trans (u3.trans u4))))))))

end Go.Proofs.Ytnadffanmnbfcaa.QUnit
