/- What the printed functions Unit and Blend of package quat compute, and how far apart two directions lie. Conditions: small numbers, and enough rounds. -/
import Derived.Test.YtnadffanmnbfcaaPAllx13
import Derived.Test.YtnadffanmnbfcaaPAllx14
import Derived.Test.YtnadffanmnbfcaaPAllx12
import Derived.Test.YtnadffanmnbfcaaQUnit4
import Derived.Test.YtnadffanmnbfcaaQOf2
import Derived.Test.YtnadffanmnbfcaaQKeep
namespace Go.Proofs.Ytnadffanmnbfcaa.QBl
open Go Go.RowKit Go.Proofs.Ytnadffanmnbfcaa.P Go.Proofs.Ytnadffanmnbfcaa.QDiv Go.Proofs.Ytnadffanmnbfcaa.QFix Go.Proofs.Ytnadffanmnbfcaa.QRoot Go.Proofs.Ytnadffanmnbfcaa.QVec Go.Proofs.Ytnadffanmnbfcaa.QTrig Go.Proofs.Ytnadffanmnbfcaa.QCirc Go.Proofs.Ytnadffanmnbfcaa.QQuat Go.Proofs.Ytnadffanmnbfcaa.QUnit Go.Proofs.Ytnadffanmnbfcaa.QOf Go.Proofs.Ytnadffanmnbfcaa.QKeep Go.Proofs.YtnadffanmnbfcaaW.PrintWords Go.Proofs.YtnadffanmnbfcaaW.PrintLast Go.Proofs.YtnadffanmnbfcaaW.PrintMore

theorem turner_f (a b c g : Int) (k : Nat) (hk : 300 ≤ k) :
    ∃ p0 p1 p2 p3 : Int, tourkeep1_turner.f k a b c g = some (p0, p1, p2, p3) ∧ (-65536 ≤ p0 ∧ p0 ≤ 65536) ∧ (-65536 ≤ p1 ∧ p1 ≤ 65536) ∧ (-65536 ≤ p2 ∧ p2 ≤ 65536) ∧ (-65536 ≤ p3 ∧ p3 ≤ 65536) ∧
      p0 * p0 + p1 * p1 + p2 * p2 + p3 * p3 - 4294967296 ≤ 1245184 ∧ 4294967296 - (p0 * p0 + p1 * p1 + p2 * p2 + p3 * p3) ≤ 1245184 := by
  have ha := number_range a 1048576 (by omega)
  have hb := number_range b 1048576 (by omega)
  have hc := number_range c 1048576 (by omega)
  obtain ⟨p0, p1, p2, p3, h, rest⟩ := of_f (a % (2 * 1048576 + 1) - 1048576) (b % (2 * 1048576 + 1) - 1048576) (c % (2 * 1048576 + 1) - 1048576) g (by omega) (by omega) (by omega) k hk
  refine ⟨p0, p1, p2, p3, ?_, rest⟩
  unfold tourkeep1_turner.f
  rw [number_f a 1048576 (by omega) (by omega), Option.bind_some, number_f b 1048576 (by omega) (by omega), Option.bind_some, number_f c 1048576 (by omega) (by omega), Option.bind_some, h, Option.bind_some]
theorem square_f (a b c d : Int) (ha : -131072 ≤ a ∧ a ≤ 131072) (hb : -131072 ≤ b ∧ b ≤ 131072) (hc : -131072 ≤ c ∧ c ≤ 131072) (hd : -131072 ≤ d ∧ d ≤ 131072) : tourkeep1_square.f a b c d = some ((a * a + b * b + c * c + d * d) / 65536) := by
  have sa := sq_bound a 131072 ha.1 ha.2
  have sb := sq_bound b 131072 hb.1 hb.2
  have sc := sq_bound c 131072 hc.1 hc.2
  have sd := sq_bound d 131072 hd.1 hd.2
  have na := sq_nonneg a
  have nb := sq_nonneg b
  have nc := sq_nonneg c
  have nd := sq_nonneg d
  unfold tourkeep1_square.f
  rw [wrap64_in (a * a) (by omega) (by omega), wrap64_in (b * b) (by omega) (by omega), wrap64_in (c * c) (by omega) (by omega), wrap64_in (d * d) (by omega) (by omega), wrap64_in (a * a + b * b) (by omega) (by omega), wrap64_in (a * a + b * b + c * c) (by omega) (by omega), wrap64_in (a * a + b * b + c * c + d * d) (by omega) (by omega), Int.tdiv_eq_ediv_of_nonneg (by omega), wrap64_in _ (by omega) (by omega)]
/-- four parts: the sum of their squares -/
theorem parts_norm4 (x y z u d : Int) (hd0 : 1073741824 ≤ d) (h0 : d * d ≤ x * x + y * y + z * z + u * u) (h1 : x * x + y * y + z * z + u * u < (d + 1) * (d + 1)) :
    (-65536 ≤ shareI x d ∧ shareI x d ≤ 65536) ∧ (-65536 ≤ shareI y d ∧ shareI y d ≤ 65536) ∧ (-65536 ≤ shareI z d ∧ shareI z d ≤ 65536) ∧ (-65536 ≤ shareI u d ∧ shareI u d ≤ 65536) ∧
    shareI x d * shareI x d + shareI y d * shareI y d + shareI z d * shareI z d + shareI u d * shareI u d - 4294967296 ≤ 262160 ∧ 4294967296 - (shareI x d * shareI x d + shareI y d * shareI y d + shareI z d * shareI z d + shareI u d * shareI u d) ≤ 262160 := by
  have px := sq_nonneg x
  have py := sq_nonneg y
  have pz := sq_nonneg z
  have pu := sq_nonneg u
  have bx : max x (-x) ≤ d := le_of_sq_lt (by omega) (by rw [sq_abs]; omega)
  have by' : max y (-y) ≤ d := le_of_sq_lt (by omega) (by rw [sq_abs]; omega)
  have bz : max z (-z) ≤ d := le_of_sq_lt (by omega) (by rw [sq_abs]; omega)
  have bu : max u (-u) ≤ d := le_of_sq_lt (by omega) (by rw [sq_abs]; omega)
  obtain ⟨e, he, e0, e1⟩ := share_near x d (by omega)
  obtain ⟨f, hf, f0, f1⟩ := share_near y d (by omega)
  obtain ⟨g, hg, g0, g1⟩ := share_near z d (by omega)
  obtain ⟨h, hh, hh0, hh1⟩ := share_near u d (by omega)
  generalize shareI x d = X at *
  generalize shareI y d = Y at *
  generalize shareI z d = Z at *
  generalize shareI u d = U at *
  have lim : ∀ U n e : Int, 2 * (d * U) = 131072 * n + e → (-d ≤ n ∧ n ≤ d) → (-d ≤ e ∧ e ≤ d) → -65536 ≤ U ∧ U ≤ 65536 := by
    intro U n e h hn he
    constructor
    · by_cases h' : -65536 ≤ U
      · exact h'
      · have := Int.mul_le_mul_of_nonneg_left (show U ≤ -65537 by omega) (show 0 ≤ d by omega); omega
    · by_cases h' : U ≤ 65536
      · exact h'
      · have := Int.mul_le_mul_of_nonneg_left (show 65537 ≤ U by omega) (show 0 ≤ d by omega); omega
  refine ⟨lim X x e he (by omega) (by omega), lim Y y f hf (by omega) (by omega), lim Z z g hg (by omega) (by omega), lim U u h hh (by omega) (by omega), ?_⟩
  have q1 := qprod x e d d (by omega) (by omega) e0 e1
  have q2 := qprod y f d d (by omega) (by omega) f0 f1
  have q3 := qprod z g d d (by omega) (by omega) g0 g1
  have q4 := qprod u h d d (by omega) (by omega) hh0 hh1
  have s1 := sq_bound e d e0 e1
  have s2 := sq_bound f d f0 f1
  have s3 := sq_bound g d g0 g1
  have s4 := sq_bound h d hh0 hh1
  have n1 := sq_nonneg e
  have n2 := sq_nonneg f
  have n3 := sq_nonneg g
  have n4 := sq_nonneg h
  have sqi : ∀ V n e : Int, 2 * (d * V) = 131072 * n + e → 4 * (d * d * (V * V)) = 17179869184 * (n * n) + 262144 * (n * e) + e * e := by
    intro V n e h
    have : (2 * (d * V)) * (2 * (d * V)) = (131072 * n + e) * (131072 * n + e) := by rw [h]
    grind
  have i1 := sqi X x e he
  have i2 := sqi Y y f hf
  have i3 := sqi Z z g hg
  have i3' := sqi U u h hh
  have i4 : d * d * (X * X + Y * Y + Z * Z + U * U) = d * d * (X * X) + d * d * (Y * Y) + d * d * (Z * Z) + d * d * (U * U) := by grind
  have i5 : (d + 1) * (d + 1) = d * d + 2 * d + 1 := by grind
  have i6 : 1073741824 * d ≤ d * d := Int.mul_le_mul_of_nonneg_right hd0 (by omega)
  clear lim sqi he hf hg hh bx by' bz bu
  generalize X * X + Y * Y + Z * Z + U * U = T at *
  constructor
  · by_cases h : T - 4294967296 ≤ 262160
    · exact h
    · have := Int.mul_le_mul_of_nonneg_left (show 4295229457 ≤ T by omega) (show 0 ≤ d * d by omega); omega
  · by_cases h : 4294967296 - T ≤ 262160
    · exact h
    · have := Int.mul_le_mul_of_nonneg_left (show T ≤ 4294705135 by omega) (show 0 ≤ d * d by omega); omega
theorem unit_more {a b c d : Int} {r : Int × Int × Int × Int} {k : Nat} (h : quat_Unit.f k a b c d = some r) : ∀ j, quat_Unit.f (k + j) a b c d = some r := by
  intro j
  induction j with
  | zero => exact h
  | succ j ih => exact quat_Unit.mono a b c d (k + j) r ih
/-- Unit: One for zero; else the numbers through their length, rounded -/
theorem unit_f (a b c d : Int) (ha : -1073741824 ≤ a ∧ a ≤ 1073741824) (hb : -1073741824 ≤ b ∧ b ≤ 1073741824) (hc : -1073741824 ≤ c ∧ c ≤ 1073741824) (hd : -1073741824 ≤ d ∧ d ≤ 1073741824) :
    (a = 0 ∧ b = 0 ∧ c = 0 ∧ d = 0 ∧ ∀ k, 400 ≤ k → quat_Unit.f k a b c d = some (65536, 0, 0, 0)) ∨ ∃ s D : Int, 1 ≤ s ∧ 1073741824 ≤ D ∧ D * D ≤ (s * a) * (s * a) + (s * b) * (s * b) + (s * c) * (s * c) + (s * d) * (s * d) ∧ (s * a) * (s * a) + (s * b) * (s * b) + (s * c) * (s * c) + (s * d) * (s * d) < (D + 1) * (D + 1) ∧
      ∀ k, 400 ≤ k → quat_Unit.f k a b c d = some (shareI (s * a) D, shareI (s * b) D, shareI (s * c) D, shareI (s * d) D) := by
  rcases unit4 a b c d ha hb hc hd 400 (Nat.le_refl _) with ⟨a0, b0, c0, d0, hu⟩ | ⟨s, D, s1, D0, _, S0, S1, hu⟩
  · refine .inl ⟨a0, b0, c0, d0, fun k hk => ?_⟩
    have h : quat_Unit.f 400 a b c d = some (65536, 0, 0, 0) := by
      unfold quat_Unit.f
      rw [hu, Option.bind_some, if_neg (by decide)]
    obtain ⟨j, rfl⟩ : ∃ j, k = 400 + j := ⟨k - 400, by omega⟩
    exact unit_more h j
  · refine .inr ⟨s, D, s1, D0, S0, S1, fun k hk => ?_⟩
    have h : quat_Unit.f 400 a b c d = some (shareI (s * a) D, shareI (s * b) D, shareI (s * c) D, shareI (s * d) D) := by
      unfold quat_Unit.f
      rw [hu, Option.bind_some, if_pos rfl]
      rfl
    obtain ⟨j, rfl⟩ : ∃ j, k = 400 + j := ⟨k - 400, by omega⟩
    exact unit_more h j
theorem unit_sq (a b c d : Int) (ha : -1073741824 ≤ a ∧ a ≤ 1073741824) (hb : -1073741824 ≤ b ∧ b ≤ 1073741824) (hc : -1073741824 ≤ c ∧ c ≤ 1073741824) (hd : -1073741824 ≤ d ∧ d ≤ 1073741824) :
    ∃ x y z u : Int, (∀ k, 400 ≤ k → quat_Unit.f k a b c d = some (x, y, z, u)) ∧ (-65536 ≤ x ∧ x ≤ 65536) ∧ (-65536 ≤ y ∧ y ≤ 65536) ∧ (-65536 ≤ z ∧ z ≤ 65536) ∧ (-65536 ≤ u ∧ u ≤ 65536) ∧
      x * x + y * y + z * z + u * u - 4294967296 ≤ 262160 ∧ 4294967296 - (x * x + y * y + z * z + u * u) ≤ 262160 := by
  rcases unit_f a b c d ha hb hc hd with ⟨_, _, _, _, h⟩ | ⟨s, D, _, D0, S0, S1, h⟩
  · exact ⟨_, _, _, _, h, by omega, by omega, by omega, by omega, by omega, by omega⟩
  · exact ⟨_, _, _, _, h, parts_norm4 _ _ _ _ D D0 S0 S1⟩
/-- the mixture of two numbers: one of Blend's four -/
def mixI (p b t : Int) : Int := mulI p (65536 - t) + mulI b t
theorem mul_b (a b : Int) (ha : -65536 ≤ a ∧ a ≤ 65536) (hb : -65536 ≤ b ∧ b ≤ 65536) : ∃ e : Int, 65536 * mulI a b = a * b + e ∧ -32768 ≤ e ∧ e ≤ 32768 ∧ -65536 ≤ mulI a b ∧ mulI a b ≤ 65536 := share_sin a b ha hb
theorem mulI_one (a : Int) (ha : -65536 ≤ a ∧ a ≤ 65536) : mulI a 65536 = a := by
  unfold mulI
  rw [clamp_in a (by omega) (by omega), clamp_in 65536 (by omega) (by omega), rnd_mul a 65536 (by omega), clamp_in a (by omega) (by omega)]
theorem mulI_zero (a : Int) : mulI a 0 = 0 := by
  unfold mulI
  rw [clamp_in 0 (by omega) (by omega), Int.mul_zero, show (0 : Int) = 0 * 65536 by omega, rnd_mul 0 65536 (by omega), clamp_in 0 (by omega) (by omega)]
  omega
theorem mix_zero (p b : Int) (hp : -65536 ≤ p ∧ p ≤ 65536) : mixI p b 0 = p := by
  unfold mixI; rw [mulI_zero, show (65536 : Int) - 0 = 65536 by omega, mulI_one p hp]; omega
theorem mix_one (p b : Int) (hb : -65536 ≤ b ∧ b ≤ 65536) : mixI p b 65536 = b := by
  unfold mixI; rw [show (65536 : Int) - 65536 = 0 by omega, mulI_zero, mulI_one b hb]; omega
theorem mix_range (p b t : Int) (hp : -65536 ≤ p ∧ p ≤ 65536) (hb : -65536 ≤ b ∧ b ≤ 65536) (ht : 0 ≤ t ∧ t ≤ 65536) : -131072 ≤ mixI p b t ∧ mixI p b t ≤ 131072 := by
  unfold mixI
  obtain ⟨_, _, _, _, a1, a2⟩ := mul_b p (65536 - t) hp (by omega)
  obtain ⟨_, _, _, _, b1, b2⟩ := mul_b b t hb (by omega)
  omega
theorem mix_same (p t : Int) (hp : -65536 ≤ p ∧ p ≤ 65536) (ht : 0 ≤ t ∧ t ≤ 65536) : -1 ≤ mixI p p t - p ∧ mixI p p t - p ≤ 1 := by
  unfold mixI
  obtain ⟨e, a0, a1, a2, _, _⟩ := mul_b p (65536 - t) hp (by omega)
  obtain ⟨f, b0, b1, b2, _, _⟩ := mul_b p t hp (by omega)
  have : p * (65536 - t) = 65536 * p - p * t := by grind
  omega
theorem add_small (a b : Int) (ha : -65536 ≤ a ∧ a ≤ 65536) (hb : -65536 ≤ b ∧ b ≤ 65536) : fix_Add.f a b = some (a + b) := by
  rw [add_f, clamp_in a (by omega) (by omega), clamp_in b (by omega) (by omega), clamp_in _ (by omega) (by omega)]
theorem bind_eta (x : Option (Int × Int × Int × Int)) : (x.bind fun b => some (b.1, b.2.1, b.2.2.1, b.2.2.2)) = x := by cases x <;> rfl
theorem j0_f (t p0 p1 p2 p3 b0 b1 b2 b3 : Int) (ht : 0 ≤ t ∧ t ≤ 65536) (P0 : -65536 ≤ p0 ∧ p0 ≤ 65536) (P1 : -65536 ≤ p1 ∧ p1 ≤ 65536) (P2 : -65536 ≤ p2 ∧ p2 ≤ 65536) (P3 : -65536 ≤ p3 ∧ p3 ≤ 65536)
    (B0 : -65536 ≤ b0 ∧ b0 ≤ 65536) (B1 : -65536 ≤ b1 ∧ b1 ≤ 65536) (B2 : -65536 ≤ b2 ∧ b2 ≤ 65536) (B3 : -65536 ≤ b3 ∧ b3 ≤ 65536) (k : Nat) (hk : 40 ≤ k) :
    quat_Blend.j0 (k + 1) t p0 p1 p2 p3 b0 b1 b2 b3 = quat_Unit.f k (mixI p0 b0 t) (mixI p1 b1 t) (mixI p2 b2 t) (mixI p3 b3 t) := by
  have M : ∀ a s : Int, (-65536 ≤ a ∧ a ≤ 65536) → (0 ≤ s ∧ s ≤ 65536) → -65536 ≤ mulI a s ∧ mulI a s ≤ 65536 := fun a s ha hs => (mul_b a s ha (by omega)).elim fun _ h => h.2.2.2
  rw [quat_Blend.j0, wrap64_in (65536 - t) (by omega) (by omega)]
  simp only [mul_f _ _ k hk, Option.bind_some]
  rw [add_small _ _ (M p0 _ P0 (by omega)) (M b0 _ B0 ht), Option.bind_some, add_small _ _ (M p1 _ P1 (by omega)) (M b1 _ B1 ht), Option.bind_some, add_small _ _ (M p2 _ P2 (by omega)) (M b2 _ B2 ht), Option.bind_some, add_small _ _ (M p3 _ P3 (by omega)) (M b3 _ B3 ht), Option.bind_some]
  exact bind_eta _
def dotI (p0 p1 p2 p3 q0 q1 q2 q3 : Int) : Int := mulI p0 q0 + mulI p1 q1 + mulI p2 q2 + mulI p3 q3
theorem dot_self (p0 p1 p2 p3 : Int) (P0 : -65536 ≤ p0 ∧ p0 ≤ 65536) (P1 : -65536 ≤ p1 ∧ p1 ≤ 65536) (P2 : -65536 ≤ p2 ∧ p2 ≤ 65536) (P3 : -65536 ≤ p3 ∧ p3 ≤ 65536) : ¬ dotI p0 p1 p2 p3 p0 p1 p2 p3 < 0 := by
  unfold dotI
  have N : ∀ a : Int, (-65536 ≤ a ∧ a ≤ 65536) → 0 ≤ mulI a a := by
    intro a ha
    obtain ⟨e, h, h1, h2, _, _⟩ := mul_b a a ha ha
    have := sq_nonneg a
    omega
  have := N p0 P0
  have := N p1 P1
  have := N p2 P2
  have := N p3 P3
  omega
theorem blend_f (t p0 p1 p2 p3 q0 q1 q2 q3 : Int) (P0 : -65536 ≤ p0 ∧ p0 ≤ 65536) (P1 : -65536 ≤ p1 ∧ p1 ≤ 65536) (P2 : -65536 ≤ p2 ∧ p2 ≤ 65536) (P3 : -65536 ≤ p3 ∧ p3 ≤ 65536)
    (Q0 : -65536 ≤ q0 ∧ q0 ≤ 65536) (Q1 : -65536 ≤ q1 ∧ q1 ≤ 65536) (Q2 : -65536 ≤ q2 ∧ q2 ≤ 65536) (Q3 : -65536 ≤ q3 ∧ q3 ≤ 65536) (k : Nat) (hk : 40 ≤ k) :
    quat_Blend.f (k + 1) p0 p1 p2 p3 q0 q1 q2 q3 t = if dotI p0 p1 p2 p3 q0 q1 q2 q3 < 0 then quat_Unit.f k (mixI p0 (-q0) (min (max t 0) 65536)) (mixI p1 (-q1) (min (max t 0) 65536)) (mixI p2 (-q2) (min (max t 0) 65536)) (mixI p3 (-q3) (min (max t 0) 65536))
      else quat_Unit.f k (mixI p0 q0 (min (max t 0) 65536)) (mixI p1 q1 (min (max t 0) 65536)) (mixI p2 q2 (min (max t 0) 65536)) (mixI p3 q3 (min (max t 0) 65536)) := by
  obtain ⟨_, _, _, _, a0, a0'⟩ := mul_b p0 q0 P0 Q0
  obtain ⟨_, _, _, _, a1, a1'⟩ := mul_b p1 q1 P1 Q1
  obtain ⟨_, _, _, _, a2, a2'⟩ := mul_b p2 q2 P2 Q2
  obtain ⟨_, _, _, _, a3, a3'⟩ := mul_b p3 q3 P3 Q3
  have ht : 0 ≤ min (max t 0) 65536 ∧ min (max t 0) 65536 ≤ 65536 := by omega
  unfold quat_Blend.f
  rw [mul_f _ _ (k + 1) (by omega), Option.bind_some, mul_f _ _ (k + 1) (by omega), Option.bind_some, mul_f _ _ (k + 1) (by omega), Option.bind_some, mul_f _ _ (k + 1) (by omega), Option.bind_some, sum4 _ _ _ _ (by omega) (by omega) (by omega) (by omega) (by omega) (by omega) (by omega) (by omega) (k + 1) (by omega), Option.bind_some, mx_eq, mn_eq]
  show (if dotI p0 p1 p2 p3 q0 q1 q2 q3 < 0 then _ else _) = _
  by_cases h : dotI p0 p1 p2 p3 q0 q1 q2 q3 < 0
  · rw [if_pos h, if_pos h, clamp_f, Option.bind_some, clamp_f, Option.bind_some, clamp_f, Option.bind_some, clamp_f, Option.bind_some, clamp_in q0 (by omega) (by omega), clamp_in q1 (by omega) (by omega), clamp_in q2 (by omega) (by omega), clamp_in q3 (by omega) (by omega),
      wrap64_in (-q0) (by omega) (by omega), wrap64_in (-q1) (by omega) (by omega), wrap64_in (-q2) (by omega) (by omega), wrap64_in (-q3) (by omega) (by omega)]
    exact j0_f _ _ _ _ _ _ _ _ _ ht P0 P1 P2 P3 (by omega) (by omega) (by omega) (by omega) k hk
  · rw [if_neg h, if_neg h]
    exact j0_f _ _ _ _ _ _ _ _ _ ht P0 P1 P2 P3 Q0 Q1 Q2 Q3 k hk
/-! ### Two directions that are close -/
theorem root_share (A a P : Int) (hA : 1 ≤ A) (h0 : 4293400000 ≤ P) (h1 : P ≤ 4296500000) (ha : 0 ≤ a) (s0 : a * a ≤ A * A * P) (s1 : A * A * P < (a + 1) * (a + 1)) : 65500 * A ≤ a ∧ a ≤ 65560 * A := by
  have hAA : 0 ≤ A * A := sq_nonneg A
  constructor
  · by_cases h : 65500 * A ≤ a
    · exact h
    · have g := Int.mul_le_mul (show a + 1 ≤ 65500 * A by omega) (show a + 1 ≤ 65500 * A by omega) (by omega) (by omega)
      have g2 := Int.mul_le_mul_of_nonneg_left h0 hAA
      have : 65500 * A * (65500 * A) = 4290250000 * (A * A) := by grind
      omega
  · by_cases h : a ≤ 65560 * A
    · exact h
    · have g := Int.mul_le_mul (show 65560 * A ≤ a by omega) (show 65560 * A ≤ a by omega) (by omega) (by omega)
      have g2 := Int.mul_le_mul_of_nonneg_left h1 hAA
      have : 65560 * A * (65560 * A) = 4298113600 * (A * A) := by grind
      have : 0 < A * A := Int.mul_pos (by omega) (by omega)
      omega
/-- the lengths, brought to one scale -/
theorem scales (A B a b P N : Int) (hA : 1000 ≤ A) (hB : 1000 ≤ B) (ha : 65500 * A ≤ a ∧ a ≤ 65560 * A) (hb : 65500 * B ≤ b ∧ b ≤ 65560 * B) (hPN : P - N ≤ 262190 ∧ N - P ≤ 262190)
    (s0 : a * a ≤ A * A * P) (s1 : A * A * P < (a + 1) * (a + 1)) (t0 : b * b ≤ B * B * N) (t1 : B * B * N < (b + 1) * (b + 1)) :
    100 * (B * a - A * b) ≤ 201 * (A * B) ∧ 100 * (A * b - B * a) ≤ 201 * (A * B) := by
  have hAA : 0 ≤ A * A := sq_nonneg A
  have hBB : 0 ≤ B * B := sq_nonneg B
  have X0 := Int.mul_le_mul_of_nonneg_left ha.1 (show 0 ≤ B by omega)
  have X1 := Int.mul_le_mul_of_nonneg_left ha.2 (show 0 ≤ B by omega)
  have Y0 := Int.mul_le_mul_of_nonneg_left hb.1 (show 0 ≤ A by omega)
  have Y1 := Int.mul_le_mul_of_nonneg_left hb.2 (show 0 ≤ A by omega)
  have e0 := Int.mul_le_mul_of_nonneg_left s0 hBB
  have e1 := Int.mul_le_mul_of_nonneg_left (show A * A * P ≤ a * a + 2 * a + 1 by grind) hBB
  have f0 := Int.mul_le_mul_of_nonneg_left t0 hAA
  have f1 := Int.mul_le_mul_of_nonneg_left (show B * B * N ≤ b * b + 2 * b + 1 by grind) hAA
  -- what the floors leave
  have k0 : B * B * (2 * a + 1) ≤ 1000 * ((A * B) * (A * B)) := by
    have g := Int.mul_le_mul_of_nonneg_left (show 2 * a + 1 ≤ 132 * (1000 * A) by omega) hBB
    have g2 := Int.mul_le_mul_of_nonneg_left (show 1000 * A ≤ A * A by exact Int.mul_le_mul_of_nonneg_right hA (by omega)) hBB
    have : B * B * (132 * (1000 * A)) = 132 * (B * B * (1000 * A)) := by grind
    have : B * B * (A * A) = (A * B) * (A * B) := by grind
    have : 0 ≤ (A * B) * (A * B) := sq_nonneg _
    omega
  have k1 : A * A * (2 * b + 1) ≤ 1000 * ((A * B) * (A * B)) := by
    have g := Int.mul_le_mul_of_nonneg_left (show 2 * b + 1 ≤ 132 * (1000 * B) by omega) hAA
    have g2 := Int.mul_le_mul_of_nonneg_left (show 1000 * B ≤ B * B by exact Int.mul_le_mul_of_nonneg_right hB (by omega)) hAA
    have : A * A * (132 * (1000 * B)) = 132 * (A * A * (1000 * B)) := by grind
    have : A * A * (B * B) = (A * B) * (A * B) := by grind
    have : 0 ≤ (A * B) * (A * B) := sq_nonneg _
    omega
  have c0 : 0 < A * B := Int.mul_pos (by omega) (by omega)
  have x2 : B * B * (a * a) = (B * a) * (B * a) := by grind
  have y2 : A * A * (b * b) = (A * b) * (A * b) := by grind
  have p2 : B * B * (A * A * P) = (A * B) * (A * B) * P := by grind
  have n2 : A * A * (B * B * N) = (A * B) * (A * B) * N := by grind
  have e1' : B * B * (a * a + 2 * a + 1) = B * B * (a * a) + B * B * (2 * a + 1) := by grind
  have f1' : A * A * (b * b + 2 * b + 1) = A * A * (b * b) + A * A * (2 * b + 1) := by grind
  have q0 : (A * B) * (A * B) * P - (A * B) * (A * B) * N ≤ 262190 * ((A * B) * (A * B)) := by
    have := Int.mul_le_mul_of_nonneg_left hPN.1 (sq_nonneg (A * B))
    have : (A * B) * (A * B) * (P - N) = (A * B) * (A * B) * P - (A * B) * (A * B) * N := by grind
    omega
  have q1 : (A * B) * (A * B) * N - (A * B) * (A * B) * P ≤ 262190 * ((A * B) * (A * B)) := by
    have := Int.mul_le_mul_of_nonneg_left hPN.2 (sq_nonneg (A * B))
    have : (A * B) * (A * B) * (N - P) = (A * B) * (A * B) * N - (A * B) * (A * B) * P := by grind
    omega
  have X0' : 65500 * (A * B) ≤ B * a := by have : B * (65500 * A) = 65500 * (A * B) := by grind
                                           omega
  have Y0' : 65500 * (A * B) ≤ A * b := by have : A * (65500 * B) = 65500 * (A * B) := by grind
                                           omega
  clear X0 X1 Y0 Y1 s0 s1 t0 t1 ha hb hPN
  generalize A * B = C at *
  generalize B * a = X at *
  generalize A * b = Y at *
  generalize B * B * (2 * a + 1) = K0 at *
  generalize A * A * (2 * b + 1) = K1 at *
  have d0 : X * X - Y * Y ≤ 263190 * (C * C) := by omega
  have d1 : Y * Y - X * X ≤ 263190 * (C * C) := by omega
  have cc : 0 < C * C := Int.mul_pos c0 c0
  clear e0 e1 f0 f1 k0 k1 x2 y2 p2 n2 e1' f1' q0 q1
  constructor
  · by_cases h : 100 * (X - Y) ≤ 201 * C
    · exact h
    · have g := Int.mul_le_mul (show 201 * C ≤ 100 * (X - Y) by omega) (show 131000 * C ≤ X + Y by omega) (by omega) (by omega)
      have : 201 * C * (131000 * C) = 26331000 * (C * C) := by grind
      have : 100 * (X - Y) * (X + Y) = 100 * (X * X - Y * Y) := by grind
      omega
  · by_cases h : 100 * (Y - X) ≤ 201 * C
    · exact h
    · have g := Int.mul_le_mul (show 201 * C ≤ 100 * (Y - X) by omega) (show 131000 * C ≤ X + Y by omega) (by omega) (by omega)
      have : 201 * C * (131000 * C) = 26331000 * (C * C) := by grind
      have : 100 * (Y - X) * (X + Y) = 100 * (Y * Y - X * X) := by grind
      omega
theorem dir_close (p e X Y C : Int) (hC : 0 < C) (hx0 : 65500 * C ≤ X) (hx1 : X ≤ 65560 * C) (hy0 : 65500 * C ≤ Y) (hXY : 100 * (X - Y) ≤ 201 * C ∧ 100 * (Y - X) ≤ 201 * C) (hp : -65536 ≤ p ∧ p ≤ 65536) (he : -1 ≤ e ∧ e ≤ 1) :
    16384 * (C * ((p + e) * X - p * Y)) < X * Y ∧ -(16384 * (C * ((p + e) * X - p * Y))) < X * Y := by
  have g := qprod p (100 * (X - Y)) 65536 (201 * C) hp.1 hp.2 (by omega) (by omega)
  have hQ : (p + e) * X - p * Y = e * X + p * (X - Y) := by grind
  rw [hQ]
  have ee : -X ≤ e * X ∧ e * X ≤ X := by
    have : e = -1 ∨ e = 0 ∨ e = 1 := by omega
    rcases this with h | h | h <;> rw [h] <;> omega
  have g2 : p * (100 * (X - Y)) = 100 * (p * (X - Y)) := by grind
  have b0 : 100 * (e * X + p * (X - Y)) ≤ 19728736 * C := by omega
  have b1 : -(19728736 * C) ≤ 100 * (e * X + p * (X - Y)) := by omega
  have m0 := Int.mul_le_mul_of_nonneg_left b0 (show 0 ≤ C by omega)
  have m1 := Int.mul_le_mul_of_nonneg_left b1 (show 0 ≤ C by omega)
  have xy := Int.mul_le_mul hx0 hy0 (show 0 ≤ 65500 * C by omega) (by omega)
  have c2 : 0 < C * C := Int.mul_pos hC hC
  have r0 : C * (100 * (e * X + p * (X - Y))) = 100 * (C * (e * X + p * (X - Y))) := by grind
  have r1 : C * (19728736 * C) = 19728736 * (C * C) := by grind
  have r2 : C * -(19728736 * C) = -(19728736 * (C * C)) := by grind
  have r3 : 65500 * C * (65500 * C) = 4290250000 * (C * C) := by grind
  omega
/-- one of the four numbers of two directions -/
theorem share_close (A B a b p e : Int) (hA : 1000 ≤ A) (hB : 1000 ≤ B) (ha : 65500 * A ≤ a ∧ a ≤ 65560 * A) (hb : 65500 * B ≤ b ∧ b ≤ 65560 * B)
    (hXY : 100 * (B * a - A * b) ≤ 201 * (A * B) ∧ 100 * (A * b - B * a) ≤ 201 * (A * B)) (hp : -65536 ≤ p ∧ p ≤ 65536) (he : -1 ≤ e ∧ e ≤ 1) :
    shareI (B * (p + e)) b - shareI (A * p) a ≤ 4 ∧ shareI (A * p) a - shareI (B * (p + e)) b ≤ 4 := by
  have X0 := Int.mul_le_mul_of_nonneg_left ha.1 (show 0 ≤ B by omega)
  have X1 := Int.mul_le_mul_of_nonneg_left ha.2 (show 0 ≤ B by omega)
  have Y0 := Int.mul_le_mul_of_nonneg_left hb.1 (show 0 ≤ A by omega)
  have c1 : B * (65500 * A) = 65500 * (A * B) := by grind
  have c2 : B * (65560 * A) = 65560 * (A * B) := by grind
  have c3 : A * (65500 * B) = 65500 * (A * B) := by grind
  have c0 : 0 < A * B := Int.mul_pos (by omega) (by omega)
  obtain ⟨d0, d1⟩ := dir_close p e (B * a) (A * b) (A * B) c0 (by omega) (by omega) (by omega) hXY hp he
  obtain ⟨f, hf, f0, f1⟩ := share_near (B * (p + e)) b (by omega)
  obtain ⟨g, hg, g0, g1⟩ := share_near (A * p) a (by omega)
  generalize shareI (B * (p + e)) b = s at *
  generalize shareI (A * p) a = u at *
  have ab : 0 < a * b := Int.mul_pos (by omega) (by omega)
  have xy : (B * a) * (A * b) = (A * B) * (a * b) := by grind
  -- 2 a b (s - u) = 131072 Q + a f - b g
  have key : 2 * (a * b * (s - u)) = 131072 * ((p + e) * (B * a) - p * (A * b)) + (a * f - b * g) := by
    have h1 : a * (2 * (b * s)) = a * (131072 * (B * (p + e)) + f) := by rw [hf]
    have h2 : b * (2 * (a * u)) = b * (131072 * (A * p) + g) := by rw [hg]
    grind
  have af := qprod a f a b (by omega) (by omega) f0 f1
  have bg := qprod b g b a (by omega) (by omega) g0 g1
  have ba : b * a = a * b := Int.mul_comm _ _
  generalize (p + e) * (B * a) - p * (A * b) = Q at *
  rw [xy] at d0 d1
  have q0 : 16384 * Q < a * b := by
    by_cases h : 16384 * Q < a * b
    · exact h
    · have := Int.mul_le_mul_of_nonneg_left (show a * b ≤ 16384 * Q by omega) (show 0 ≤ A * B by omega)
      have : A * B * (16384 * Q) = 16384 * (A * B * Q) := by grind
      omega
  have q1 : -(16384 * Q) < a * b := by
    by_cases h : -(16384 * Q) < a * b
    · exact h
    · have := Int.mul_le_mul_of_nonneg_left (show a * b ≤ -(16384 * Q) by omega) (show 0 ≤ A * B by omega)
      have : A * B * -(16384 * Q) = -(16384 * (A * B * Q)) := by grind
      omega
  clear hXY X0 X1 Y0 c1 c2 c3 c0 d0 d1 xy hf hg f0 f1 g0 g1
  constructor
  · by_cases h : s - u ≤ 4
    · exact h
    · have := Int.mul_le_mul_of_nonneg_left (show 5 ≤ s - u by omega) (show 0 ≤ a * b by omega)
      omega
  · by_cases h : u - s ≤ 4
    · exact h
    · have := Int.mul_le_mul_of_nonneg_left (show s - u ≤ -5 by omega) (show 0 ≤ a * b by omega)
      omega

end Go.Proofs.Ytnadffanmnbfcaa.QBl
