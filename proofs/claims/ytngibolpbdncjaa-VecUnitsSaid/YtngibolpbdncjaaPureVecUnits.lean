/- The plain statement of VecUnits: for every input the law's printed function returns true. No condition. -/
import Derived.Test.YtngibolpbdncjaaPAllx10
import Derived.Test.YtngibolpbdncjaaQVec
namespace Go.Proofs.Ytngibolpbdncjaa.Pure
open Go Go.RowKit Go.Proofs.Ytngibolpbdncjaa.P Go.Proofs.Ytngibolpbdncjaa.QDiv Go.Proofs.Ytngibolpbdncjaa.QFix Go.Proofs.Ytngibolpbdncjaa.QRoot Go.Proofs.Ytngibolpbdncjaa.QVec Go.Proofs.YtngibolpbdncjaaW.PrintWords Go.Proofs.YtngibolpbdncjaaW.PrintLast Go.Proofs.YtngibolpbdncjaaW.PrintMore

theorem tdiv_floor (n d : Int) (hd : 0 < d) (hn : n < 0) : (if Int.tmod n d = 0 then Int.tdiv n d else Int.tdiv n d - 1) = n / d := by
  obtain ⟨m, rfl⟩ : ∃ m, n = -m := ⟨-n, by omega⟩
  rw [Int.neg_tmod, Int.neg_tdiv, Int.tmod_eq_emod_of_nonneg (by omega), Int.tdiv_eq_ediv_of_nonneg (by omega)]
  have h := Int.mul_ediv_add_emod m d
  have h0 := Int.emod_nonneg m (show d ≠ 0 by omega)
  have h1 := Int.emod_lt_of_pos m hd
  generalize m / d = q at *
  generalize m % d = r at *
  split
  · have hr : r = 0 := by omega
    rw [show -m = 0 + d * (-q) by rw [Int.mul_neg]; omega, Int.add_mul_ediv_left _ _ (by omega), Int.zero_ediv]; omega
  · rw [show -m = (d - r) + d * (-q - 1) by rw [Int.mul_sub, Int.mul_neg]; omega, Int.add_mul_ediv_left _ _ (by omega), Int.ediv_eq_zero_of_lt (by omega) (by omega)]; omega
theorem through_f (x l : Int) (hx0 : -1099511627776 ≤ x) (hx1 : x ≤ 1099511627776) (hl0 : 0 < l) (hl1 : l ≤ 2199023255552) : ∃ q, vec_through.f x l = some q ∧ -l ≤ 2 * (l * q) - 2 * (65536 * x) ∧ 2 * (l * q) - 2 * (65536 * x) ≤ l := by
  refine ⟨(2 * x * 65536 + l) / (2 * l), ?_, ?_⟩
  · unfold vec_through.f
    have hq : -9223372036854775807 ≤ (2 * x * 65536 + l) / (2 * l) ∧ (2 * x * 65536 + l) / (2 * l) < 9223372036854775807 := by
      have h := Int.mul_ediv_add_emod (2 * x * 65536 + l) (2 * l)
      have h0 := Int.emod_nonneg (2 * x * 65536 + l) (show 2 * l ≠ 0 by omega)
      have h1 := Int.emod_lt_of_pos (2 * x * 65536 + l) (show 0 < 2 * l by omega)
      generalize (2 * x * 65536 + l) / (2 * l) = q at *
      constructor
      · by_cases c : -9223372036854775807 ≤ q
        · exact c
        · have := Int.mul_le_mul_of_nonneg_left (show q ≤ -9223372036854775808 by omega) (show 0 ≤ 2 * l by omega); omega
      · by_cases c : q < 9223372036854775807
        · exact c
        · have := Int.mul_le_mul_of_nonneg_left (show 9223372036854775807 ≤ q by omega) (show 0 ≤ 2 * l by omega); omega
    rw [wrap64_in (2 * l) (by omega) (by omega), if_neg (by omega), wrap64_in (2 * x) (by omega) (by omega), wrap64_in (2 * x * 65536) (by omega) (by omega), wrap64_in (2 * x * 65536 + l) (by omega) (by omega)]
    by_cases hn : 2 * x * 65536 + l < 0
    · have ht := tdiv_floor (2 * x * 65536 + l) (2 * l) (by omega) hn
      rw [if_pos hn]
      by_cases hz : Int.tmod (2 * x * 65536 + l) (2 * l) = 0
      · rw [if_pos hz] at ht
        rw [if_pos hz, ht, wrap64_in _ (by omega) (by omega)]
      · rw [if_neg hz] at ht
        rw [if_neg hz, show Int.tdiv (2 * x * 65536 + l) (2 * l) = (2 * x * 65536 + l) / (2 * l) + 1 by omega, wrap64_in ((2 * x * 65536 + l) / (2 * l) + 1) (by omega) (by omega), wrap64_in ((2 * x * 65536 + l) / (2 * l) + 1 - 1) (by omega) (by omega)]
        congr 1; omega
    · rw [if_neg hn, Int.tdiv_eq_ediv_of_nonneg (by omega), wrap64_in _ (by omega) (by omega)]
  · have h := Int.mul_ediv_add_emod (2 * x * 65536 + l) (2 * l)
    have h0 := Int.emod_nonneg (2 * x * 65536 + l) (show 2 * l ≠ 0 by omega)
    have h1 := Int.emod_lt_of_pos (2 * x * 65536 + l) (show 0 < 2 * l by omega)
    generalize (2 * x * 65536 + l) / (2 * l) = q at *
    have e : 2 * l * q = 2 * (l * q) := by grind
    omega
theorem unit_loop (d : Nat) : ∀ (k : Nat) (X Y : Int), 100 + d < k → 1 ≤ max (max X (-X)) (max Y (-Y)) → max (max X (-X)) (max Y (-Y)) ≤ 1099511627776 → 1073741824 ≤ max (max X (-X)) (max Y (-Y)) * 2 ^ d →
    ∃ S l u1 u2 : Int, 1 ≤ S ∧ 1073741824 ≤ l ∧ l * l ≤ (S * X) * (S * X) + (S * Y) * (S * Y) ∧ (S * X) * (S * X) + (S * Y) * (S * Y) < (l + 1) * (l + 1) ∧ vec_Unit.l0 k X Y = some (u1, u2) ∧
      (-l ≤ 2 * (l * u1) - 2 * (65536 * (S * X)) ∧ 2 * (l * u1) - 2 * (65536 * (S * X)) ≤ l) ∧ (-l ≤ 2 * (l * u2) - 2 * (65536 * (S * Y)) ∧ 2 * (l * u2) - 2 * (65536 * (S * Y)) ≤ l) := by
  have mag_ : ∀ X Y : Int, max (max X (-X)) (max Y (-Y)) ≤ 1099511627776 → vec_mag.f X = some (max X (-X)) ∧ vec_mag.f Y = some (max Y (-Y)) := fun X Y h => ⟨vmag_f X (by omega) (by omega), vmag_f Y (by omega) (by omega)⟩
  have done_ : ∀ (k : Nat) (X Y : Int), 100 < k → max (max X (-X)) (max Y (-Y)) ≤ 1099511627776 → 1073741824 ≤ max (max X (-X)) (max Y (-Y)) →
      ∃ S l u1 u2 : Int, 1 ≤ S ∧ 1073741824 ≤ l ∧ l * l ≤ (S * X) * (S * X) + (S * Y) * (S * Y) ∧ (S * X) * (S * X) + (S * Y) * (S * Y) < (l + 1) * (l + 1) ∧ vec_Unit.l0 k X Y = some (u1, u2) ∧
      (-l ≤ 2 * (l * u1) - 2 * (65536 * (S * X)) ∧ 2 * (l * u1) - 2 * (65536 * (S * X)) ≤ l) ∧ (-l ≤ 2 * (l * u2) - 2 * (65536 * (S * Y)) ∧ 2 * (l * u2) - 2 * (65536 * (S * Y)) ≤ l) := by
    intro k X Y hk hM hM2
    obtain ⟨k, rfl⟩ : ∃ m, k = m + 1 := ⟨k - 1, by omega⟩
    obtain ⟨m1, m2⟩ := mag_ X Y hM
    obtain ⟨l, e, l0, l1, l2, l3⟩ := length_f X Y (by omega) (by omega) (by omega) (by omega) k (by omega)
    have qx := sq_nonneg X
    have qy := sq_nonneg Y
    have b1 : max X (-X) ≤ l := le_of_sq_lt l0 (by rw [sq_abs]; omega)
    have b2 : max Y (-Y) ≤ l := le_of_sq_lt l0 (by rw [sq_abs]; omega)
    obtain ⟨u1, t1, t2⟩ := through_f X l (by omega) (by omega) (by omega) l1
    obtain ⟨u2, t3, t4⟩ := through_f Y l (by omega) (by omega) (by omega) l1
    refine ⟨1, l, u1, u2, by omega, by omega, by rw [Int.one_mul, Int.one_mul]; exact l2, by rw [Int.one_mul, Int.one_mul]; exact l3, ?_, by rw [Int.one_mul]; exact t2, by rw [Int.one_mul]; exact t4⟩
    simp only [vec_Unit.l0]
    rw [m1, m2]; simp only [Option.bind_some]
    rw [mx_eq, if_neg (by omega), e]; simp only [Option.bind_some]
    rw [t1]; simp only [Option.bind_some]
    rw [t3]; simp only [Option.bind_some]
  induction d with
  | zero =>
    intro k X Y hk h1 hM h2
    exact done_ k X Y (by omega) hM (by simpa using h2)
  | succ d ih =>
    intro k X Y hk h1 hM h2
    by_cases hs : max (max X (-X)) (max Y (-Y)) < 1073741824
    · obtain ⟨k, rfl⟩ : ∃ m, k = m + 1 := ⟨k - 1, by omega⟩
      obtain ⟨m1, m2⟩ := mag_ X Y hM
      have hdbl : max (max (2 * X) (-(2 * X))) (max (2 * Y) (-(2 * Y))) = 2 * max (max X (-X)) (max Y (-Y)) := by omega
      obtain ⟨S, l, u1, u2, a1, a2, a3, a4, a5, a6, a7⟩ := ih k (2 * X) (2 * Y) (by omega) (by omega) (by omega) (by
        have e : (2 : Int) ^ (d + 1) = 2 * 2 ^ d := by rw [Int.pow_succ]; omega
        rw [e] at h2
        rw [hdbl, show ∀ m : Int, 2 * m * 2 ^ d = m * (2 * 2 ^ d) from fun m => by grind]
        exact h2)
      have eX : S * (2 * X) = (2 * S) * X := by grind
      have eY : S * (2 * Y) = (2 * S) * Y := by grind
      rw [eX, eY] at a3 a4
      rw [eX] at a6
      rw [eY] at a7
      refine ⟨2 * S, l, u1, u2, by omega, a2, a3, a4, ?_, a6, a7⟩
      simp only [vec_Unit.l0]
      rw [m1, m2]; simp only [Option.bind_some]
      rw [mx_eq, if_pos hs, wrap64_in (2 * X) (by omega) (by omega), wrap64_in (2 * Y) (by omega) (by omega)]
      exact a5
    · exact done_ k X Y (by omega) hM (by omega)
theorem unit_size (X Y l u1 u2 : Int) (hl : 1073741824 ≤ l) (h1 : l * l ≤ X * X + Y * Y) (h2 : X * X + Y * Y < (l + 1) * (l + 1)) (a1 : -l ≤ 2 * (l * u1) - 2 * (65536 * X)) (a2 : 2 * (l * u1) - 2 * (65536 * X) ≤ l) (b1 : -l ≤ 2 * (l * u2) - 2 * (65536 * Y)) (b2 : 2 * (l * u2) - 2 * (65536 * Y) ≤ l) :
    65534 * 65534 ≤ u1 * u1 + u2 * u2 ∧ u1 * u1 + u2 * u2 < 65539 * 65539 := by
  have qx := sq_nonneg X
  have qy := sq_nonneg Y
  have x1 : max X (-X) ≤ l := le_of_sq_lt (by omega) (by rw [sq_abs]; omega)
  have y1 : max Y (-Y) ≤ l := le_of_sq_lt (by omega) (by rw [sq_abs]; omega)
  generalize he1 : 2 * (l * u1) - 2 * (65536 * X) = e1 at *
  generalize he2 : 2 * (l * u2) - 2 * (65536 * Y) = e2 at *
  have key : 4 * ((l * l) * (u1 * u1 + u2 * u2)) = 17179869184 * (X * X + Y * Y) + 262144 * (X * e1) + 262144 * (Y * e2) + e1 * e1 + e2 * e2 := by
    have c1 : 2 * (l * u1) = 131072 * X + e1 := by omega
    have c2 : 2 * (l * u2) = 131072 * Y + e2 := by omega
    have d1 : (2 * (l * u1)) * (2 * (l * u1)) + (2 * (l * u2)) * (2 * (l * u2)) = 4 * ((l * l) * (u1 * u1 + u2 * u2)) := by grind
    rw [← d1, c1, c2]; grind
  have pb : ∀ a b : Int, -l ≤ a → a ≤ l → -l ≤ b → b ≤ l → -(l * l) ≤ a * b ∧ a * b ≤ l * l := by
    intro a b a0 a1 b0 b1
    have g1 : 0 ≤ (l - a) * (l + b) := Int.mul_nonneg (by omega) (by omega)
    have g2 : 0 ≤ (l + a) * (l - b) := Int.mul_nonneg (by omega) (by omega)
    have g3 : 0 ≤ (l - a) * (l - b) := Int.mul_nonneg (by omega) (by omega)
    have g4 : 0 ≤ (l + a) * (l + b) := Int.mul_nonneg (by omega) (by omega)
    constructor <;> grind
  have p1 := pb X e1 (by omega) (by omega) a1 a2
  have p2 := pb Y e2 (by omega) (by omega) b1 b2
  have p3 := pb e1 e1 a1 a2 a1 a2
  have p4 := pb e2 e2 b1 b2 b1 b2
  have s1 := sq_nonneg e1
  have s2 := sq_nonneg e2
  have el : (l + 1) * (l + 1) = l * l + 2 * l + 1 := by grind
  have ll : 1073741824 * l ≤ l * l := Int.mul_le_mul_of_nonneg_right hl (by omega)
  generalize hU : u1 * u1 + u2 * u2 = U at *
  constructor
  · by_cases c : 65534 * 65534 ≤ U
    · exact c
    · have := Int.mul_le_mul_of_nonneg_left (show U ≤ 65534 * 65534 - 1 by omega) (show 0 ≤ l * l by omega)
      omega
  · by_cases c : U < 65539 * 65539
    · exact c
    · have := Int.mul_le_mul_of_nonneg_left (show 65539 * 65539 ≤ U by omega) (show 0 ≤ l * l by omega)
      omega
theorem VecUnits : tourkeep1_VecUnits.Pure := by
  intro a0 a1 _ _
  have hb : tourkeep1_vecBegun.f 300 = some true := at_rounds tourkeep1_vecBegun.mono (show 100 ≤ 300 by omega) (by decide +kernel)
  refine ⟨300, ?_⟩
  unfold tourkeep1_VecUnits.f
  rw [hb]
  simp only [Option.bind_some, if_true]
  obtain ⟨x, y, h1, x0, x1, y0, y1⟩ := small_f a0 a1
  rw [h1]
  simp only [Option.bind_some]
  unfold vec_Unit.f
  rw [clamp_f, clamp_f]; simp only [Option.bind_some]
  rw [clamp_in x (by omega) (by omega), clamp_in y (by omega) (by omega)]
  by_cases hz : x = 0 ∧ y = 0
  · obtain ⟨rfl, rfl⟩ := hz
    rw [if_pos rfl]
    show ((vec_Unit.j0 (299 + 1) 0 0 true).bind _) = some true
    simp only [vec_Unit.j0, if_true, Option.bind_some]
    rfl
  have hj : (if x = 0 then (vec_Unit.j0 300 x y (y == 0)) else (vec_Unit.j0 300 x y false)) = vec_Unit.l0 299 x y := by
    show (if x = 0 then (vec_Unit.j0 (299 + 1) x y (y == 0)) else (vec_Unit.j0 (299 + 1) x y false)) = _
    simp only [vec_Unit.j0]
    by_cases hx : x = 0
    · have : (y == 0) = false := by simpa using fun h => hz ⟨hx, h⟩
      rw [if_pos hx, this, if_neg (by decide)]
    · rw [if_neg hx, if_neg (by decide)]
  have hzb : (x == 0 && (y == 0)) = false := by
    rw [Bool.eq_false_iff]; intro h
    rw [Bool.and_eq_true, beq_iff_eq, beq_iff_eq] at h
    exact hz h
  rw [hj, hzb]
  obtain ⟨S, l, u1, u2, hS, hl, l2, l3, hu, ⟨a1', a2'⟩, ⟨b1', b2'⟩⟩ := unit_loop 30 299 x y (by omega) (by omega) (by omega) (by omega)
  rw [hu]
  simp only [Option.bind_some, Bool.false_eq_true, if_false]
  obtain ⟨g1, g2⟩ := unit_size (S * x) (S * y) l u1 u2 hl l2 l3 a1' a2' b1' b2'
  have q1 := sq_nonneg u1
  have q2 := sq_nonneg u2
  have m1 : max u1 (-u1) ≤ 65538 := le_of_sq_lt (by omega) (by rw [sq_abs]; omega)
  have m2 : max u2 (-u2) ≤ 65538 := le_of_sq_lt (by omega) (by rw [sq_abs]; omega)
  obtain ⟨lu, e1, lu0, lu1, lu2, lu3⟩ := len_f u1 u2 65538 (by omega) (by omega) (by omega) (by omega) (by omega) (by omega) 300 (by omega)
  rw [e1]; simp only [Option.bind_some]
  have n1 : lu ≤ 65538 := le_of_sq_lt (by omega) (by omega)
  have n2 : 65534 ≤ lu := le_of_sq_lt lu0 (by omega)
  rw [near_f _ _ _ (by omega) (by omega), decide_eq_true (by omega)]
  simp only [Option.bind_some, if_true]
  obtain ⟨la, e2, la0, la1, la2, la3⟩ := len_f x y 1073741824 (by omega) (by omega) (by omega) (by omega) (by omega) (by omega) 300 (by omega)
  rw [e2]; simp only [Option.bind_some]
  have qx := sq_nonneg x
  have qy := sq_nonneg y
  have mx1 : max x (-x) ≤ la := le_of_sq_lt la0 (by rw [sq_abs]; omega)
  have my1 : max y (-y) ≤ la := le_of_sq_lt la0 (by rw [sq_abs]; omega)
  -- the products' sizes
  have pb : ∀ a b : Int, -1073741824 ≤ a → a ≤ 1073741824 → -65538 ≤ b → b ≤ 65538 → -(1073741824 * 65538) ≤ a * b ∧ a * b ≤ 1073741824 * 65538 := by
    intro a b a0 a1 b0 b1
    have g1 : 0 ≤ (1073741824 - a) * (65538 + b) := Int.mul_nonneg (by omega) (by omega)
    have g2 : 0 ≤ (1073741824 + a) * (65538 - b) := Int.mul_nonneg (by omega) (by omega)
    have g3 : 0 ≤ (1073741824 - a) * (65538 - b) := Int.mul_nonneg (by omega) (by omega)
    have g4 : 0 ≤ (1073741824 + a) * (65538 + b) := Int.mul_nonneg (by omega) (by omega)
    constructor <;> grind
  have r1 := pb x u2 x0 x1 (by omega) (by omega)
  have r2 := pb y u1 y0 y1 (by omega) (by omega)
  have r3 := pb x u1 x0 x1 (by omega) (by omega)
  have r4 := pb y u2 y0 y1 (by omega) (by omega)
  have lb : ∀ a e m : Int, 0 ≤ m → max a (-a) ≤ m → -l ≤ e → e ≤ l → -(m * l) ≤ a * e ∧ a * e ≤ m * l := by
    intro a e m m0 a0 e0 e1
    have g1 : 0 ≤ (m - a) * (l + e) := Int.mul_nonneg (by omega) (by omega)
    have g2 : 0 ≤ (m + a) * (l - e) := Int.mul_nonneg (by omega) (by omega)
    have g3 : 0 ≤ (m - a) * (l - e) := Int.mul_nonneg (by omega) (by omega)
    have g4 : 0 ≤ (m + a) * (l + e) := Int.mul_nonneg (by omega) (by omega)
    constructor <;> grind
  have cross : 2 * (l * (x * u2 - y * u1)) = x * (2 * (l * u2) - 2 * (65536 * (S * y))) - y * (2 * (l * u1) - 2 * (65536 * (S * x))) := by grind
  have hc : max (x * u2 - y * u1) (-(x * u2 - y * u1)) ≤ la := by
    have t1 := lb x _ la la0 mx1 b1' b2'
    have t2 := lb y _ la la0 my1 a1' a2'
    have t3 : l * (x * u2 - y * u1) ≤ l * la := by rw [Int.mul_comm l la]; omega
    have t4 : l * (-(x * u2 - y * u1)) ≤ l * la := by rw [Int.mul_comm l la, Int.mul_neg]; omega
    have t5 := Int.le_of_mul_le_mul_left t3 (by omega)
    have t6 := Int.le_of_mul_le_mul_left t4 (by omega)
    omega
  have dot : 2 * (l * (x * u1 + y * u2)) = 131072 * (S * (x * x + y * y)) + x * (2 * (l * u1) - 2 * (65536 * (S * x))) + y * (2 * (l * u2) - 2 * (65536 * (S * y))) := by grind
  have hd : 0 < x * u1 + y * u2 := by
    -- l is at most S times the sum of the coordinates
    have hA0 : 0 ≤ max x (-x) := by omega
    have hB0 : 0 ≤ max y (-y) := by omega
    have t1 := lb x _ _ hA0 (Int.le_refl _) a1' a2'
    have t2 := lb y _ _ hB0 (Int.le_refl _) b1' b2'
    have hsum : l ≤ S * (max x (-x) + max y (-y)) := by
      refine le_of_sq_lt (Int.mul_nonneg (by omega) (by omega)) ?_
      have e : (S * (max x (-x) + max y (-y)) + 1) * (S * (max x (-x) + max y (-y)) + 1) = (S * S) * (max x (-x) * max x (-x)) + (S * S) * (max y (-y) * max y (-y)) + 2 * ((S * S) * (max x (-x) * max y (-y))) + 2 * (S * (max x (-x) + max y (-y))) + 1 := by grind
      rw [e, sq_abs, sq_abs]
      have e2 : (S * x) * (S * x) + (S * y) * (S * y) = (S * S) * (x * x) + (S * S) * (y * y) := by grind
      have g1 : 0 ≤ (S * S) * (max x (-x) * max y (-y)) := Int.mul_nonneg (sq_nonneg S) (Int.mul_nonneg hA0 hB0)
      have g2 : 0 ≤ S * (max x (-x) + max y (-y)) := Int.mul_nonneg (by omega) (by omega)
      omega
    have hN : 1 ≤ x * x + y * y := by
      by_cases hx : x = 0
      · have : 1 ≤ max y (-y) := by omega
        have := Int.mul_le_mul this this (by omega) (by omega)
        rw [sq_abs] at this; omega
      · have : 1 ≤ max x (-x) := by omega
        have := Int.mul_le_mul this this (by omega) (by omega)
        rw [sq_abs] at this; omega
    have g1 : (max x (-x) + max y (-y)) * l ≤ (max x (-x) + max y (-y)) * (S * (max x (-x) + max y (-y))) := Int.mul_le_mul_of_nonneg_left hsum (by omega)
    have g2 : (max x (-x) + max y (-y)) * (S * (max x (-x) + max y (-y))) ≤ 2 * (S * (x * x + y * y)) := by
      have e : (max x (-x) + max y (-y)) * (S * (max x (-x) + max y (-y))) = S * ((max x (-x) + max y (-y)) * (max x (-x) + max y (-y))) := by grind
      have e2 : (max x (-x) + max y (-y)) * (max x (-x) + max y (-y)) + (max x (-x) - max y (-y)) * (max x (-x) - max y (-y)) = 2 * (max x (-x) * max x (-x)) + 2 * (max y (-y) * max y (-y)) := by grind
      rw [sq_abs, sq_abs] at e2
      have s := sq_nonneg (max x (-x) - max y (-y))
      have := Int.mul_le_mul_of_nonneg_left (show (max x (-x) + max y (-y)) * (max x (-x) + max y (-y)) ≤ 2 * (x * x + y * y) by omega) (show 0 ≤ S by omega)
      rw [e]; grind
    have g3 : S * 1 ≤ S * (x * x + y * y) := Int.mul_le_mul_of_nonneg_left hN (by omega)
    have e3 : (max x (-x) + max y (-y)) * l = max x (-x) * l + max y (-y) * l := by grind
    have hpos : 0 < l * (x * u1 + y * u2) := by omega
    by_cases c : 0 < x * u1 + y * u2
    · exact c
    · have := Int.mul_le_mul_of_nonneg_left (show x * u1 + y * u2 ≤ 0 by omega) (show 0 ≤ l by omega)
      rw [Int.mul_zero] at this
      omega
  rw [wrap64_in (x * u2) (by omega) (by omega), wrap64_in (y * u1) (by omega) (by omega), wrap64_in (x * u2 - y * u1) (by omega) (by omega), wrap64_in (-(x * u2 - y * u1)) (by omega) (by omega), mx_eq, wrap64_in (la + 1) (by omega) (by omega), wrap64_in ((la + 1) * 4) (by omega) (by omega), if_pos (by omega), wrap64_in (x * u1) (by omega) (by omega), wrap64_in (y * u2) (by omega) (by omega), wrap64_in _ (by omega) (by omega), decide_eq_true hd]

end Go.Proofs.Ytngibolpbdncjaa.Pure
