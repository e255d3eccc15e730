/- The addition theorem of the program's sines, within 15 units. No condition. -/
import Derived.Test.YtngibolpbdncjaaQCirc
namespace Go.Proofs.Ytngibolpbdncjaa.QSums
open Go Go.RowKit Go.Proofs.Ytngibolpbdncjaa.P Go.Proofs.Ytngibolpbdncjaa.QDiv Go.Proofs.Ytngibolpbdncjaa.QFix Go.Proofs.Ytngibolpbdncjaa.QTrig Go.Proofs.Ytngibolpbdncjaa.QCirc Go.Proofs.YtngibolpbdncjaaW.PrintWords Go.Proofs.YtngibolpbdncjaaW.PrintLast Go.Proofs.YtngibolpbdncjaaW.PrintMore

/-! ### the table's nodes around the circle: node i is the sine of 256 i -/
def node (i : Int) : Int := sinI (256 * i)
def slope (i : Int) : Int := node (i + 1) - node i
/-- between two nodes the sine is on the line through them, within half a unit -/
theorem sin_line (i g : Int) (hg0 : 0 ≤ g) (hg : g < 256) : -128 ≤ 256 * sinI (256 * i + g) - (256 * node i + slope i * g) ∧ 256 * sinI (256 * i + g) - (256 * node i + slope i * g) ≤ 128 := by
  -- on the first quarter
  have first : ∀ j h : Int, 0 ≤ j → j < 64 → 0 ≤ h → h ≤ 256 → -128 ≤ 256 * sinFirst (256 * j + h) - (256 * tabAt j + tstep j * h) ∧ 256 * sinFirst (256 * j + h) - (256 * tabAt j + tstep j * h) ≤ 128 := by
    intro j h j0 j1 h0 h1
    by_cases he : h = 256
    · subst he
      rw [show 256 * j + 256 = 256 * (j + 1) + 0 by omega, sinFirst_cell _ 0 (by omega) (by omega), Int.mul_zero]
      have : tabAt (j + 1) = tabAt j + tstep j := by unfold tstep; omega
      omega
    · rw [sinFirst_cell _ h h0 (by omega)]; omega
  have nf : ∀ j : Int, 0 ≤ j → j ≤ 64 → sinFirst (256 * j) = tabAt j := by
    intro j j0 j1
    have := sinFirst_cell j 0 (by omega) (by omega)
    rw [Int.mul_zero, Int.add_zero] at this; omega
  obtain ⟨q, r, hr0, hr1, hi⟩ : ∃ q r : Int, 0 ≤ r ∧ r < 256 ∧ i = 256 * q + r := ⟨i / 256, i % 256, by omega, by omega, by omega⟩
  have n0 : node i = node r := sinI_period _ _ (by omega)
  have n1 : node (i + 1) = node (r + 1) := sinI_period _ _ (by omega)
  have n2 : sinI (256 * i + g) = sinI (256 * r + g) := sinI_period _ _ (by omega)
  unfold slope
  rw [n0, n1, n2]
  by_cases c0 : r < 64
  · have a := first r g hr0 c0 hg0 (by omega)
    have e0 : node r = tabAt r := by unfold node; rw [sinI_quarter _ (by omega) (by omega), nf r hr0 (by omega)]
    have e1 : node (r + 1) = tabAt (r + 1) := by unfold node; rw [sinI_quarter _ (by omega) (by omega), nf _ (by omega) (by omega)]
    have e2 : sinI (256 * r + g) = sinFirst (256 * r + g) := sinI_quarter _ (by omega) (by omega)
    rw [e0, e1, e2]; exact a
  by_cases c1 : r < 128
  · have a := first (127 - r) (256 - g) (by omega) (by omega) (by omega) (by omega)
    have e0 : node r = tabAt (127 - r + 1) := by unfold node; rw [← sinI_mirror, sinI_quarter _ (by omega) (by omega), show 32768 - 256 * r = 256 * (127 - r + 1) by omega, nf _ (by omega) (by omega)]
    have e1 : node (r + 1) = tabAt (127 - r) := by unfold node; rw [← sinI_mirror, sinI_quarter _ (by omega) (by omega), show 32768 - 256 * (r + 1) = 256 * (127 - r) by omega, nf _ (by omega) (by omega)]
    have e2 : sinI (256 * r + g) = sinFirst (256 * (127 - r) + (256 - g)) := by rw [← sinI_mirror, sinI_quarter _ (by omega) (by omega)]; congr 1; omega
    rw [e0, e1, e2]
    unfold tstep at a
    have e3 : (tabAt (127 - r + 1) - tabAt (127 - r)) * (256 - g) = 256 * (tabAt (127 - r + 1) - tabAt (127 - r)) + (tabAt (127 - r) - tabAt (127 - r + 1)) * g := by grind
    rw [e3] at a; omega
  by_cases c2 : r < 192
  · have a := first (r - 128) g (by omega) (by omega) hg0 (by omega)
    have h2 : ∀ z : Int, sinI z = -sinI (z - 32768) := fun z => by rw [← sinI_half]; congr 1; omega
    have e0 : node r = -tabAt (r - 128) := by unfold node; rw [h2, sinI_quarter _ (by omega) (by omega), show 256 * r - 32768 = 256 * (r - 128) by omega, nf _ (by omega) (by omega)]
    have e1 : node (r + 1) = -tabAt (r - 128 + 1) := by unfold node; rw [h2, sinI_quarter _ (by omega) (by omega), show 256 * (r + 1) - 32768 = 256 * (r - 128 + 1) by omega, nf _ (by omega) (by omega)]
    have e2 : sinI (256 * r + g) = -sinFirst (256 * (r - 128) + g) := by rw [h2, sinI_quarter _ (by omega) (by omega)]; congr 2; omega
    rw [e0, e1, e2]
    unfold tstep at a
    have e3 : (-tabAt (r - 128 + 1) - -tabAt (r - 128)) * g = -((tabAt (r - 128 + 1) - tabAt (r - 128)) * g) := by grind
    rw [e3]; omega
  · have a := first (255 - r) (256 - g) (by omega) (by omega) (by omega) (by omega)
    have h2 : ∀ z : Int, sinI z = -sinI (65536 - z) := fun z => by rw [← sinI_neg]; exact sinI_period _ _ (by omega)
    have e0 : node r = -tabAt (255 - r + 1) := by unfold node; rw [h2, sinI_quarter _ (by omega) (by omega), show 65536 - 256 * r = 256 * (255 - r + 1) by omega, nf _ (by omega) (by omega)]
    have e1 : node (r + 1) = -tabAt (255 - r) := by unfold node; rw [h2, sinI_quarter _ (by omega) (by omega), show 65536 - 256 * (r + 1) = 256 * (255 - r) by omega, nf _ (by omega) (by omega)]
    have e2 : sinI (256 * r + g) = -sinFirst (256 * (255 - r) + (256 - g)) := by rw [h2, sinI_quarter _ (by omega) (by omega)]; congr 2; omega
    rw [e0, e1, e2]
    unfold tstep at a
    have e3 : (tabAt (255 - r + 1) - tabAt (255 - r)) * (256 - g) = 256 * (tabAt (255 - r + 1) - tabAt (255 - r)) - (tabAt (255 - r + 1) - tabAt (255 - r)) * g := by grind
    have e4 : (-tabAt (255 - r) - -tabAt (255 - r + 1)) * g = (tabAt (255 - r + 1) - tabAt (255 - r)) * g := by grind
    rw [e3] at a; rw [e4]; omega

/-! ### the nodes as a table, and the two finite checks -/
def nodes : List Int := [0, 1608, 3216, 4821, 6424, 8022, 9616, 11204, 12785, 14359, 15924, 17479, 19024, 20557, 22078, 23586, 25080, 26558, 28020, 29466, 30893, 32303, 33692, 35062, 36410, 37736, 39040,
  40320, 41576, 42806, 44011, 45190, 46341, 47464, 48559, 49624, 50660, 51665, 52639, 53581, 54491, 55368, 56212, 57022, 57798, 58538, 59244, 59914, 60547, 61145, 61705, 62228,
  62714, 63162, 63572, 63944, 64277, 64571, 64827, 65043, 65220, 65358, 65457, 65516, 65536, 65516, 65457, 65358, 65220, 65043, 64827, 64571, 64277, 63944, 63572, 63162, 62714,
  62228, 61705, 61145, 60547, 59914, 59244, 58538, 57798, 57022, 56212, 55368, 54491, 53581, 52639, 51665, 50660, 49624, 48559, 47464, 46341, 45190, 44011, 42806, 41576, 40320,
  39040, 37736, 36410, 35062, 33692, 32303, 30893, 29466, 28020, 26558, 25080, 23586, 22078, 20557, 19024, 17479, 15924, 14359, 12785, 11204, 9616, 8022, 6424, 4821, 3216, 1608, 0,
  -1608, -3216, -4821, -6424, -8022, -9616, -11204, -12785, -14359, -15924, -17479, -19024, -20557, -22078, -23586, -25080, -26558, -28020, -29466, -30893, -32303, -33692, -35062,
  -36410, -37736, -39040, -40320, -41576, -42806, -44011, -45190, -46341, -47464, -48559, -49624, -50660, -51665, -52639, -53581, -54491, -55368, -56212, -57022, -57798, -58538,
  -59244, -59914, -60547, -61145, -61705, -62228, -62714, -63162, -63572, -63944, -64277, -64571, -64827, -65043, -65220, -65358, -65457, -65516, -65536, -65516, -65457, -65358,
  -65220, -65043, -64827, -64571, -64277, -63944, -63572, -63162, -62714, -62228, -61705, -61145, -60547, -59914, -59244, -58538, -57798, -57022, -56212, -55368, -54491, -53581,
  -52639, -51665, -50660, -49624, -48559, -47464, -46341, -45190, -44011, -42806, -41576, -40320, -39040, -37736, -36410, -35062, -33692, -32303, -30893, -29466, -28020, -26558,
  -25080, -23586, -22078, -20557, -19024, -17479, -15924, -14359, -12785, -11204, -9616, -8022, -6424, -4821, -3216, -1608]
def nd (i : Nat) : Int := nodes.getD i 0
theorem node_nd (i : Nat) (h : i < 256) : node (i : Int) = nd i := by
  have hh : ∀ j : Fin 256, node (j.val : Int) = nd j.val := by decide +kernel
  exact hh ⟨i, h⟩
theorem node_period (i : Int) : node (i + 256) = node i := sinI_period _ _ (by omega)
theorem node_half (i : Int) : node (i + 128) = -node i := by unfold node; rw [← sinI_half]; congr 1; omega
/-- at two nodes: what the addition theorem misses, and the product of the slopes -/
def miss (i j : Int) : Int := 65536 * node (i + j) - node i * node (j + 64) - node (i + 64) * node j
def bend (i j : Int) : Int := slope i * slope (j + 64) + slope (i + 64) * slope j
def pairOk (i j : Nat) : Bool :=
  decide ((65536 * nd (i + j) - nd i * nd (j + 64) - nd (i + 64) * nd j ≤ 98633 ∧ -98633 ≤ 65536 * nd (i + j) - nd i * nd (j + 64) - nd (i + 64) * nd j) ∧
    ((nd (i + 1) - nd i) * (nd (j + 65) - nd (j + 64)) + (nd (i + 65) - nd (i + 64)) * (nd (j + 1) - nd j) ≤ 2590276 ∧ -2590276 ≤ (nd (i + 1) - nd i) * (nd (j + 65) - nd (j + 64)) + (nd (i + 65) - nd (i + 64)) * (nd (j + 1) - nd j)))
theorem pairs_all : ((List.range 64).all fun j => (List.range 128).all fun i => pairOk i j) = true := by decide +kernel
def Fine (i j : Int) : Prop := (miss i j ≤ 98633 ∧ -98633 ≤ miss i j) ∧ (bend i j ≤ 2590276 ∧ -2590276 ≤ bend i j)
theorem fine_first (i j : Nat) (hi : i < 128) (hj : j < 64) : Fine i j := by
  have h := List.all_eq_true.1 pairs_all j (List.mem_range.2 hj)
  have h2 := List.all_eq_true.1 h i (List.mem_range.2 hi)
  have h3 := of_decide_eq_true h2
  unfold Fine miss bend slope
  have n : ∀ k : Nat, k < 256 → ∀ x : Int, x = (k : Int) → node x = nd k := fun k hk x hx => by rw [hx]; exact node_nd k hk
  rw [n (i + j) (by omega) ((i : Int) + j) (by omega), n i (by omega) (i : Int) rfl, n (j + 64) (by omega) ((j : Int) + 64) (by omega), n (i + 64) (by omega) ((i : Int) + 64) (by omega), n j (by omega) (j : Int) rfl, n (i + 1) (by omega) ((i : Int) + 1) (by omega), n (j + 65) (by omega) ((j : Int) + 64 + 1) (by omega), n (i + 65) (by omega) ((i : Int) + 64 + 1) (by omega), n (j + 1) (by omega) ((j : Int) + 1) (by omega)]
  exact h3
theorem fine_half (i j : Int) (h : Fine i j) : Fine (i + 128) j := by
  unfold Fine miss bend slope at *
  have e1 : node (i + 128 + j) = -node (i + j) := by rw [← node_half]; congr 1; omega
  have e2 : node (i + 128 + 64) = -node (i + 64) := by rw [← node_half]; congr 1; omega
  have e3 : node (i + 128 + 1) = -node (i + 1) := by rw [← node_half]; congr 1; omega
  have e4 : node (i + 128 + 64 + 1) = -node (i + 64 + 1) := by rw [← node_half]; congr 1; omega
  rw [e1, e2, e3, e4, node_half]
  have f1 : 65536 * -node (i + j) - -node i * node (j + 64) - -node (i + 64) * node j = -(65536 * node (i + j) - node i * node (j + 64) - node (i + 64) * node j) := by grind
  have f2 : (-node (i + 1) - -node i) * (node (j + 64 + 1) - node (j + 64)) + (-node (i + 64 + 1) - -node (i + 64)) * (node (j + 1) - node j) = -((node (i + 1) - node i) * (node (j + 64 + 1) - node (j + 64)) + (node (i + 64 + 1) - node (i + 64)) * (node (j + 1) - node j)) := by grind
  rw [f1, f2]
  omega
theorem fine_quarter (i j : Int) (h : Fine (i + 64) j) : Fine i (j + 64) := by
  unfold Fine miss bend slope at *
  have e1 : node (i + (j + 64)) = node (i + 64 + j) := by congr 1; omega
  have e2 : node (j + 64 + 64) = -node j := by rw [← node_half]; congr 1; omega
  have e3 : node (j + 64 + 64 + 1) = -node (j + 1) := by rw [← node_half]; congr 1; omega
  have e4 : node (i + 64 + 64) = -node i := by rw [← node_half]; congr 1; omega
  have e5 : node (i + 64 + 64 + 1) = -node (i + 1) := by rw [← node_half]; congr 1; omega
  rw [e4, e5] at h
  rw [e1, e2, e3]
  have f1 : 65536 * node (i + 64 + j) - node i * -node j - node (i + 64) * node (j + 64) = 65536 * node (i + 64 + j) - node (i + 64) * node (j + 64) - -node i * node j := by grind
  have f2 : (node (i + 1) - node i) * (-node (j + 1) - -node j) + (node (i + 64 + 1) - node (i + 64)) * (node (j + 64 + 1) - node (j + 64)) = (node (i + 64 + 1) - node (i + 64)) * (node (j + 64 + 1) - node (j + 64)) + (-node (i + 1) - -node i) * (node (j + 1) - node j) := by grind
  rw [f1, f2]
  exact h
theorem fine_all (i j : Int) : Fine i j := by
  have mod_i : ∀ i j : Int, Fine (i % 256) j → Fine i j := by
    intro i j h
    have p : ∀ x y : Int, x % 256 = y % 256 → node x = node y := fun x y h => sinI_period _ _ (by omega)
    unfold Fine miss bend slope at *
    rw [p (i + j) (i % 256 + j) (by omega), p i (i % 256) (by omega), p (i + 64) (i % 256 + 64) (by omega), p (i + 1) (i % 256 + 1) (by omega), p (i + 64 + 1) (i % 256 + 64 + 1) (by omega)]
    exact h
  have mod_j : ∀ i j : Int, Fine i (j % 256) → Fine i j := by
    intro i j h
    have p : ∀ x y : Int, x % 256 = y % 256 → node x = node y := fun x y h => sinI_period _ _ (by omega)
    unfold Fine miss bend slope at *
    rw [p (i + j) (i + j % 256) (by omega), p j (j % 256) (by omega), p (j + 64) (j % 256 + 64) (by omega), p (j + 1) (j % 256 + 1) (by omega), p (j + 64 + 1) (j % 256 + 64 + 1) (by omega)]
    exact h
  have a1 : ∀ i j : Int, 0 ≤ j → j < 64 → Fine i j := by
    intro i j j0 j1
    apply mod_i
    obtain ⟨j, rfl⟩ := Int.eq_ofNat_of_zero_le j0
    by_cases h : i % 256 < 128
    · obtain ⟨m, hm⟩ := Int.eq_ofNat_of_zero_le (show 0 ≤ i % 256 by omega)
      rw [hm]; exact fine_first m j (by omega) (by omega)
    · obtain ⟨m, hm⟩ := Int.eq_ofNat_of_zero_le (show 0 ≤ i % 256 - 128 by omega)
      rw [show i % 256 = (m : Int) + 128 by omega]
      exact fine_half _ _ (fine_first m j (by omega) (by omega))
  have a2 : ∀ i j : Int, 64 ≤ j → j < 128 → Fine i j := by
    intro i j j0 j1
    rw [show j = j - 64 + 64 by omega]
    exact fine_quarter _ _ (a1 _ _ (by omega) (by omega))
  have a3 : ∀ i j : Int, 128 ≤ j → j < 192 → Fine i j := by
    intro i j j0 j1
    rw [show j = j - 64 + 64 by omega]
    exact fine_quarter _ _ (a2 _ _ (by omega) (by omega))
  have a4 : ∀ i j : Int, 192 ≤ j → j < 256 → Fine i j := by
    intro i j j0 j1
    rw [show j = j - 64 + 64 by omega]
    exact fine_quarter _ _ (a3 _ _ (by omega) (by omega))
  apply mod_j
  by_cases c1 : j % 256 < 64
  · exact a1 _ _ (by omega) c1
  by_cases c2 : j % 256 < 128
  · exact a2 _ _ (by omega) c2
  by_cases c3 : j % 256 < 192
  · exact a3 _ _ (by omega) c3
  · exact a4 _ _ (by omega) (by omega)

/-! ### between the nodes -/
theorem sq0 (x : Int) : 0 ≤ x * x := by
  by_cases h : 0 ≤ x
  · exact Int.mul_nonneg h h
  · have := Int.mul_nonneg (show 0 ≤ -x by omega) (show 0 ≤ -x by omega); grind
theorem node_range (i : Int) : -65536 ≤ node i ∧ node i ≤ 65536 := sinI_range _
theorem line_range (i g : Int) (h0 : 0 ≤ g) (h1 : g ≤ 256) : -16777216 ≤ 256 * node i + slope i * g ∧ 256 * node i + slope i * g ≤ 16777216 := by
  have a := node_range i
  have b := node_range (i + 1)
  unfold slope
  have e : 256 * node i + (node (i + 1) - node i) * g = (256 - g) * node i + g * node (i + 1) := by grind
  rw [e]
  have p1 := Int.mul_le_mul_of_nonneg_left a.2 (show 0 ≤ 256 - g by omega)
  have p2 := Int.mul_le_mul_of_nonneg_left b.2 h0
  have p3 := Int.mul_le_mul_of_nonneg_left a.1 (show 0 ≤ 256 - g by omega)
  have p4 := Int.mul_le_mul_of_nonneg_left b.1 h0
  omega
/-- the lines of two angles, of the cosines, and of their sum: the addition theorem, within the nodes' misses and the bend -/
theorem lines_sum (i j g h : Int) (g0 : 0 ≤ g) (g1 : g < 256) (h0 : 0 ≤ h) (h1 : h < 256) :
    ∃ m r : Int, 0 ≤ r ∧ r < 256 ∧ 256 * i + g + (256 * j + h) = 256 * m + r ∧
      16777216 * (256 * node m + slope m * r) - (256 * node i + slope i * g) * (256 * node (j + 64) + slope (j + 64) * h) - (256 * node (i + 64) + slope (i + 64) * g) * (256 * node j + slope j * h) ≤ 48903095296 ∧
      -48903095296 ≤ 16777216 * (256 * node m + slope m * r) - (256 * node i + slope i * g) * (256 * node (j + 64) + slope (j + 64) * h) - (256 * node (i + 64) + slope (i + 64) * g) * (256 * node j + slope j * h) := by
  have f00 := fine_all i j
  have f10 := (fine_all (i + 1) j).1
  have f01 := (fine_all i (j + 1)).1
  have f11 := (fine_all (i + 1) (j + 1)).1
  obtain ⟨f00, fb⟩ := f00
  unfold miss at f00 f10 f01 f11
  unfold bend at fb
  have s1 : i + 1 + j = i + j + 1 := by omega
  have s2 : i + (j + 1) = i + j + 1 := by omega
  have s3 : i + 1 + (j + 1) = i + j + 1 + 1 := by omega
  have s4 : i + 1 + 64 = i + 64 + 1 := by omega
  have s5 : j + 1 + 64 = j + 64 + 1 := by omega
  rw [s1, s4] at f10
  rw [s2, s5] at f01
  rw [s3, s4, s5] at f11
  have gh : ∀ u v : Int, 0 ≤ u → 0 ≤ v → u + v ≤ 256 → 0 ≤ u * v ∧ u * v ≤ 16384 := by
    intro u v u0 v0 huv
    have q := sq0 (u - v)
    have q2 := Int.mul_le_mul (show u + v ≤ 256 from huv) (show u + v ≤ 256 from huv) (by omega) (by omega)
    have e : (u + v) * (u + v) = (u - v) * (u - v) + 4 * (u * v) := by grind
    exact ⟨Int.mul_nonneg u0 v0, by omega⟩
  have bendb : ∀ B w : Int, B ≤ 2590276 → -2590276 ≤ B → 0 ≤ w → w ≤ 16384 → B * w ≤ 2590276 * 16384 ∧ -(2590276 * 16384) ≤ B * w := by
    intro B w b0 b1 w0 w1
    have p1 := Int.mul_le_mul_of_nonneg_right b0 w0
    have p2 := Int.mul_le_mul_of_nonneg_right b1 w0
    omega
  have three : ∀ a b c x y z : Int, 0 ≤ x → 0 ≤ y → 0 ≤ z → x + y + z = 256 → (a ≤ 98633 ∧ -98633 ≤ a) → (b ≤ 98633 ∧ -98633 ≤ b) → (c ≤ 98633 ∧ -98633 ≤ c) → x * a + y * b + z * c ≤ 256 * 98633 ∧ -(256 * 98633) ≤ x * a + y * b + z * c := by
    intro a b c x y z x0 y0 z0 hs ha hb hc
    have p1 := Int.mul_le_mul_of_nonneg_left ha.1 x0
    have p2 := Int.mul_le_mul_of_nonneg_left hb.1 y0
    have p3 := Int.mul_le_mul_of_nonneg_left hc.1 z0
    have p4 := Int.mul_le_mul_of_nonneg_left ha.2 x0
    have p5 := Int.mul_le_mul_of_nonneg_left hb.2 y0
    have p6 := Int.mul_le_mul_of_nonneg_left hc.2 z0
    omega
  by_cases hs : g + h < 256
  · refine ⟨i + j, g + h, by omega, hs, by omega, ?_⟩
    have w := gh g h g0 h0 (by omega)
    have b := bendb _ _ fb.1 fb.2 w.1 w.2
    have t := three _ _ _ (256 - g - h) g h (by omega) g0 h0 (by omega) f00 f10 f01
    have e : 16777216 * (256 * node (i + j) + slope (i + j) * (g + h)) - (256 * node i + slope i * g) * (256 * node (j + 64) + slope (j + 64) * h) - (256 * node (i + 64) + slope (i + 64) * g) * (256 * node j + slope j * h)
        = 256 * ((256 - g - h) * (65536 * node (i + j) - node i * node (j + 64) - node (i + 64) * node j) + g * (65536 * node (i + j + 1) - node (i + 1) * node (j + 64) - node (i + 64 + 1) * node j) + h * (65536 * node (i + j + 1) - node i * node (j + 64 + 1) - node (i + 64) * node (j + 1))) - (slope i * slope (j + 64) + slope (i + 64) * slope j) * (g * h) := by
      unfold slope; grind
    rw [e]; omega
  · refine ⟨i + j + 1, g + h - 256, by omega, by omega, by omega, ?_⟩
    have w := gh (256 - g) (256 - h) (by omega) (by omega) (by omega)
    have b := bendb _ _ fb.1 fb.2 w.1 w.2
    have t := three _ _ _ (g + h - 256) (256 - h) (256 - g) (by omega) (by omega) (by omega) (by omega) f11 f10 f01
    have e : 16777216 * (256 * node (i + j + 1) + slope (i + j + 1) * (g + h - 256)) - (256 * node i + slope i * g) * (256 * node (j + 64) + slope (j + 64) * h) - (256 * node (i + 64) + slope (i + 64) * g) * (256 * node j + slope j * h)
        = 256 * ((g + h - 256) * (65536 * node (i + j + 1 + 1) - node (i + 1) * node (j + 64 + 1) - node (i + 64 + 1) * node (j + 1)) + (256 - h) * (65536 * node (i + j + 1) - node (i + 1) * node (j + 64) - node (i + 64 + 1) * node j) + (256 - g) * (65536 * node (i + j + 1) - node i * node (j + 64 + 1) - node (i + 64) * node (j + 1))) - (slope i * slope (j + 64) + slope (i + 64) * slope j) * ((256 - g) * (256 - h)) := by
      unfold slope; grind
    rw [e]; omega
/-- the addition theorem, exactly: within 15 units -/
theorem sums (a b : Int) : 65536 * sinI (a + b) - sinI a * cosI b - cosI a * sinI b ≤ 983040 ∧ -983040 ≤ 65536 * sinI (a + b) - sinI a * cosI b - cosI a * sinI b := by
  obtain ⟨i, g, rfl, g0, g1⟩ : ∃ i g : Int, a = 256 * i + g ∧ 0 ≤ g ∧ g < 256 := ⟨a / 256, a % 256, by omega, by omega, by omega⟩
  obtain ⟨j, h, rfl, h0, h1⟩ : ∃ i g : Int, b = 256 * i + g ∧ 0 ≤ g ∧ g < 256 := ⟨b / 256, b % 256, by omega, by omega, by omega⟩
  obtain ⟨m, r, r0, r1, hm, u1, u2⟩ := lines_sum i j g h g0 g1 h0 h1
  rw [hm]
  have l1 := sin_line i g g0 g1
  have l2 := sin_line j h h0 h1
  have l3 := sin_line (i + 64) g g0 g1
  have l4 := sin_line (j + 64) h h0 h1
  have l5 := sin_line m r r0 r1
  have c1 : cosI (256 * i + g) = sinI (256 * (i + 64) + g) := by unfold cosI; congr 1; omega
  have c2 : cosI (256 * j + h) = sinI (256 * (j + 64) + h) := by unfold cosI; congr 1; omega
  rw [c1, c2]
  have k1 := line_range i g g0 (by omega)
  have k2 := line_range j h h0 (by omega)
  have k3 := line_range (i + 64) g g0 (by omega)
  have k4 := line_range (j + 64) h h0 (by omega)
  generalize 256 * node i + slope i * g = A at *
  generalize 256 * node j + slope j * h = B at *
  generalize 256 * node (i + 64) + slope (i + 64) * g = C at *
  generalize 256 * node (j + 64) + slope (j + 64) * h = D at *
  generalize 256 * node m + slope m * r = S at *
  generalize sinI (256 * i + g) = a at *
  generalize sinI (256 * j + h) = b at *
  generalize sinI (256 * (i + 64) + g) = c at *
  generalize sinI (256 * (j + 64) + h) = d at *
  generalize sinI (256 * m + r) = s at *
  obtain ⟨ea, hea⟩ : ∃ e, 256 * a = A + e := ⟨256 * a - A, by omega⟩
  obtain ⟨eb, heb⟩ : ∃ e, 256 * b = B + e := ⟨256 * b - B, by omega⟩
  obtain ⟨ec, hec⟩ : ∃ e, 256 * c = C + e := ⟨256 * c - C, by omega⟩
  obtain ⟨ed, hed⟩ : ∃ e, 256 * d = D + e := ⟨256 * d - D, by omega⟩
  have pb : ∀ x y m n : Int, -m ≤ x → x ≤ m → -n ≤ y → y ≤ n → -(m * n) ≤ x * y ∧ x * y ≤ m * n := by
    intro a b m n a0 a1 b0 b1
    have g1 : 0 ≤ (m - a) * (n + b) := Int.mul_nonneg (by omega) (by omega)
    have g2 : 0 ≤ (m + a) * (n - b) := Int.mul_nonneg (by omega) (by omega)
    have g3 : 0 ≤ (m - a) * (n - b) := Int.mul_nonneg (by omega) (by omega)
    have g4 : 0 ≤ (m + a) * (n + b) := Int.mul_nonneg (by omega) (by omega)
    constructor <;> grind
  have p1 := pb A ed 16777216 128 (by omega) (by omega) (by omega) (by omega)
  have p2 := pb D ea 16777216 128 (by omega) (by omega) (by omega) (by omega)
  have p3 := pb C eb 16777216 128 (by omega) (by omega) (by omega) (by omega)
  have p4 := pb B ec 16777216 128 (by omega) (by omega) (by omega) (by omega)
  have p5 := pb ea ed 128 128 (by omega) (by omega) (by omega) (by omega)
  have p6 := pb eb ec 128 128 (by omega) (by omega) (by omega) (by omega)
  have e1 : 65536 * (a * d) = (256 * a) * (256 * d) := by grind
  have e2 : 65536 * (c * b) = (256 * c) * (256 * b) := by grind
  rw [hea, hed] at e1
  rw [hec, heb] at e2
  have e3 : (A + ea) * (D + ed) = A * D + A * ed + D * ea + ea * ed := by grind
  have e4 : (C + ec) * (B + eb) = C * B + C * eb + B * ec + eb * ec := by grind
  omega

end Go.Proofs.Ytngibolpbdncjaa.QSums
