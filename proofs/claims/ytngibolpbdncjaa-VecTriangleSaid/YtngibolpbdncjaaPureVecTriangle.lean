/- The plain statement of VecTriangle: for every input the law's printed function returns true. No condition. -/
import Derived.Test.YtngibolpbdncjaaPAllx7
import Derived.Test.YtngibolpbdncjaaQVec
namespace Go.Proofs.Ytngibolpbdncjaa.Pure
open Go Go.RowKit Go.Proofs.Ytngibolpbdncjaa.P Go.Proofs.Ytngibolpbdncjaa.QDiv Go.Proofs.Ytngibolpbdncjaa.QFix Go.Proofs.Ytngibolpbdncjaa.QRoot Go.Proofs.Ytngibolpbdncjaa.QVec Go.Proofs.YtngibolpbdncjaaW.PrintWords Go.Proofs.YtngibolpbdncjaaW.PrintLast Go.Proofs.YtngibolpbdncjaaW.PrintMore

theorem tri_le (x y z w la lb l : Int) (ha0 : 0 ≤ la) (hb0 : 0 ≤ lb) (ha : x * x + y * y < (la + 1) * (la + 1)) (hb : z * z + w * w < (lb + 1) * (lb + 1)) (hl : l * l ≤ (x + z) * (x + z) + (y + w) * (y + w)) : l ≤ la + lb + 2 := by
  have hc := cauchy x y z w (la + 1) (lb + 1) (by omega) (by omega) ha hb
  have e1 : (x + z) * (x + z) + (y + w) * (y + w) = (x * x + y * y) + (z * z + w * w) + 2 * (x * z + y * w) := by grind
  have e2 : (la + lb + 2) * (la + lb + 2) = (la + 1) * (la + 1) + (lb + 1) * (lb + 1) + 2 * ((la + 1) * (lb + 1)) := by grind
  have := lt_of_sq_lt (a := l) (b := la + lb + 2) (by omega) (by omega)
  omega
theorem VecTriangle : tourkeep1_VecTriangle.Pure := by
  intro a0 a1 a2 a3 _ _ _ _
  have hb : tourkeep1_vecBegun.f 100 = some true := by decide +kernel
  refine ⟨100, ?_⟩
  unfold tourkeep1_VecTriangle.f
  rw [hb]
  simp only [Option.bind_some, if_true]
  obtain ⟨x, y, h1, x0, x1, y0, y1⟩ := small_f a0 a1
  obtain ⟨z, w, h2, z0, z1, w0, w1⟩ := small_f a2 a3
  rw [h1, h2]
  simp only [Option.bind_some]
  obtain ⟨la, e1, la0, la1, la2, la3⟩ := len_f x y 1073741824 (by omega) (by omega) (by omega) (by omega) (by omega) (by omega) 100 (by omega)
  obtain ⟨lb, e2, lb0, lb1, lb2, lb3⟩ := len_f z w 1073741824 (by omega) (by omega) (by omega) (by omega) (by omega) (by omega) 100 (by omega)
  obtain ⟨lc, e3, lc0, lc1, lc2, lc3⟩ := len_f (x + z) (y + w) 2147483648 (by omega) (by omega) (by omega) (by omega) (by omega) (by omega) 100 (by omega)
  obtain ⟨ld, e4, ld0, ld1, ld2, ld3⟩ := len_f (x - z) (y - w) 2147483648 (by omega) (by omega) (by omega) (by omega) (by omega) (by omega) 100 (by omega)
  unfold vec_Add.f vec_Sub.f
  simp only [add_f, sub_f, Option.bind_some]
  rw [clamp_in x (by omega) (by omega), clamp_in y (by omega) (by omega), clamp_in z (by omega) (by omega), clamp_in w (by omega) (by omega), clamp_in (x + z) (by omega) (by omega), clamp_in (y + w) (by omega) (by omega), clamp_in (x - z) (by omega) (by omega), clamp_in (y - w) (by omega) (by omega), e1, e2, e3, e4]
  simp only [Option.bind_some]
  have t1 := tri_le x y z w la lb lc la0 lb0 la3 lb3 lc2
  have t2 := tri_le x y (-z) (-w) la lb ld la0 lb0 la3 (by rw [show -z * -z = z * z by grind, show -w * -w = w * w by grind]; exact lb3) (by rw [show x + -z = x - z by omega, show y + -w = y - w by omega]; exact ld2)
  have qx := sq_nonneg x
  have qy := sq_nonneg y
  have m1 : max x (-x) ≤ la := le_of_sq_lt la0 (by rw [sq_abs]; omega)
  have m2 : max y (-y) ≤ la := le_of_sq_lt la0 (by rw [sq_abs]; omega)
  have m3 : la ≤ max x (-x) + max y (-y) := by
    refine le_of_sq_lt (by omega) ?_
    have e : (max x (-x) + max y (-y) + 1) * (max x (-x) + max y (-y) + 1) = max x (-x) * max x (-x) + max y (-y) * max y (-y) + 2 * (max x (-x) * max y (-y)) + 2 * max x (-x) + 2 * max y (-y) + 1 := by grind
    have p : 0 ≤ max x (-x) * max y (-y) := Int.mul_nonneg (by omega) (by omega)
    rw [sq_abs, sq_abs] at e
    omega
  rw [wrap64_in (la + lb) (by omega) (by omega), wrap64_in (la + lb + 2) (by omega) (by omega), if_pos t1, if_pos t2, wrap64_in (-x) (by omega) (by omega), wrap64_in (-y) (by omega) (by omega), mx_eq, mx_eq, mx_eq, mx_eq, if_pos (by omega), wrap64_in _ (by omega) (by omega), decide_eq_true m3]

end Go.Proofs.Ytngibolpbdncjaa.Pure
