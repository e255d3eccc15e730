/- Functions of this seat in plain Lean and their contracts, written by a turned copy of the kit's print (turns: wip/pr/make.py of this session). No condition. Short rows. -/
import Derived.Test.YtcbahonakhcdpaaPAllx0
namespace Go.Proofs.Ytcbahonakhcdpaa.P
open Go.RowKit Go.Proofs.YtcbahonakhcdpaaW.PrintWords Go.Proofs.YtcbahonakhcdpaaW.PrintLast Go.Proofs.YtcbahonakhcdpaaW.PrintMore
attribute [local go_sem] max2_int min2_int max_two min_two max_three min_three max_four min_four   -- for this text's walks alone
set_option linter.unusedVariables false
set_option linter.unusedSimpArgs false

/-! ### fix_Clamp: function 21 -/
def fix_Clamp.f (a0 : Int) : Option (Int) := some (mn (mx a0 (-1099511627776)) 1099511627776)
set_option maxHeartbeats 8000000 in
set_option maxRecDepth 100000 in
theorem fix_Clamp.calls (a0 : Int) (r : Int) (w : World) (h : fix_Clamp.f a0 = some r) :
  Calls Try.prog 21 #[.int .i64 a0] w fun e w' => e = .returned (.int .i64 r) ∧ Below w.heap.size w w' := by
 have HB := Aside0.mk (Below.refl w.heap.size w)
 have H : (some (mn (mx a0 (-1099511627776)) 1099511627776)) = some r := h
 clear h
 obtain ⟨ji2, hji2⟩ : ∃ j_ : Int, (mx a0 (-1099511627776)) = j_ := ⟨_, rfl⟩
 replace H : (some (mn (ji2) 1099511627776)) = some r := by first | (rw [hji2] at H; exact H) | (simp only [hji2] at H ⊢; exact H)
 have hji2_ : (if a0 < (-1099511627776) then (-1099511627776) else a0) = ji2 := hji2
 obtain ⟨ji3, hji3⟩ : ∃ j_ : Int, (mn (ji2) 1099511627776) = j_ := ⟨_, rfl⟩
 replace H : (some ji3) = some r := by first | (rw [hji3] at H; exact H) | (simp only [hji3] at H ⊢; exact H)
 have hji3_ : (if 1099511627776 < (ji2) then 1099511627776 else (ji2)) = ji3 := hji3
 obtain rfl := Option.some.inj H
 go_enter Try.func21, Try.ntmps21
 go_wp2
 go_ret
 exact ⟨by first | rfl | (simp [errW_none, errW_some] <;> rfl) | (simp only [← hji2, ← hji3]; first | rfl | (simp [errW_none, errW_some] <;> rfl)) | (simp [*, errW_none, errW_some] <;> rfl), by repeat (first | (with_reducible first | exact HB.out | apply below_alloc | apply pw_below_drewN | apply below_drew1) | exact HB.out)⟩

-- NOT PRINTED: function 36 (math_Float64frombits)

-- NOT PRINTED: function 37 (math_IsNaN)

-- NOT PRINTED: function 41 (math_Float64bits)

-- NOT PRINTED: function 39 (math_Abs)

-- NOT PRINTED: function 38 (math_IsInf)

-- NOT PRINTED: function 49 (math_archTrunc)

-- NOT PRINTED: function 53 (math_Copysign)

-- NOT PRINTED: function 50 (math_trunc)

-- NOT PRINTED: function 40 (math_Trunc)

/-! ### border_From: function 22 -/
theorem frombits_run (x : Int) (w : World) : (callFunc 36 #[.int .u64 x]).run Try.prog w = .ok (.value (.float .f64 x.toNat)) w := by kernel_rfl
theorem bits_run (x : Nat) (w : World) : (callFunc 41 #[.float .f64 x]).run Try.prog w = .ok (.value (.int .u64 (x : Int))) w := by kernel_rfl
theorem trunc_run0 (x : Nat) (w : World) : (callFunc 49 #[.float .f64 x]).run Try.prog w = ((Extern.MathFloor.toIntegral "math.archTrunc" .zero #[.float .f64 x]).run Try.prog w).andThen fun v w' => .ok (.value v) w' :=
 run_callFunc_extern (fn := Try.f49) (by kernel_rfl) (by kernel_rfl) (by kernel_rfl) (by kernel_rfl) (by kernel_rfl) _ _
theorem trunc_ext (x : Nat) (s : Bool) (m : Nat) (i : Int) (h : FloatKind.f64.decode x = .number s m i) : Extern.MathFloor.toIntegral "math.archTrunc" .zero #[.float .f64 x] = pure (.float .f64 (FloatKind.f64.encode ((FloatKind.f64.decode x).integral .zero))) := by
 rw [h]
 delta Extern.MathFloor.toIntegral
 show (match FloatKind.f64.decode x with | .nan s t => _ | d => _) = _
 rw [h]
theorem trunc_run (x : Nat) (s : Bool) (m : Nat) (i : Int) (h : FloatKind.f64.decode x = .number s m i) (w : World) : (callFunc 49 #[.float .f64 x]).run Try.prog w = .ok (.value (.float .f64 (FloatKind.f64.encode ((FloatKind.f64.decode x).integral .zero)))) w := by
 rw [trunc_run0, trunc_ext x s m i h]
 rfl
theorem math_IsNaN.calls (x : Nat) (w : World) : Calls Try.prog 37 #[.float .f64 x] w fun e w' => e = .returned (.bool (FloatKind.f64.format.order x x != some .eq)) ∧ w = w' := by
 go_enter Try.func37, Try.ntmps37
 go_wp2
 go_ret
 exact ⟨rfl, rfl⟩
theorem math_Abs.calls (x : Nat) (w : World) : Calls Try.prog 39 #[.float .f64 x] w fun e w' => e = .returned (.float .f64 (Go.bits .andNot .u64 (x : Int) 9223372036854775808).toNat) ∧ w = w' := by
 have h1 := bits_run
 have h2 := frombits_run
 go_enter Try.func39, Try.ntmps39
 go_wp2_with (first | simp only [h1] | simp only [h2])
 go_ret
 exact ⟨rfl, rfl⟩
theorem math_IsInf.calls (x : Nat) (w : World) : Calls Try.prog 38 #[.float .f64 x, .int .i64 0] w fun e w' => e = .returned (.bool (FloatKind.f64.format.order (Go.bits .andNot .u64 (x : Int) 9223372036854775808).toNat 9218868437227405311 == some .gt)) ∧ w = w' := by
 go_enter Try.func38, Try.ntmps38
 go_wp2_with (go_at_call 39; (with_reducible refine (math_Abs.calls _ _).mono ?_); rintro e w' ⟨rfl, rfl⟩)
 go_ret
 exact ⟨rfl, rfl⟩
theorem math_Trunc.calls (x : Nat) (s : Bool) (m : Nat) (i : Int) (h : FloatKind.f64.decode x = .number s m i) (w : World) : Calls Try.prog 40 #[.float .f64 x] w fun e w' => e = .returned (.float .f64 (FloatKind.f64.encode ((FloatKind.f64.decode x).integral .zero))) ∧ w = w' := by
 have h1 := trunc_run x s m i h
 clear h
 go_enter Try.func40, Try.ntmps40
 go_wp2_with (simp only [h1])
 go_ret
 exact ⟨rfl, rfl⟩

def ordd (x y : Nat) : Option Ordering := FloatKind.f64.format.order x y
def absd (x : Nat) : Nat := (Go.bits .andNot .u64 (x : Int) 9223372036854775808).toNat
def truncd (y : Nat) : Nat := FloatKind.f64.encode ((FloatKind.f64.decode y).integral .zero)
def isNum (y : Nat) : Bool := match FloatKind.f64.decode y with | .number .. => true | _ => false
/-- what border.From makes of bits -/
def border_From.f (b : Int) : Option (Int × Int) :=
 if 0 ≤ b then
  if (ordd b.toNat b.toNat != some .eq) = true then some (0, 3)
  else if (ordd (absd b.toNat) 9218868437227405311 == some .gt) = true then some (0, 3)
  else if (ordd (absd b.toNat) 4715268809856909312 == some .gt) = true then some (0, 2)
  else if b = 9223372036854775808 then some (0, 3)
  else (floatBits .mul .f64 b.toNat 4679240012837945344).bind fun y =>
   if isNum y = true then
    if (ordd y (truncd y) != some .eq) = true then some (0, 3)
    else (floatToIntVal .f64 y .i64).bind fun n => some (n, 0)
   else none
 else none
set_option maxHeartbeats 2000000 in
set_option maxRecDepth 100000 in
theorem border_From.calls (a0 : Int) (r1 r2 : Int) (w : World) (h : border_From.f a0 = some (r1, r2)) :
  Calls Try.prog 22 #[.int .u64 a0] w fun e w' => e = .returned (.tuple #[.int .i64 r1, .int .i64 r2]) ∧ Drawn0 w w' := by
 unfold border_From.f at h
 split at h
 case isFalse => cases h
 rename_i h0
 obtain ⟨b, rfl⟩ : ∃ b : Nat, a0 = b := ⟨a0.toNat, by omega⟩
 simp only [Int.toNat_natCast] at h
 have g1 := frombits_run (b : Int)
 simp only [Int.toNat_natCast] at g1
 clear h0
 by_cases c1 : (ordd b b != some .eq) = true
 ·
  rw [if_pos c1] at h
  unfold ordd at c1
  obtain ⟨rfl, rfl⟩ := Prod.mk.inj (Option.some.inj h)
  clear h
  go_enter Try.func22, Try.ntmps22
  go_wp2_with (first | (go_at_call 37; (with_reducible refine (math_IsNaN.calls _ _).mono ?_); rintro e w' ⟨rfl, rfl⟩) | (go_at_call 38; (with_reducible refine (math_IsInf.calls _ _).mono ?_); rintro e w' ⟨rfl, rfl⟩))
  go_ret2
  exact ⟨rfl, Drawn0.refl _⟩
 replace c1 : (ordd b b != some .eq) = false := by simpa using c1
 have c1' : (!(ordd b b == some .eq)) = false := by simpa using c1
 rw [if_neg (by rw [c1]; decide)] at h
 unfold ordd at c1
 by_cases c2 : (ordd (absd b) 9218868437227405311 == some .gt) = true
 ·
  rw [if_pos c2] at h
  unfold ordd absd at c2
  obtain ⟨rfl, rfl⟩ := Prod.mk.inj (Option.some.inj h)
  clear h
  go_enter Try.func22, Try.ntmps22
  go_wp2_with (first | (go_at_call 37; (with_reducible refine (math_IsNaN.calls _ _).mono ?_); rintro e w' ⟨rfl, rfl⟩) | (go_at_call 38; (with_reducible refine (math_IsInf.calls _ _).mono ?_); rintro e w' ⟨rfl, rfl⟩))
  go_ret2
  exact ⟨rfl, by repeat (first | exact Drawn0.refl _ | apply Drawn0.step)⟩
 replace c2 : (ordd (absd b) 9218868437227405311 == some .gt) = false := by simpa using c2
 rw [if_neg (by rw [c2]; decide)] at h
 by_cases c3 : (ordd (absd b) 4715268809856909312 == some .gt) = true
 ·
  rw [if_pos c3] at h
  unfold ordd absd at c2 c3
  obtain ⟨rfl, rfl⟩ := Prod.mk.inj (Option.some.inj h)
  clear h
  go_enter Try.func22, Try.ntmps22
  go_wp2_with (first | (go_at_call 37; (with_reducible refine (math_IsNaN.calls _ _).mono ?_); rintro e w' ⟨rfl, rfl⟩) | (go_at_call 38; (with_reducible refine (math_IsInf.calls _ _).mono ?_); rintro e w' ⟨rfl, rfl⟩) | (go_at_call 39; (with_reducible refine (math_Abs.calls _ _).mono ?_); rintro e w' ⟨rfl, rfl⟩))
  go_ret2
  exact ⟨rfl, by repeat (first | exact Drawn0.refl _ | apply Drawn0.step)⟩
 replace c3 : (ordd (absd b) 4715268809856909312 == some .gt) = false := by simpa using c3
 rw [if_neg (by rw [c3]; decide)] at h
 unfold ordd absd at c2 c3
 by_cases c4 : (b : Int) = 9223372036854775808
 ·
  rw [if_pos c4] at h
  replace c4 : ((b : Int) == 9223372036854775808) = true := by simpa using c4
  obtain ⟨rfl, rfl⟩ := Prod.mk.inj (Option.some.inj h)
  clear h
  go_enter Try.func22, Try.ntmps22
  go_wp2_with (first | (go_at_call 37; (with_reducible refine (math_IsNaN.calls _ _).mono ?_); rintro e w' ⟨rfl, rfl⟩) | (go_at_call 38; (with_reducible refine (math_IsInf.calls _ _).mono ?_); rintro e w' ⟨rfl, rfl⟩) | (go_at_call 39; (with_reducible refine (math_Abs.calls _ _).mono ?_); rintro e w' ⟨rfl, rfl⟩))
  go_ret2
  exact ⟨rfl, by repeat (first | exact Drawn0.refl _ | apply Drawn0.step)⟩
 rw [if_neg c4] at h
 replace c4 : ((b : Int) == 9223372036854775808) = false := by simpa using c4
 obtain ⟨y, hy, h⟩ := Option.bind_eq_some_iff.1 h
 have g2 := fun w : World => run_float_arith (P := Try.prog) w .mul 39 .f64 b 4679240012837945344 y hy
 clear hy
 split at h
 case isFalse => cases h
 rename_i hm
 obtain ⟨s, m, i, hd⟩ : ∃ s m i, FloatKind.f64.decode y = .number s m i := by
  unfold isNum at hm
  cases hq : FloatKind.f64.decode y with
  | number s m i => exact ⟨s, m, i, rfl⟩
  | infinity s => rw [hq] at hm; cases hm
  | nan s t => rw [hq] at hm; cases hm
 replace hd := Aside0.mk hd
 clear hm
 by_cases c5 : (ordd y (truncd y) != some .eq) = true
 ·
  rw [if_pos c5] at h
  unfold ordd truncd at c5
  obtain ⟨rfl, rfl⟩ := Prod.mk.inj (Option.some.inj h)
  clear h
  go_enter Try.func22, Try.ntmps22
  go_wp2_with (first | (go_at_call 37; (with_reducible refine (math_IsNaN.calls _ _).mono ?_); rintro e w' ⟨rfl, rfl⟩) | (go_at_call 38; (with_reducible refine (math_IsInf.calls _ _).mono ?_); rintro e w' ⟨rfl, rfl⟩) | (go_at_call 39; (with_reducible refine (math_Abs.calls _ _).mono ?_); rintro e w' ⟨rfl, rfl⟩) | (go_at_call 40; (with_reducible refine (math_Trunc.calls _ s m i hd.out _).mono ?_); rintro e w' ⟨rfl, rfl⟩))
  go_ret2
  exact ⟨rfl, by repeat (first | exact Drawn0.refl _ | apply Drawn0.step)⟩
 replace c5 : (ordd y (truncd y) != some .eq) = false := by simpa using c5
 rw [if_neg (by rw [c5]; decide)] at h
 unfold ordd truncd at c5
 obtain ⟨n, hn, h⟩ := Option.bind_eq_some_iff.1 h
 obtain ⟨rfl, rfl⟩ := Prod.mk.inj (Option.some.inj h)
 clear h
 have g3 := fun w : World => run_convert_float_int (P := Try.prog) w 39 3 .f64 .i64 y n (by rw [Try.underlying39]; rfl) Try.underlying3 hn
 clear hn
 go_enter Try.func22, Try.ntmps22
 go_wp2_with (first | (go_at_call 37; (with_reducible refine (math_IsNaN.calls _ _).mono ?_); rintro e w' ⟨rfl, rfl⟩) | (go_at_call 38; (with_reducible refine (math_IsInf.calls _ _).mono ?_); rintro e w' ⟨rfl, rfl⟩) | (go_at_call 39; (with_reducible refine (math_Abs.calls _ _).mono ?_); rintro e w' ⟨rfl, rfl⟩) | (go_at_call 40; (with_reducible refine (math_Trunc.calls _ s m i hd.out _).mono ?_); rintro e w' ⟨rfl, rfl⟩))
 go_ret2
 exact ⟨rfl, by repeat (first | exact Drawn0.refl _ | apply Drawn0.step)⟩


/-! ### border_To: function 23 -/
theorem frombits41 (x : Nat) (w : World) : (callFunc 41 #[.float .f64 x]).run Try.prog w = .ok (.value (.int .u64 (x : Int))) w := by kernel_rfl
def border_To.f (a : Int) : Option (Int × Int) := (fix_Clamp.f a).bind fun c =>
 if c = a then (floatBits .quo .f64 (floatOfInt .f64 a) 4679240012837945344).bind fun y => some ((y : Int), 0) else some (0, 2)
set_option maxHeartbeats 2000000 in
set_option maxRecDepth 100000 in
theorem border_To.calls (a0 : Int) (r1 r2 : Int) (w : World) (h : border_To.f a0 = some (r1, r2)) :
  Calls Try.prog 23 #[.int .i64 a0] w fun e w' => e = .returned (.tuple #[.int .u64 r1, .int .i64 r2]) ∧ Below w.heap.size w w' := by
 unfold border_To.f at h
 obtain ⟨c, hc0, h⟩ := Option.bind_eq_some_iff.1 h
 have HB := Aside0.mk (Below.refl w.heap.size w)
 have hc := Aside0.mk hc0
 clear hc0
 by_cases c1 : c = a0
 ·
  rw [if_pos c1] at h
  replace c1 : (c == a0) = true := by simpa using c1
  have c1' : (c != a0) = false := by rw [bne, c1]; rfl
  obtain ⟨y, hy, h⟩ := Option.bind_eq_some_iff.1 h
  obtain ⟨rfl, rfl⟩ := Prod.mk.inj (Option.some.inj h)
  clear h
  have g2 := fun w : World => run_float_arith (P := Try.prog) w .quo 39 .f64 (floatOfInt .f64 a0) 4679240012837945344 y hy
  have g3 := fun w : World => run_convert_int_float (P := Try.prog) w 3 39 .i64 .f64 a0 (by rw [Try.underlying3]; rfl) Try.underlying39
  have g4 := frombits41
  clear hy
  go_enter Try.func23, Try.ntmps23
  go_wp2_with (go_at_call 21; (with_reducible refine (fix_Clamp.calls a0 c _ hc.out).mono ?_); rintro e w' ⟨rfl, hb⟩; have n0_ := Aside0.mk (below_step (by repeat (first | (with_reducible first | exact HB.out | apply below_alloc | apply pw_below_drewN | apply below_drew1) | exact HB.out)) hb); clear HB; have HB := n0_; clear n0_; (try clear hb))
  go_ret2
  exact ⟨rfl, by repeat (first | (with_reducible first | exact HB.out | apply below_alloc | apply pw_below_drewN | apply below_drew1) | exact HB.out)⟩
 ·
  rw [if_neg c1] at h
  replace c1 : (c == a0) = false := by simpa using c1
  have c1' : (c != a0) = true := by rw [bne, c1]; rfl
  obtain ⟨rfl, rfl⟩ := Prod.mk.inj (Option.some.inj h)
  clear h
  go_enter Try.func23, Try.ntmps23
  go_wp2_with (go_at_call 21; (with_reducible refine (fix_Clamp.calls a0 c _ hc.out).mono ?_); rintro e w' ⟨rfl, hb⟩; have n0_ := Aside0.mk (below_step (by repeat (first | (with_reducible first | exact HB.out | apply below_alloc | apply pw_below_drewN | apply below_drew1) | exact HB.out)) hb); clear HB; have HB := n0_; clear n0_; (try clear hb))
  go_ret2
  exact ⟨rfl, by repeat (first | (with_reducible first | exact HB.out | apply below_alloc | apply pw_below_drewN | apply below_drew1) | exact HB.out)⟩

end Go.Proofs.Ytcbahonakhcdpaa.P
