/- Functions of this seat in plain Lean and their contracts, written by a turned copy of the kit's print (turns: wip/pr/make.py of this session). No condition. Short rows. -/
import Derived.Test.YtnadffanmnbfcaaPAllx0
namespace Go.Proofs.Ytnadffanmnbfcaa.P
open Go.RowKit Go.Proofs.YtnadffanmnbfcaaW.PrintWords Go.Proofs.YtnadffanmnbfcaaW.PrintLast Go.Proofs.YtnadffanmnbfcaaW.PrintMore
attribute [local go_sem] max2_int min2_int max_two min_two max_three min_three max_four min_four   -- for this text's walks alone
set_option linter.unusedVariables false
set_option linter.unusedSimpArgs false

/-! ### fix_Clamp: function 39 -/
def fix_Clamp.f (a0 : Int) : Option (Int) := some (mn (mx a0 (-1099511627776)) 1099511627776)
set_option maxHeartbeats 8000000 in
set_option maxRecDepth 100000 in
theorem fix_Clamp.calls (a0 : Int) (r : Int) (w : World) (h : fix_Clamp.f a0 = some r) :
  Calls Try.prog 39 #[.int .i64 a0] w fun e w' => e = .returned (.int .i64 r) ∧ Below w.heap.size w w' := by
 have HB := Aside0.mk (Below.refl w.heap.size w)
 have H : (some (mn (mx a0 (-1099511627776)) 1099511627776)) = some r := h
 clear h
 obtain ⟨ji2, hji2⟩ : ∃ j_ : Int, (mx a0 (-1099511627776)) = j_ := ⟨_, rfl⟩
 replace H : (some (mn (ji2) 1099511627776)) = some r := by first | (rw [hji2] at H; exact H) | (simp only [hji2] at H ⊢; exact H)
 have hji2_ : (if a0 < (-1099511627776) then (-1099511627776) else a0) = ji2 := hji2
 obtain ⟨ji3, hji3⟩ : ∃ j_ : Int, (mn (ji2) 1099511627776) = j_ := ⟨_, rfl⟩
 replace H : (some ji3) = some r := by first | (rw [hji3] at H; exact H) | (simp only [hji3] at H ⊢; exact H)
 have hji3_ : (if 1099511627776 < (ji2) then 1099511627776 else (ji2)) = ji3 := hji3
 obtain rfl := Option.some.inj H
 go_enter Try.func39, Try.ntmps39
 go_wp2
 go_ret
 exact ⟨by first | rfl | (simp [errW_none, errW_some] <;> rfl) | (simp only [← hji2, ← hji3]; first | rfl | (simp [errW_none, errW_some] <;> rfl)) | (simp [*, errW_none, errW_some] <;> rfl), by repeat (first | (with_reducible first | exact HB.out | apply below_alloc | apply pw_below_drewN | apply below_drew1) | exact HB.out)⟩

/-! ### vec_mag: function 42 -/
def vec_mag.f (a0 : Int) : Option (Int) := some (IntKind.u64.wrap (mx a0 (wrap64 (-a0))))
set_option maxHeartbeats 8000000 in
set_option maxRecDepth 100000 in
theorem vec_mag.calls (a0 : Int) (r : Int) (w : World) (h : vec_mag.f a0 = some r) :
  Calls Try.prog 42 #[.int .i64 a0] w fun e w' => e = .returned (.int .u64 r) ∧ Below w.heap.size w w' := by
 have HB := Aside0.mk (Below.refl w.heap.size w)
 have H : (some (IntKind.u64.wrap (mx a0 (wrap64 (-a0))))) = some r := h
 clear h
 obtain ⟨ji2, hji2⟩ : ∃ j_ : Int, (mx a0 (wrap64 (-a0))) = j_ := ⟨_, rfl⟩
 replace H : (some (IntKind.u64.wrap (ji2))) = some r := by first | (rw [hji2] at H; exact H) | (simp only [hji2] at H ⊢; exact H)
 have hji2_ : (if a0 < (wrap64 (-a0)) then (wrap64 (-a0)) else a0) = ji2 := hji2
 obtain rfl := Option.some.inj H
 go_enter Try.func42, Try.ntmps42
 go_wp2
 go_ret
 exact ⟨by first | rfl | (simp [errW_none, errW_some] <;> rfl) | (simp only [← hji2]; first | rfl | (simp [errW_none, errW_some] <;> rfl)) | (simp [*, errW_none, errW_some] <;> rfl), by repeat (first | (with_reducible first | exact HB.out | apply below_alloc | apply pw_below_drewN | apply below_drew1) | exact HB.out)⟩

/-! ### bits_Mul64: function 49 -/
def bits_Mul64.f (a0 : Int) (a1 : Int) : Option (Int × Int) := some (IntKind.u64.wrap ((IntKind.u64.wrap ((IntKind.u64.wrap ((a0 / 4294967296) * (a1 / 4294967296))) + ((IntKind.u64.wrap ((IntKind.u64.wrap ((a0 / 4294967296) * (Go.bits .and .u64 a1 4294967295))) + ((IntKind.u64.wrap ((Go.bits .and .u64 a0 4294967295) * (Go.bits .and .u64 a1 4294967295))) / 4294967296))) / 4294967296))) + ((IntKind.u64.wrap ((Go.bits .and .u64 (IntKind.u64.wrap ((IntKind.u64.wrap ((a0 / 4294967296) * (Go.bits .and .u64 a1 4294967295))) + ((IntKind.u64.wrap ((Go.bits .and .u64 a0 4294967295) * (Go.bits .and .u64 a1 4294967295))) / 4294967296))) 4294967295) + (IntKind.u64.wrap ((Go.bits .and .u64 a0 4294967295) * (a1 / 4294967296))))) / 4294967296)), IntKind.u64.wrap (a0 * a1))
set_option maxHeartbeats 8000000 in
set_option maxRecDepth 100000 in
theorem bits_Mul64.calls (a0 : Int) (a1 : Int) (r1 : Int) (r2 : Int) (w : World) (h : bits_Mul64.f a0 a1 = some (r1, r2)) :
  Calls Try.prog 49 #[.int .u64 a0, .int .u64 a1] w fun e w' => e = .returned (.tuple #[.int .u64 r1, .int .u64 r2]) ∧ Drawn0 w w' := by
 have H : (some (IntKind.u64.wrap ((IntKind.u64.wrap ((IntKind.u64.wrap ((a0 / 4294967296) * (a1 / 4294967296))) + ((IntKind.u64.wrap ((IntKind.u64.wrap ((a0 / 4294967296) * (Go.bits .and .u64 a1 4294967295))) + ((IntKind.u64.wrap ((Go.bits .and .u64 a0 4294967295) * (Go.bits .and .u64 a1 4294967295))) / 4294967296))) / 4294967296))) + ((IntKind.u64.wrap ((Go.bits .and .u64 (IntKind.u64.wrap ((IntKind.u64.wrap ((a0 / 4294967296) * (Go.bits .and .u64 a1 4294967295))) + ((IntKind.u64.wrap ((Go.bits .and .u64 a0 4294967295) * (Go.bits .and .u64 a1 4294967295))) / 4294967296))) 4294967295) + (IntKind.u64.wrap ((Go.bits .and .u64 a0 4294967295) * (a1 / 4294967296))))) / 4294967296)), IntKind.u64.wrap (a0 * a1))) = some (r1, r2) := h
 clear h
 simp only [Option.some.injEq, Prod.mk.injEq] at H
 obtain ⟨rfl, rfl⟩ := H
 go_enter Try.func49, Try.ntmps49
 go_wp2
 go_ret2
 exact ⟨by first | rfl | (simp; done) | (simp [*]; done), by repeat (first | exact Drawn0.refl _ | apply Drawn0.step)⟩

/-! ### bits_Add64: function 50 -/
def bits_Add64.f (a0 a1 a2 : Int) : Option (Int × Int) := if 0 ≤ a0 ∧ 0 ≤ a1 ∧ 0 ≤ a2 ∧ a2 ≤ 1 then some ((a0 + a1 + a2) % 18446744073709551616, (a0 + a1 + a2) / 18446744073709551616) else none
theorem bits_Add64.run (a0 a1 a2 r1 r2 : Int) (h : bits_Add64.f a0 a1 a2 = some (r1, r2)) (w : World) : (callFunc 50 #[.int .u64 a0, .int .u64 a1, .int .u64 a2]).run Try.prog w = .ok (.value (.tuple #[.int .u64 r1, .int .u64 r2])) w := by
 unfold bits_Add64.f at h
 split at h
 ·
  rename_i hh
  obtain ⟨h0, h1, h2, h3⟩ := hh
  simp only [Option.some.injEq, Prod.mk.injEq] at h
  obtain ⟨rfl, rfl⟩ := h
  obtain rfl | rfl : a2 = 0 ∨ a2 = 1 := by omega
  ·
   have h : (callFunc 50 #[.int .u64 a0, .int .u64 a1, .int .u64 0]).run Try.prog w = .ok (.value (.tuple #[.int .u64 (Int.ofNat ((a0.toNat + a1.toNat + 0) % 18446744073709551616)), .int .u64 (Int.ofNat ((a0.toNat + a1.toNat + 0) / 18446744073709551616))])) w := by kernel_rfl
   rw [h]
   have e1 : Int.ofNat ((a0.toNat + a1.toNat + 0) % 18446744073709551616) = (a0 + a1 + 0) % 18446744073709551616 := by show (((a0.toNat + a1.toNat + 0) % 18446744073709551616 : Nat) : Int) = _; omega
   have e2 : Int.ofNat ((a0.toNat + a1.toNat + 0) / 18446744073709551616) = (a0 + a1 + 0) / 18446744073709551616 := by show (((a0.toNat + a1.toNat + 0) / 18446744073709551616 : Nat) : Int) = _; omega
   rw [e1, e2]
  ·
   have h : (callFunc 50 #[.int .u64 a0, .int .u64 a1, .int .u64 1]).run Try.prog w = .ok (.value (.tuple #[.int .u64 (Int.ofNat ((a0.toNat + a1.toNat + 1) % 18446744073709551616)), .int .u64 (Int.ofNat ((a0.toNat + a1.toNat + 1) / 18446744073709551616))])) w := by kernel_rfl
   rw [h]
   have e1 : Int.ofNat ((a0.toNat + a1.toNat + 1) % 18446744073709551616) = (a0 + a1 + 1) % 18446744073709551616 := by show (((a0.toNat + a1.toNat + 1) % 18446744073709551616 : Nat) : Int) = _; omega
   have e2 : Int.ofNat ((a0.toNat + a1.toNat + 1) / 18446744073709551616) = (a0 + a1 + 1) / 18446744073709551616 := by show (((a0.toNat + a1.toNat + 1) / 18446744073709551616 : Nat) : Int) = _; omega
   rw [e1, e2]
 ·
  cases h

/-! ### fix_Root: function 51 -/
def fix_Root.l0 : Nat → Int → Int → Int → Int → Option (Int)
 | 0, _, _, _, _ => none
 | k + 1, x0, x1, x5, x6 => if x6 > 0 then ((bits_Mul64.f (Go.bits .or .u64 x5 x6) (Go.bits .or .u64 x5 x6)).bind fun bt101 => (if bt101.1 < x0 then (fix_Root.l0 k x0 x1 (Go.bits .or .u64 x5 x6) (x6 / 2)) else (if bt101.1 = x0 then (if bt101.2 ≤ x1 then (fix_Root.l0 k x0 x1 (Go.bits .or .u64 x5 x6) (x6 / 2)) else (fix_Root.l0 k x0 x1 x5 (x6 / 2))) else (fix_Root.l0 k x0 x1 x5 (x6 / 2))))) else (some x5)
def fix_Root.f (k : Nat) (a0 : Int) (a1 : Int) : Option (Int) := fix_Root.l0 k a0 a1 0 9223372036854775808
theorem fix_Root.mono_l : ∀ k, (∀ y0 y1 y2 y3, LeO (fix_Root.l0 k y0 y1 y2 y3) (fix_Root.l0 (k + 1) y0 y1 y2 y3))
 | 0 => fun _ _ _ _ r h => by simp [fix_Root.l0] at h
 | k + 1 => by
  have ih0 := fix_Root.mono_l k
  ·
   intro y0 y1 y2 y3
   unfold fix_Root.l0
   repeat' first
   | (with_reducible exact ih0 _ _ _ _)
   | (with_reducible exact LeO.refl _)
   | (with_reducible exact LeO.none _)
   | (with_reducible refine LeO.ite ?_ ?_)
   | (with_reducible refine LeO.bind ?_ (fun _ => ?_))
   | exact ih0 _ _ _ _
   | exact LeO.none _
   | refine LeO.ite ?_ ?_
   | refine LeO.bind ?_ (fun _ => ?_)
theorem fix_Root.mono : ∀ a0 a1 k, LeO (fix_Root.f k a0 a1) (fix_Root.f (k + 1) a0 a1) := by
 intro a0 a1 k
 have ih0 := fix_Root.mono_l k
 unfold fix_Root.f
 repeat' first
   | (with_reducible exact ih0 _ _ _ _)
   | (with_reducible exact LeO.refl _)
   | (with_reducible exact LeO.none _)
   | (with_reducible refine LeO.ite ?_ ?_)
   | (with_reducible refine LeO.bind ?_ (fun _ => ?_))
   | exact ih0 _ _ _ _
   | exact LeO.none _
   | refine LeO.ite ?_ ?_
   | refine LeO.bind ?_ (fun _ => ?_)
set_option maxHeartbeats 8000000 in
set_option maxRecDepth 100000 in
theorem fix_Root.calls (k : Nat) (a0 : Int) (a1 : Int) (r : Int) (w : World) (h : fix_Root.f k a0 a1 = some r) :
  Calls Try.prog 51 #[.int .u64 a0, .int .u64 a1] w fun e w' => e = .returned (.int .u64 r) ∧ Drawn0 w w' := by
 have H : (fix_Root.l0 k a0 a1 0 9223372036854775808) = some r := h
 clear h
 have H' := Aside0.mk H
 clear H
 go_enter Try.func51, Try.ntmps51
 go_wp2
 go_loopg [5, 6] k (fun kq v5 v6 w' => ∃ (x5_1 : Int) (x6_1 : Int), v5 = .int .u64 x5_1 ∧ v6 = .int .u64 x6_1 ∧ Aside0 (fix_Root.l0 kq a0 a1 x5_1 x6_1 = some r) ∧ Aside0 (kq ≤ k) ∧ Drawn0 w w')
 case atStart => exact ⟨(0), (9223372036854775808), (by first | rfl | (simp; done) | (simp [*]; done)), (by first | rfl | (simp; done) | (simp [*]; done)), H', ⟨Nat.le_refl _⟩, by repeat (first | exact Drawn0.refl _ | apply Drawn0.step)⟩
 case round =>
  clear H'
  try clear p2
  obtain ⟨x5_1, x6_1, rfl, rfl, HA, HK1, ⟨m1, rfl⟩⟩ := hrel
  cases gk with
  | zero => exact absurd HA.out (by simp [fix_Root.l0])
  | succ k1 =>
   have H := HA.out
   clear HA
   simp only [fix_Root.l0] at H
   by_cases c3 : x6_1 > 0
   ·
    rw [if_pos c3] at H
    have c3b0 : decide (0 < x6_1) = true := decide_eq_true c3
    clear c3
    replace H := Option.bind_eq_some_iff.mp H
    obtain ⟨⟨t101, t102⟩, A40, H⟩ := H
    replace H : (if t101 < a0 then (fix_Root.l0 k1 a0 a1 (Go.bits .or .u64 x5_1 x6_1) (x6_1 / 2)) else (if t101 = a0 then (if t102 ≤ a1 then (fix_Root.l0 k1 a0 a1 (Go.bits .or .u64 x5_1 x6_1) (x6_1 / 2)) else (fix_Root.l0 k1 a0 a1 x5_1 (x6_1 / 2))) else (fix_Root.l0 k1 a0 a1 x5_1 (x6_1 / 2)))) = some r := H
    have A4 := Aside0.mk A40
    clear A40
    by_cases c5 : t101 < a0
    ·
     rw [if_pos c5] at H
     have c5b0 : decide (t101 < a0) = true := decide_eq_true c5
     clear c5
     have H' := Aside0.mk H
     clear H
     go_wp2_with (first | ((with_reducible refine gate_callee (f := 49) rfl ?_); refine goesL_ (some 20) rfl rfl Try.func49 (by kernel_rfl) rfl #[.int .u64 (Go.bits .or .u64 x5_1 x6_1), .int .u64 (Go.bits .or .u64 x5_1 x6_1)] rfl (by (try simp only [List.map_toArray, List.map_cons, List.map_nil]); first | done | rfl | (simp only [List.length_drop, List.length_take]; rfl)) ?_; (with_reducible refine (bits_Mul64.calls (Go.bits .or .u64 x5_1 x6_1) (Go.bits .or .u64 x5_1 x6_1) t101 t102 _ A4.out).mono ?_); rintro e w' ⟨rfl, ⟨nd, rfl⟩⟩; refine ⟨_, rfl, ?_⟩))
     go_roundg k1
     case measure => have := HK1.out; omega
     case rel => exact ⟨(Go.bits .or .u64 x5_1 x6_1), (x6_1 / 2), (by first | rfl | (simp; done) | (simp [*]; done)), (by first | rfl | (simp; done) | (simp [*]; done)), H', ⟨by have := HK1.out; omega⟩, by repeat (first | exact Drawn0.refl _ | apply Drawn0.step)⟩
    ·
     rw [if_neg c5] at H
     have c5b0 : decide (t101 < a0) = false := decide_eq_false c5
     clear c5
     by_cases c6 : t101 = a0
     ·
      rw [if_pos c6] at H
      have c6b0 : (t101 == a0) = true := beq_iff_eq.mpr c6
      have c6b1 : (t101 != a0) = false := bne_eq_false_iff_eq.mpr c6
      clear c6
      by_cases c7 : t102 ≤ a1
      ·
       rw [if_pos c7] at H
       have c7b0 : decide (t102 ≤ a1) = true := decide_eq_true c7
       clear c7
       have H' := Aside0.mk H
       clear H
       go_wp2_with (first | ((with_reducible refine gate_callee (f := 49) rfl ?_); refine goesL_ (some 20) rfl rfl Try.func49 (by kernel_rfl) rfl #[.int .u64 (Go.bits .or .u64 x5_1 x6_1), .int .u64 (Go.bits .or .u64 x5_1 x6_1)] rfl (by (try simp only [List.map_toArray, List.map_cons, List.map_nil]); first | done | rfl | (simp only [List.length_drop, List.length_take]; rfl)) ?_; (with_reducible refine (bits_Mul64.calls (Go.bits .or .u64 x5_1 x6_1) (Go.bits .or .u64 x5_1 x6_1) t101 t102 _ A4.out).mono ?_); rintro e w' ⟨rfl, ⟨nd, rfl⟩⟩; refine ⟨_, rfl, ?_⟩))
       go_roundg k1
       case measure => have := HK1.out; omega
       case rel => exact ⟨(Go.bits .or .u64 x5_1 x6_1), (x6_1 / 2), (by first | rfl | (simp; done) | (simp [*]; done)), (by first | rfl | (simp; done) | (simp [*]; done)), H', ⟨by have := HK1.out; omega⟩, by repeat (first | exact Drawn0.refl _ | apply Drawn0.step)⟩
      ·
       rw [if_neg c7] at H
       have c7b0 : decide (t102 ≤ a1) = false := decide_eq_false c7
       clear c7
       have H' := Aside0.mk H
       clear H
       go_wp2_with (first | ((with_reducible refine gate_callee (f := 49) rfl ?_); refine goesL_ (some 20) rfl rfl Try.func49 (by kernel_rfl) rfl #[.int .u64 (Go.bits .or .u64 x5_1 x6_1), .int .u64 (Go.bits .or .u64 x5_1 x6_1)] rfl (by (try simp only [List.map_toArray, List.map_cons, List.map_nil]); first | done | rfl | (simp only [List.length_drop, List.length_take]; rfl)) ?_; (with_reducible refine (bits_Mul64.calls (Go.bits .or .u64 x5_1 x6_1) (Go.bits .or .u64 x5_1 x6_1) t101 t102 _ A4.out).mono ?_); rintro e w' ⟨rfl, ⟨nd, rfl⟩⟩; refine ⟨_, rfl, ?_⟩))
       go_roundg k1
       case measure => have := HK1.out; omega
       case rel => exact ⟨(x5_1), (x6_1 / 2), (by first | rfl | (simp; done) | (simp [*]; done)), (by first | rfl | (simp; done) | (simp [*]; done)), H', ⟨by have := HK1.out; omega⟩, by repeat (first | exact Drawn0.refl _ | apply Drawn0.step)⟩
     ·
      rw [if_neg c6] at H
      have c6b0 : (t101 == a0) = false := beq_eq_false_iff_ne.mpr c6
      have c6b1 : (t101 != a0) = true := bne_iff_ne.mpr c6
      have H' := Aside0.mk H
      clear H
      go_wp2_with (first | ((with_reducible refine gate_callee (f := 49) rfl ?_); refine goesL_ (some 20) rfl rfl Try.func49 (by kernel_rfl) rfl #[.int .u64 (Go.bits .or .u64 x5_1 x6_1), .int .u64 (Go.bits .or .u64 x5_1 x6_1)] rfl (by (try simp only [List.map_toArray, List.map_cons, List.map_nil]); first | done | rfl | (simp only [List.length_drop, List.length_take]; rfl)) ?_; (with_reducible refine (bits_Mul64.calls (Go.bits .or .u64 x5_1 x6_1) (Go.bits .or .u64 x5_1 x6_1) t101 t102 _ A4.out).mono ?_); rintro e w' ⟨rfl, ⟨nd, rfl⟩⟩; refine ⟨_, rfl, ?_⟩))
      go_roundg k1
      case measure => have := HK1.out; omega
      case rel => exact ⟨(x5_1), (x6_1 / 2), (by first | rfl | (simp; done) | (simp [*]; done)), (by first | rfl | (simp; done) | (simp [*]; done)), H', ⟨by have := HK1.out; omega⟩, by repeat (first | exact Drawn0.refl _ | apply Drawn0.step)⟩
   ·
    rw [if_neg c3] at H
    have c3b0 : decide (0 < x6_1) = false := decide_eq_false c3
    clear c3
    obtain rfl := Option.some.inj H
    go_wp2
    go_ret
    exact ⟨by first | rfl | (simp; done) | (simp [*]; done), by repeat (first | exact Drawn0.refl _ | apply Drawn0.step)⟩

/-! ### vec_length: function 40 -/
theorem add64_c0 (x y : Int) (h0 : 0 ≤ x) (h1 : 0 ≤ y) (w : World) : (callFunc 50 #[.int .u64 x, .int .u64 y, .int .u64 0]).run Try.prog w = .ok (.value (.tuple #[.int .u64 ((x + y) % 18446744073709551616), .int .u64 ((x + y) / 18446744073709551616)])) w := by
 have h : (callFunc 50 #[.int .u64 x, .int .u64 y, .int .u64 0]).run Try.prog w = .ok (.value (.tuple #[.int .u64 (Int.ofNat ((x.toNat + y.toNat + 0) % 18446744073709551616)), .int .u64 (Int.ofNat ((x.toNat + y.toNat + 0) / 18446744073709551616))])) w := by kernel_rfl
 rw [h]
 have e1 : Int.ofNat ((x.toNat + y.toNat + 0) % 18446744073709551616) = (x + y) % 18446744073709551616 := by show (((x.toNat + y.toNat + 0) % 18446744073709551616 : Nat) : Int) = _; omega
 have e2 : Int.ofNat ((x.toNat + y.toNat + 0) / 18446744073709551616) = (x + y) / 18446744073709551616 := by show (((x.toNat + y.toNat + 0) / 18446744073709551616 : Nat) : Int) = _; omega
 rw [e1, e2]
theorem add64_c1 (x y : Int) (h0 : 0 ≤ x) (h1 : 0 ≤ y) (w : World) : (callFunc 50 #[.int .u64 x, .int .u64 y, .int .u64 1]).run Try.prog w = .ok (.value (.tuple #[.int .u64 ((x + y + 1) % 18446744073709551616), .int .u64 ((x + y + 1) / 18446744073709551616)])) w := by
 have h : (callFunc 50 #[.int .u64 x, .int .u64 y, .int .u64 1]).run Try.prog w = .ok (.value (.tuple #[.int .u64 (Int.ofNat ((x.toNat + y.toNat + 1) % 18446744073709551616)), .int .u64 (Int.ofNat ((x.toNat + y.toNat + 1) / 18446744073709551616))])) w := by kernel_rfl
 rw [h]
 have e1 : Int.ofNat ((x.toNat + y.toNat + 1) % 18446744073709551616) = (x + y + 1) % 18446744073709551616 := by show (((x.toNat + y.toNat + 1) % 18446744073709551616 : Nat) : Int) = _; omega
 have e2 : Int.ofNat ((x.toNat + y.toNat + 1) / 18446744073709551616) = (x + y + 1) / 18446744073709551616 := by show (((x.toNat + y.toNat + 1) / 18446744073709551616 : Nat) : Int) = _; omega
 rw [e1, e2]
theorem add64_c (x y c : Int) (h0 : 0 ≤ x) (h1 : 0 ≤ y) (h2 : 0 ≤ c) (h3 : c ≤ 1) (w : World) : (callFunc 50 #[.int .u64 x, .int .u64 y, .int .u64 c]).run Try.prog w = .ok (.value (.tuple #[.int .u64 ((x + y + c) % 18446744073709551616), .int .u64 ((x + y + c) / 18446744073709551616)])) w := by
 obtain rfl | rfl : c = 0 ∨ c = 1 := by omega
 ·
  rw [add64_c0 x y h0 h1, Int.add_zero]
 ·
  exact add64_c1 x y h0 h1 w
def Word (x : Int) : Prop := 0 ≤ x ∧ x < 18446744073709551616
instance (x : Int) : Decidable (Word x) := by unfold Word; infer_instance
def vec_length.g (k : Nat) (p q : Int × Int) : Option Int :=
 if Word p.1 ∧ Word p.2 ∧ Word q.1 ∧ Word q.2 then (fix_Root.f k ((p.1 + q.1 + (p.2 + q.2) / 18446744073709551616) % 18446744073709551616) ((p.2 + q.2) % 18446744073709551616)).bind fun r => some (wrap64 r) else none
def vec_length.f (k : Nat) (a0 a1 : Int) : Option Int :=
 (vec_mag.f a0).bind fun m => (vec_mag.f a1).bind fun n => (bits_Mul64.f m m).bind fun p => (bits_Mul64.f n n).bind fun q => vec_length.g k p q
theorem vec_length.mono : ∀ a0 a1 k, LeO (vec_length.f k a0 a1) (vec_length.f (k + 1) a0 a1) := by
 intro a0 a1 k
 unfold vec_length.f
 refine LeO.bind (LeO.refl _) fun _ => LeO.bind (LeO.refl _) fun _ => LeO.bind (LeO.refl _) fun _ => LeO.bind (LeO.refl _) fun _ => ?_
 unfold vec_length.g
 exact LeO.ite (LeO.bind (fix_Root.mono _ _ _) fun _ => LeO.refl _) (LeO.none _)
set_option maxHeartbeats 800000 in
set_option maxRecDepth 100000 in
theorem vec_length.calls (k : Nat) (a0 a1 r : Int) (w : World) (h : vec_length.f k a0 a1 = some r) :
  Calls Try.prog 40 #[.int .i64 a0, .int .i64 a1] w fun e w' => e = .returned (.int .i64 r) ∧ Below w.heap.size w w' := by
 have HB := Aside0.mk (Below.refl w.heap.size w)
 have h1 := Option.bind_eq_some_iff.mp h
 obtain ⟨m, hm, h2⟩ := h1
 obtain ⟨n, hn, h3⟩ := Option.bind_eq_some_iff.mp h2
 obtain ⟨⟨p1, p2⟩, hp, h4⟩ := Option.bind_eq_some_iff.mp h3
 obtain ⟨⟨q1, q2⟩, hq, h5⟩ := Option.bind_eq_some_iff.mp h4
 clear h h2 h3 h4
 unfold vec_length.g at h5
 by_cases hw : Word p1 ∧ Word p2 ∧ Word q1 ∧ Word q2
 ·
  rw [if_pos hw] at h5
  obtain ⟨t, ht, h6⟩ := Option.bind_eq_some_iff.mp h5
  obtain rfl := Option.some.inj h6
  clear h5 h6
  obtain ⟨⟨a1', a2'⟩, ⟨b1', b2'⟩, ⟨c1', c2'⟩, ⟨d1', d2'⟩⟩ := hw
  have hk0 := add64_c0 p2 q2 b1' d1'
  have g0 : 0 ≤ (p2 + q2) / 18446744073709551616 := by omega
  have g1 : (p2 + q2) / 18446744073709551616 ≤ 1 := by omega
  have hk1 := add64_c p1 q1 ((p2 + q2) / 18446744073709551616) a1' c1' g0 g1
  have A1 := Aside0.mk hm
  have A2 := Aside0.mk hn
  have A3 := Aside0.mk hp
  have A4 := Aside0.mk hq
  have A5 := Aside0.mk ht
  clear hm hn hp hq ht g0 g1 a1' a2' b1' b2' c1' c2' d1' d2'
  go_enter Try.func40, Try.ntmps40
  go_wp2_with (first | (go_at_call 42; (with_reducible refine (vec_mag.calls a0 m _ A1.out).mono ?_); rintro e w' ⟨rfl, hb⟩; have n0_ := Aside0.mk (below_step (by repeat (first | (with_reducible first | exact HB.out | apply below_alloc | apply pw_below_drewN | apply below_drew1) | exact HB.out)) hb); clear HB; have HB := n0_; clear n0_; (try clear hb)) | (go_at_call 42; (with_reducible refine (vec_mag.calls a1 n _ A2.out).mono ?_); rintro e w' ⟨rfl, hb⟩; have n0_ := Aside0.mk (below_step (by repeat (first | (with_reducible first | exact HB.out | apply below_alloc | apply pw_below_drewN | apply below_drew1) | exact HB.out)) hb); clear HB; have HB := n0_; clear n0_; (try clear hb)) | (go_at_call 49; (with_reducible refine (bits_Mul64.calls m m p1 p2 _ A3.out).mono ?_); rintro e w' ⟨rfl, ⟨nd, rfl⟩⟩) | (go_at_call 49; (with_reducible refine (bits_Mul64.calls n n q1 q2 _ A4.out).mono ?_); rintro e w' ⟨rfl, ⟨nd, rfl⟩⟩) | simp only [hk0] | simp only [hk1] | (go_at_call 51; (with_reducible refine (fix_Root.calls k _ _ t _ A5.out).mono ?_); rintro e w' ⟨rfl, ⟨nd, rfl⟩⟩))
  go_ret
  exact ⟨rfl, by repeat (first | (with_reducible first | exact HB.out | apply below_alloc | apply pw_below_drewN | apply below_drew1) | exact HB.out)⟩
 ·
  rw [if_neg hw] at h5
  cases h5

end Go.Proofs.Ytnadffanmnbfcaa.P
