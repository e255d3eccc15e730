/- Functions of this seat in plain Lean and their contracts, written by a turned copy of the kit's print (turns: wip/pr/make.py of this session). No condition. Short rows. -/
import Derived.Test.YtnadffanmnbfcaaPAllx0
import Derived.Test.YtnadffanmnbfcaaPAllx2
import Derived.Test.YtnadffanmnbfcaaPAllx8
namespace Go.Proofs.Ytnadffanmnbfcaa.P
open Go.RowKit Go.Proofs.YtnadffanmnbfcaaW.PrintWords Go.Proofs.YtnadffanmnbfcaaW.PrintLast Go.Proofs.YtnadffanmnbfcaaW.PrintMore
attribute [local go_sem] max2_int min2_int max_two min_two max_three min_three max_four min_four   -- for this text's walks alone
attribute [local go_sem] slc46 bld46
set_option linter.unusedVariables false
set_option linter.unusedSimpArgs false

/-! ### trig_Cos: function 26 -/
def trig_Cos.f (a0 : Int) : Option (Int) := (trig_Sin.f (wrap64 ((Go.bits .and .i64 a0 65535) + 16384))).bind fun t166 => (some t166)
set_option maxHeartbeats 8000000 in
set_option maxRecDepth 100000 in
theorem trig_Cos.calls (a0 : Int) (r : Int) (w : World) (h : trig_Cos.f a0 = some r) :
  Calls Try.prog 26 #[.int .i64 a0] w fun e w' => e = .returned (.int .i64 r) ∧ Below w.heap.size w w' := by
 have HB := Aside0.mk (Below.refl w.heap.size w)
 have H : ((trig_Sin.f (wrap64 ((Go.bits .and .i64 a0 65535) + 16384))).bind fun t166 => (some t166)) = some r := h
 clear h
 replace H := Option.bind_eq_some_iff.mp H
 obtain ⟨t166, A20, H⟩ := H
 replace H : (some t166) = some r := H
 have A2 := Aside0.mk A20
 clear A20
 obtain rfl := Option.some.inj H
 go_enter Try.func26, Try.ntmps26
 go_wp2_with (first | ((with_reducible refine gate_callee (f := 25) rfl ?_); refine goesL_ (some 6) rfl rfl Try.func25 (by kernel_rfl) rfl #[.int .i64 (wrap64 ((Go.bits .and .i64 a0 65535) + 16384))] rfl (by (try simp only [List.map_toArray, List.map_cons, List.map_nil]); first | done | rfl | (simp only [List.length_drop, List.length_take]; rfl)) ?_; (with_reducible refine (trig_Sin.calls (wrap64 ((Go.bits .and .i64 a0 65535) + 16384)) t166 _ A2.out).mono ?_); rintro e w3 ⟨rfl, hb⟩; refine ⟨_, rfl, ?_⟩; have n0_ := Aside0.mk (below_step (by repeat (first | (with_reducible first | exact HB.out | apply below_alloc | apply pw_below_drewN | apply below_drew1) | exact HB.out)) hb); clear HB; have HB := n0_; clear n0_; (try clear hb); (try clear hb2); (try clear hk); (try clear hi)))
 go_ret
 exact ⟨by first | rfl | (simp [errW_none, errW_some] <;> rfl) | (simp [*, errW_none, errW_some] <;> rfl), by repeat (first | (with_reducible first | exact HB.out | apply below_alloc | apply pw_below_drewN | apply below_drew1) | exact HB.out)⟩

/-! ### bits_Add64: function 50 -/
def bits_Add64.f (a0 a1 a2 : Int) : Option (Int × Int) := if 0 ≤ a0 ∧ 0 ≤ a1 ∧ 0 ≤ a2 ∧ a2 ≤ 1 then some ((a0 + a1 + a2) % 18446744073709551616, (a0 + a1 + a2) / 18446744073709551616) else none
theorem bits_Add64.run (a0 a1 a2 r1 r2 : Int) (h : bits_Add64.f a0 a1 a2 = some (r1, r2)) (w : World) : (callFunc 50 #[.int .u64 a0, .int .u64 a1, .int .u64 a2]).run Try.prog w = .ok (.value (.tuple #[.int .u64 r1, .int .u64 r2])) w := by
 unfold bits_Add64.f at h
 split at h
 ·
  rename_i hh
  obtain ⟨h0, h1, h2, h3⟩ := hh
  simp only [Option.some.injEq, Prod.mk.injEq] at h
  obtain ⟨rfl, rfl⟩ := h
  obtain rfl | rfl : a2 = 0 ∨ a2 = 1 := by omega
  ·
   have h : (callFunc 50 #[.int .u64 a0, .int .u64 a1, .int .u64 0]).run Try.prog w = .ok (.value (.tuple #[.int .u64 (Int.ofNat ((a0.toNat + a1.toNat + 0) % 18446744073709551616)), .int .u64 (Int.ofNat ((a0.toNat + a1.toNat + 0) / 18446744073709551616))])) w := by kernel_rfl
   rw [h]
   have e1 : Int.ofNat ((a0.toNat + a1.toNat + 0) % 18446744073709551616) = (a0 + a1 + 0) % 18446744073709551616 := by show (((a0.toNat + a1.toNat + 0) % 18446744073709551616 : Nat) : Int) = _; omega
   have e2 : Int.ofNat ((a0.toNat + a1.toNat + 0) / 18446744073709551616) = (a0 + a1 + 0) / 18446744073709551616 := by show (((a0.toNat + a1.toNat + 0) / 18446744073709551616 : Nat) : Int) = _; omega
   rw [e1, e2]
  ·
   have h : (callFunc 50 #[.int .u64 a0, .int .u64 a1, .int .u64 1]).run Try.prog w = .ok (.value (.tuple #[.int .u64 (Int.ofNat ((a0.toNat + a1.toNat + 1) % 18446744073709551616)), .int .u64 (Int.ofNat ((a0.toNat + a1.toNat + 1) / 18446744073709551616))])) w := by kernel_rfl
   rw [h]
   have e1 : Int.ofNat ((a0.toNat + a1.toNat + 1) % 18446744073709551616) = (a0 + a1 + 1) % 18446744073709551616 := by show (((a0.toNat + a1.toNat + 1) % 18446744073709551616 : Nat) : Int) = _; omega
   have e2 : Int.ofNat ((a0.toNat + a1.toNat + 1) / 18446744073709551616) = (a0 + a1 + 1) / 18446744073709551616 := by show (((a0.toNat + a1.toNat + 1) / 18446744073709551616 : Nat) : Int) = _; omega
   rw [e1, e2]
 ·
  cases h

/-! ### fix_Root: function 51 -/
def fix_Root.l0 : Nat → Int → Int → Int → Int → Option (Int)
 | 0, _, _, _, _ => none
 | k + 1, x0, x1, x5, x6 => if x6 > 0 then ((bits_Mul64.f (Go.bits .or .u64 x5 x6) (Go.bits .or .u64 x5 x6)).bind fun bt167 => (if bt167.1 < x0 then (fix_Root.l0 k x0 x1 (Go.bits .or .u64 x5 x6) (x6 / 2)) else (if bt167.1 = x0 then (if bt167.2 ≤ x1 then (fix_Root.l0 k x0 x1 (Go.bits .or .u64 x5 x6) (x6 / 2)) else (fix_Root.l0 k x0 x1 x5 (x6 / 2))) else (fix_Root.l0 k x0 x1 x5 (x6 / 2))))) else (some x5)
def fix_Root.f (k : Nat) (a0 : Int) (a1 : Int) : Option (Int) := fix_Root.l0 k a0 a1 0 9223372036854775808
theorem fix_Root.mono_l : ∀ k, (∀ y0 y1 y2 y3, LeO (fix_Root.l0 k y0 y1 y2 y3) (fix_Root.l0 (k + 1) y0 y1 y2 y3))
 | 0 => fun _ _ _ _ r h => by simp [fix_Root.l0] at h
 | k + 1 => by
  have ih0 := fix_Root.mono_l k
  ·
   intro y0 y1 y2 y3
   unfold fix_Root.l0
   repeat' first
   | (with_reducible exact ih0 _ _ _ _)
   | (with_reducible exact LeO.refl _)
   | (with_reducible exact LeO.none _)
   | (with_reducible refine LeO.ite ?_ ?_)
   | (with_reducible refine LeO.bind ?_ (fun _ => ?_))
   | exact ih0 _ _ _ _
   | exact LeO.none _
   | refine LeO.ite ?_ ?_
   | refine LeO.bind ?_ (fun _ => ?_)
theorem fix_Root.mono : ∀ a0 a1 k, LeO (fix_Root.f k a0 a1) (fix_Root.f (k + 1) a0 a1) := by
 intro a0 a1 k
 have ih0 := fix_Root.mono_l k
 unfold fix_Root.f
 repeat' first
   | (with_reducible exact ih0 _ _ _ _)
   | (with_reducible exact LeO.refl _)
   | (with_reducible exact LeO.none _)
   | (with_reducible refine LeO.ite ?_ ?_)
   | (with_reducible refine LeO.bind ?_ (fun _ => ?_))
   | exact ih0 _ _ _ _
   | exact LeO.none _
   | refine LeO.ite ?_ ?_
   | refine LeO.bind ?_ (fun _ => ?_)
set_option maxHeartbeats 8000000 in
set_option maxRecDepth 100000 in
theorem fix_Root.calls (k : Nat) (a0 : Int) (a1 : Int) (r : Int) (w : World) (h : fix_Root.f k a0 a1 = some r) :
  Calls Try.prog 51 #[.int .u64 a0, .int .u64 a1] w fun e w' => e = .returned (.int .u64 r) ∧ Drawn0 w w' := by
 have H : (fix_Root.l0 k a0 a1 0 9223372036854775808) = some r := h
 clear h
 have H' := Aside0.mk H
 clear H
 go_enter Try.func51, Try.ntmps51
 go_wp2
 go_loopg [5, 6] k (fun kq v5 v6 w' => ∃ (x5_1 : Int) (x6_1 : Int), v5 = .int .u64 x5_1 ∧ v6 = .int .u64 x6_1 ∧ Aside0 (fix_Root.l0 kq a0 a1 x5_1 x6_1 = some r) ∧ Aside0 (kq ≤ k) ∧ Drawn0 w w')
 case atStart => exact ⟨(0), (9223372036854775808), (by first | rfl | (simp; done) | (simp [*]; done)), (by first | rfl | (simp; done) | (simp [*]; done)), H', ⟨Nat.le_refl _⟩, by repeat (first | exact Drawn0.refl _ | apply Drawn0.step)⟩
 case round =>
  clear H'
  try clear p2
  obtain ⟨x5_1, x6_1, rfl, rfl, HA, HK1, ⟨m1, rfl⟩⟩ := hrel
  cases gk with
  | zero => exact absurd HA.out (by simp [fix_Root.l0])
  | succ k1 =>
   have H := HA.out
   clear HA
   simp only [fix_Root.l0] at H
   by_cases c3 : x6_1 > 0
   ·
    rw [if_pos c3] at H
    have c3b0 : decide (0 < x6_1) = true := decide_eq_true c3
    clear c3
    replace H := Option.bind_eq_some_iff.mp H
    obtain ⟨⟨t167, t168⟩, A40, H⟩ := H
    replace H : (if t167 < a0 then (fix_Root.l0 k1 a0 a1 (Go.bits .or .u64 x5_1 x6_1) (x6_1 / 2)) else (if t167 = a0 then (if t168 ≤ a1 then (fix_Root.l0 k1 a0 a1 (Go.bits .or .u64 x5_1 x6_1) (x6_1 / 2)) else (fix_Root.l0 k1 a0 a1 x5_1 (x6_1 / 2))) else (fix_Root.l0 k1 a0 a1 x5_1 (x6_1 / 2)))) = some r := H
    have A4 := Aside0.mk A40
    clear A40
    by_cases c5 : t167 < a0
    ·
     rw [if_pos c5] at H
     have c5b0 : decide (t167 < a0) = true := decide_eq_true c5
     clear c5
     have H' := Aside0.mk H
     clear H
     go_wp2_with (first | ((with_reducible refine gate_callee (f := 49) rfl ?_); refine goesL_ (some 20) rfl rfl Try.func49 (by kernel_rfl) rfl #[.int .u64 (Go.bits .or .u64 x5_1 x6_1), .int .u64 (Go.bits .or .u64 x5_1 x6_1)] rfl (by (try simp only [List.map_toArray, List.map_cons, List.map_nil]); first | done | rfl | (simp only [List.length_drop, List.length_take]; rfl)) ?_; (with_reducible refine (bits_Mul64.calls (Go.bits .or .u64 x5_1 x6_1) (Go.bits .or .u64 x5_1 x6_1) t167 t168 _ A4.out).mono ?_); rintro e w' ⟨rfl, ⟨nd, rfl⟩⟩; refine ⟨_, rfl, ?_⟩))
     go_roundg k1
     case measure => have := HK1.out; omega
     case rel => exact ⟨(Go.bits .or .u64 x5_1 x6_1), (x6_1 / 2), (by first | rfl | (simp; done) | (simp [*]; done)), (by first | rfl | (simp; done) | (simp [*]; done)), H', ⟨by have := HK1.out; omega⟩, by repeat (first | exact Drawn0.refl _ | apply Drawn0.step)⟩
    ·
     rw [if_neg c5] at H
     have c5b0 : decide (t167 < a0) = false := decide_eq_false c5
     clear c5
     by_cases c6 : t167 = a0
     ·
      rw [if_pos c6] at H
      have c6b0 : (t167 == a0) = true := beq_iff_eq.mpr c6
      have c6b1 : (t167 != a0) = false := bne_eq_false_iff_eq.mpr c6
      clear c6
      by_cases c7 : t168 ≤ a1
      ·
       rw [if_pos c7] at H
       have c7b0 : decide (t168 ≤ a1) = true := decide_eq_true c7
       clear c7
       have H' := Aside0.mk H
       clear H
       go_wp2_with (first | ((with_reducible refine gate_callee (f := 49) rfl ?_); refine goesL_ (some 20) rfl rfl Try.func49 (by kernel_rfl) rfl #[.int .u64 (Go.bits .or .u64 x5_1 x6_1), .int .u64 (Go.bits .or .u64 x5_1 x6_1)] rfl (by (try simp only [List.map_toArray, List.map_cons, List.map_nil]); first | done | rfl | (simp only [List.length_drop, List.length_take]; rfl)) ?_; (with_reducible refine (bits_Mul64.calls (Go.bits .or .u64 x5_1 x6_1) (Go.bits .or .u64 x5_1 x6_1) t167 t168 _ A4.out).mono ?_); rintro e w' ⟨rfl, ⟨nd, rfl⟩⟩; refine ⟨_, rfl, ?_⟩))
       go_roundg k1
       case measure => have := HK1.out; omega
       case rel => exact ⟨(Go.bits .or .u64 x5_1 x6_1), (x6_1 / 2), (by first | rfl | (simp; done) | (simp [*]; done)), (by first | rfl | (simp; done) | (simp [*]; done)), H', ⟨by have := HK1.out; omega⟩, by repeat (first | exact Drawn0.refl _ | apply Drawn0.step)⟩
      ·
       rw [if_neg c7] at H
       have c7b0 : decide (t168 ≤ a1) = false := decide_eq_false c7
       clear c7
       have H' := Aside0.mk H
       clear H
       go_wp2_with (first | ((with_reducible refine gate_callee (f := 49) rfl ?_); refine goesL_ (some 20) rfl rfl Try.func49 (by kernel_rfl) rfl #[.int .u64 (Go.bits .or .u64 x5_1 x6_1), .int .u64 (Go.bits .or .u64 x5_1 x6_1)] rfl (by (try simp only [List.map_toArray, List.map_cons, List.map_nil]); first | done | rfl | (simp only [List.length_drop, List.length_take]; rfl)) ?_; (with_reducible refine (bits_Mul64.calls (Go.bits .or .u64 x5_1 x6_1) (Go.bits .or .u64 x5_1 x6_1) t167 t168 _ A4.out).mono ?_); rintro e w' ⟨rfl, ⟨nd, rfl⟩⟩; refine ⟨_, rfl, ?_⟩))
       go_roundg k1
       case measure => have := HK1.out; omega
       case rel => exact ⟨(x5_1), (x6_1 / 2), (by first | rfl | (simp; done) | (simp [*]; done)), (by first | rfl | (simp; done) | (simp [*]; done)), H', ⟨by have := HK1.out; omega⟩, by repeat (first | exact Drawn0.refl _ | apply Drawn0.step)⟩
     ·
      rw [if_neg c6] at H
      have c6b0 : (t167 == a0) = false := beq_eq_false_iff_ne.mpr c6
      have c6b1 : (t167 != a0) = true := bne_iff_ne.mpr c6
      have H' := Aside0.mk H
      clear H
      go_wp2_with (first | ((with_reducible refine gate_callee (f := 49) rfl ?_); refine goesL_ (some 20) rfl rfl Try.func49 (by kernel_rfl) rfl #[.int .u64 (Go.bits .or .u64 x5_1 x6_1), .int .u64 (Go.bits .or .u64 x5_1 x6_1)] rfl (by (try simp only [List.map_toArray, List.map_cons, List.map_nil]); first | done | rfl | (simp only [List.length_drop, List.length_take]; rfl)) ?_; (with_reducible refine (bits_Mul64.calls (Go.bits .or .u64 x5_1 x6_1) (Go.bits .or .u64 x5_1 x6_1) t167 t168 _ A4.out).mono ?_); rintro e w' ⟨rfl, ⟨nd, rfl⟩⟩; refine ⟨_, rfl, ?_⟩))
      go_roundg k1
      case measure => have := HK1.out; omega
      case rel => exact ⟨(x5_1), (x6_1 / 2), (by first | rfl | (simp; done) | (simp [*]; done)), (by first | rfl | (simp; done) | (simp [*]; done)), H', ⟨by have := HK1.out; omega⟩, by repeat (first | exact Drawn0.refl _ | apply Drawn0.step)⟩
   ·
    rw [if_neg c3] at H
    have c3b0 : decide (0 < x6_1) = false := decide_eq_false c3
    clear c3
    obtain rfl := Option.some.inj H
    go_wp2
    go_ret
    exact ⟨by first | rfl | (simp; done) | (simp [*]; done), by repeat (first | exact Drawn0.refl _ | apply Drawn0.step)⟩

end Go.Proofs.Ytnadffanmnbfcaa.P
