/- Functions of this seat in plain Lean and their contracts, written by a turned copy of the kit's print (turns: wip/pr/make.py of this session). No condition. Short rows. -/
import Derived.Test.YtggfiacnkbcjbaaQGet
import Derived.Test.YtggfiacnkbcjbaaQNew
import Derived.Test.YtggfiacnkbcjbaaQPut
import Derived.Test.YtggfiacnkbcjbaaPAllx0
import Derived.Test.YtggfiacnkbcjbaaPAllx3
namespace Go.Proofs.Ytggfiacnkbcjbaa.P
open Go.RowKit Go.Proofs.YtggfiacnkbcjbaaW.PrintWords Go.Proofs.YtggfiacnkbcjbaaW.PrintLast Go.Proofs.YtggfiacnkbcjbaaW.PrintMore
attribute [local go_sem] max2_int min2_int max_two min_two max_three min_three max_four min_four   -- for this text's walks alone
set_option linter.unusedVariables false
set_option linter.unusedSimpArgs false

/-! ### bits_groups: function 57 -/
def bits_groups.l0 : Nat → Int → Int → Option (Int)
 | 0, _, _ => none
 | k + 1, x0, x3 => if x0 > 0 then (bits_groups.l0 k (x0 / 16) (wrap64 (x3 + 1))) else (some x3)
def bits_groups.f (k : Nat) (a0 : Int) : Option (Int) := bits_groups.l0 k (a0 / 16) 1
theorem bits_groups.mono_l : ∀ k, (∀ y0 y1, LeO (bits_groups.l0 k y0 y1) (bits_groups.l0 (k + 1) y0 y1))
 | 0 => fun _ _ r h => by simp [bits_groups.l0] at h
 | k + 1 => by
  have ih0 := bits_groups.mono_l k
  ·
   intro y0 y1
   unfold bits_groups.l0
   repeat' first
   | (with_reducible exact ih0 _ _)
   | (with_reducible exact LeO.refl _)
   | (with_reducible exact LeO.none _)
   | (with_reducible refine LeO.ite ?_ ?_)
   | (with_reducible refine LeO.bind ?_ (fun _ => ?_))
   | exact ih0 _ _
   | exact LeO.none _
   | refine LeO.ite ?_ ?_
   | refine LeO.bind ?_ (fun _ => ?_)
theorem bits_groups.mono : ∀ a0 k, LeO (bits_groups.f k a0) (bits_groups.f (k + 1) a0) := by
 intro a0 k
 have ih0 := bits_groups.mono_l k
 unfold bits_groups.f
 repeat' first
   | (with_reducible exact ih0 _ _)
   | (with_reducible exact LeO.refl _)
   | (with_reducible exact LeO.none _)
   | (with_reducible refine LeO.ite ?_ ?_)
   | (with_reducible refine LeO.bind ?_ (fun _ => ?_))
   | exact ih0 _ _
   | exact LeO.none _
   | refine LeO.ite ?_ ?_
   | refine LeO.bind ?_ (fun _ => ?_)
set_option maxHeartbeats 8000000 in
set_option maxRecDepth 100000 in
theorem bits_groups.calls (k : Nat) (a0 : Int) (r : Int) (w : World) (h : bits_groups.f k a0 = some r) :
  Calls Try.prog 57 #[.int .u64 a0] w fun e w' => e = .returned (.int .i64 r) ∧ Drawn0 w w' := by
 have H : (bits_groups.l0 k (a0 / 16) 1) = some r := h
 clear h
 have H' := Aside0.mk H
 clear H
 go_enter Try.func57, Try.ntmps57
 go_wp2
 go_loopg [0, 3] k (fun kq v0 v3 w' => ∃ (x0_1 : Int) (x3_1 : Int), v0 = .int .u64 x0_1 ∧ v3 = .int .i64 x3_1 ∧ Aside0 (bits_groups.l0 kq x0_1 x3_1 = some r) ∧ Aside0 (kq ≤ k) ∧ Drawn0 w w')
 case atStart => exact ⟨(a0 / 16), (1), (by first | rfl | (simp; done) | (simp [*]; done)), (by first | rfl | (simp; done) | (simp [*]; done)), H', ⟨Nat.le_refl _⟩, by repeat (first | exact Drawn0.refl _ | apply Drawn0.step)⟩
 case round =>
  clear H'
  obtain ⟨x0_1, x3_1, rfl, rfl, HA, HK1, ⟨m1, rfl⟩⟩ := hrel
  cases gk with
  | zero => exact absurd HA.out (by simp [bits_groups.l0])
  | succ k1 =>
   have H := HA.out
   clear HA
   simp only [bits_groups.l0] at H
   by_cases c2 : x0_1 > 0
   ·
    rw [if_pos c2] at H
    have c2b0 : decide (0 < x0_1) = true := decide_eq_true c2
    clear c2
    have H' := Aside0.mk H
    clear H
    go_wp2
    go_roundg k1
    case measure => have := HK1.out; omega
    case rel => exact ⟨(x0_1 / 16), (wrap64 (x3_1 + 1)), (by first | rfl | (simp; done) | (simp [*]; done)), (by first | rfl | (simp; done) | (simp [*]; done)), H', ⟨by have := HK1.out; omega⟩, by repeat (first | exact Drawn0.refl _ | apply Drawn0.step)⟩
   ·
    rw [if_neg c2] at H
    have c2b0 : decide (0 < x0_1) = false := decide_eq_false c2
    clear c2
    obtain rfl := Option.some.inj H
    go_wp2
    go_ret
    exact ⟨by first | rfl | (simp; done) | (simp [*]; done), by repeat (first | exact Drawn0.refl _ | apply Drawn0.step)⟩

/-! ### bits_Writer_Nat: function 45 -/
def bits_Writer_Nat.l0 : Nat → Int → Int → Int → Int → ByteArray → Int → Option (Int × ByteArray × Int)
 | 0, _, _, _, _, _, _ => none
 | k + 1, x1, x5, x18, x19, x1000, x1001 => if x19 < x18 then (if (wrap64 (x19 + 1)) < x5 then (if 0 ≤ (wrap64 (4 * x19)) then ((bits_Writer_Put.f x1000 x1001 (Go.bits .or .u64 (Go.bits .and .u64 (shr .u64 x1 (wrap64 (4 * x19))) 15) 16) 5).bind fun bt176 => (bits_Writer_Nat.l0 k x1 x5 x18 (wrap64 (x19 + 1)) bt176.2.1 bt176.2.2)) else (none)) else (if 0 ≤ (wrap64 (4 * x19)) then ((bits_Writer_Put.f x1000 x1001 (Go.bits .or .u64 (Go.bits .and .u64 (shr .u64 x1 (wrap64 (4 * x19))) 15) 0) 5).bind fun bt179 => (bits_Writer_Nat.l0 k x1 x5 x18 (wrap64 (x19 + 1)) bt179.2.1 bt179.2.2)) else (none))) else (some (0, x1000, x1001))
def bits_Writer_Nat.f (k : Nat) (s0_0 : ByteArray) (s0_1 : Int) (a1 : Int) : Option (Int × ByteArray × Int) := (bits_groups.f k a1).bind fun t175 => (if (wrap64 (s0_1 + (wrap64 (5 * t175)))) > 524288 then (some (6, s0_0, s0_1)) else (bits_Writer_Nat.l0 k a1 t175 t175 0 s0_0 s0_1))
theorem bits_Writer_Nat.mono_l : ∀ k, (∀ y0 y1 y2 y3 y4 y5, LeO (bits_Writer_Nat.l0 k y0 y1 y2 y3 y4 y5) (bits_Writer_Nat.l0 (k + 1) y0 y1 y2 y3 y4 y5))
 | 0 => fun _ _ _ _ _ _ r h => by simp [bits_Writer_Nat.l0] at h
 | k + 1 => by
  have ih0 := bits_Writer_Nat.mono_l k
  ·
   intro y0 y1 y2 y3 y4 y5
   unfold bits_Writer_Nat.l0
   repeat' first
   | (with_reducible exact ih0 _ _ _ _ _ _)
   | (with_reducible exact bits_groups.mono _ _)
   | (with_reducible exact LeO.refl _)
   | (with_reducible exact LeO.none _)
   | (with_reducible refine LeO.ite ?_ ?_)
   | (with_reducible refine LeO.bind ?_ (fun _ => ?_))
   | exact ih0 _ _ _ _ _ _
   | exact bits_groups.mono _ _
   | exact LeO.none _
   | refine LeO.ite ?_ ?_
   | refine LeO.bind ?_ (fun _ => ?_)
theorem bits_Writer_Nat.mono : ∀ a0 a1 a2 k, LeO (bits_Writer_Nat.f k a0 a1 a2) (bits_Writer_Nat.f (k + 1) a0 a1 a2) := by
 intro a0 a1 a2 k
 have ih0 := bits_Writer_Nat.mono_l k
 unfold bits_Writer_Nat.f
 repeat' first
   | (with_reducible exact ih0 _ _ _ _ _ _)
   | (with_reducible exact bits_groups.mono _ _)
   | (with_reducible exact LeO.refl _)
   | (with_reducible exact LeO.none _)
   | (with_reducible refine LeO.ite ?_ ?_)
   | (with_reducible refine LeO.bind ?_ (fun _ => ?_))
   | exact ih0 _ _ _ _ _ _
   | exact bits_groups.mono _ _
   | exact LeO.none _
   | refine LeO.ite ?_ ?_
   | refine LeO.bind ?_ (fun _ => ?_)
set_option maxHeartbeats 8000000 in
set_option maxRecDepth 100000 in
theorem bits_Writer_Nat.calls (k : Nat) (g : Nat) (s0_0 : ByteArray) (s0_1 : Int) (a1 : Int) (r1 : Int) (r2 : ByteArray) (r3 : Int) (w0 w : World) (hI : IsS64 w0 w g s0_0 s0_1) (hB : Below w0.heap.size w0 w) (h : bits_Writer_Nat.f k s0_0 s0_1 a1 = some (r1, r2, r3)) :
  Calls Try.prog 45 #[.pointer (some ⟨g, 0, none⟩), .int .u64 a1] w fun e w' => e = .returned (.int .i64 r1) ∧ IsS64 w0 w' g r2 r3 ∧ Below w0.heap.size w0 w' ∧ KeepW w w' g none := by
 have HI0 := Aside0.mk hI
 have HK := Aside0.mk (KeepW.refl w g none)
 have HL := Aside0.mk hB.size
 clear hI
 have HW0 := Aside0.mk hB.size
 have HB := Aside0.mk hB
 clear hB
 have H : ((bits_groups.f k a1).bind fun t175 => (if (wrap64 (s0_1 + (wrap64 (5 * t175)))) > 524288 then (some (6, s0_0, s0_1)) else (bits_Writer_Nat.l0 k a1 t175 t175 0 s0_0 s0_1))) = some (r1, r2, r3) := h
 clear h
 replace H := Option.bind_eq_some_iff.mp H
 obtain ⟨t175, A30, H⟩ := H
 replace H : (if (wrap64 (s0_1 + (wrap64 (5 * t175)))) > 524288 then (some (6, s0_0, s0_1)) else (bits_Writer_Nat.l0 k a1 t175 t175 0 s0_0 s0_1)) = some (r1, r2, r3) := H
 have A3 := Aside0.mk A30
 clear A30
 by_cases c4 : (wrap64 (s0_1 + (wrap64 (5 * t175)))) > 524288
 ·
  rw [if_pos c4] at H
  have c4b0 : decide (524288 < (wrap64 (s0_1 + (wrap64 (5 * t175))))) = true := decide_eq_true c4
  clear c4
  simp only [Option.some.injEq, Prod.mk.injEq] at H
  obtain ⟨rfl, rfl, rfl⟩ := H
  go_enter Try.func45, Try.ntmps45
  go_wp2_with (first | ((with_reducible refine gate_callee (f := 57) rfl ?_); refine goesL_ (some 9) rfl rfl Try.func57 (by kernel_rfl) rfl #[.int .u64 a1] rfl (by (try simp only [List.map_toArray, List.map_cons, List.map_nil]); first | done | rfl | (simp only [List.length_drop, List.length_take]; rfl)) ?_; (with_reducible refine (bits_groups.calls k a1 t175 _ A3.out).mono ?_); rintro e w' ⟨rfl, ⟨nd, rfl⟩⟩; refine ⟨_, rfl, ?_⟩; obtain ⟨vz5, HGz5, hgz5, _, _⟩ := HI0.out; have hcz5_0 := cellS64_0 HGz5; have hcz5_1 := cellS64_1 HGz5; have hfz5_0 := blk_frozen HGz5 0; have hfz5_1 := blk_frozen HGz5 1; clear HGz5 hgz5))
  go_ret
  exact ⟨by first | rfl | (simp [errW_none, errW_some] <;> rfl) | (simp [*, errW_none, errW_some] <;> rfl), by repeat (first | (with_reducible first | exact HI0.out | apply IsS64.alloc | apply IsS64.drewN | apply IsS64.drew | apply IsS64.set_1) | exact HI0.out), by repeat (first | (with_reducible first | exact HB.out | apply below_alloc | apply pw_below_drewN | apply below_drew1 | refine below_set ?_ (IsS64.ge HI0.out)) | exact HB.out), by repeat (first | (with_reducible first | exact HK.out | apply KeepW.set_ | apply keepW_drewN | apply keepW_drew | apply keepW_alloc) | exact HK.out)⟩
 ·
  rw [if_neg c4] at H
  have c4b0 : decide (524288 < (wrap64 (s0_1 + (wrap64 (5 * t175))))) = false := decide_eq_false c4
  clear c4
  have H' := Aside0.mk H
  clear H
  go_enter Try.func45, Try.ntmps45
  go_wp2_with (first | ((with_reducible refine gate_callee (f := 57) rfl ?_); refine goesL_ (some 9) rfl rfl Try.func57 (by kernel_rfl) rfl #[.int .u64 a1] rfl (by (try simp only [List.map_toArray, List.map_cons, List.map_nil]); first | done | rfl | (simp only [List.length_drop, List.length_take]; rfl)) ?_; (with_reducible refine (bits_groups.calls k a1 t175 _ A3.out).mono ?_); rintro e w' ⟨rfl, ⟨nd, rfl⟩⟩; refine ⟨_, rfl, ?_⟩; obtain ⟨vz6, HGz6, hgz6, _, _⟩ := HI0.out; have hcz6_0 := cellS64_0 HGz6; have hcz6_1 := cellS64_1 HGz6; have hfz6_0 := blk_frozen HGz6 0; have hfz6_1 := blk_frozen HGz6 1; clear HGz6 hgz6))
  go_loopg [19] k (fun kq v19 w' => ∃ (x19_1 : Int) (x1000_1 : ByteArray) (x1001_1 : Int), v19 = .int .i64 x19_1 ∧ Aside0 (bits_Writer_Nat.l0 kq a1 t175 t175 x19_1 x1000_1 x1001_1 = some (r1, r2, r3)) ∧ Aside0 (kq ≤ k) ∧ Aside0 (IsS64 w0 w' g x1000_1 x1001_1) ∧ Aside0 (KeepW w w' g none) ∧ Aside0 (Below w0.heap.size w0 w'))
  case atStart => exact ⟨(0), (s0_0), (s0_1), (by first | rfl | (simp; done) | (simp [*]; done)), H', ⟨Nat.le_refl _⟩, ⟨by repeat (first | (with_reducible first | exact HI0.out | apply IsS64.alloc | apply IsS64.drewN | apply IsS64.drew | apply IsS64.set_1) | exact HI0.out)⟩, ⟨by repeat (first | (with_reducible first | exact HK.out | apply KeepW.set_ | apply keepW_drewN | apply keepW_drew | apply keepW_alloc) | exact HK.out)⟩, ⟨by repeat (first | (with_reducible first | exact HB.out | apply below_alloc | apply pw_below_drewN | apply below_drew1 | refine below_set ?_ (IsS64.ge HI0.out)) | exact HB.out)⟩⟩
  case round =>
   clear H'
   try clear p2
   try clear c4
   try clear c4b0
   try clear c5
   try clear p6
   try clear hcz5_0
   try clear hcz5_1
   try clear hcz6_0
   try clear hcz6_1
   try clear hfz5_0
   try clear hfz5_1
   try clear hfz6_0
   try clear hfz6_1
   obtain ⟨x19_1, x1000_1, x1001_1, rfl, HA, HK1, HI0, HK, HB⟩ := hrel
   cases gk with
   | zero => exact absurd HA.out (by simp [bits_Writer_Nat.l0])
   | succ k1 =>
    have H := HA.out
    clear HA
    simp only [bits_Writer_Nat.l0] at H
    by_cases c7 : x19_1 < t175
    ·
     rw [if_pos c7] at H
     have c7b0 : decide (x19_1 < t175) = true := decide_eq_true c7
     clear c7
     by_cases c8 : (wrap64 (x19_1 + 1)) < t175
     ·
      rw [if_pos c8] at H
      have c8b0 : decide ((wrap64 (x19_1 + 1)) < t175) = true := decide_eq_true c8
      clear c8
      obtain ⟨ji9, hji9⟩ : ∃ j_ : Int, (wrap64 (4 * x19_1)) = j_ := ⟨_, rfl⟩
      replace H : (if 0 ≤ (ji9) then ((bits_Writer_Put.f x1000_1 x1001_1 (Go.bits .or .u64 (Go.bits .and .u64 (shr .u64 a1 (ji9)) 15) 16) 5).bind fun bt176 => (bits_Writer_Nat.l0 k1 a1 t175 t175 (wrap64 (x19_1 + 1)) bt176.2.1 bt176.2.2)) else (none)) = some (r1, r2, r3) := by first | (rw [hji9] at H; exact H) | (simp only [hji9] at H ⊢; exact H)
      have hji9w : (IntKind.i64.wrap (4 * x19_1)) = ji9 := (i64_w _).trans hji9
      by_cases c10 : 0 ≤ (ji9)
      ·
       rw [if_pos c10] at H
       have c10b0 := eq_true c10
       have c10b1 : decide (0 ≤ (ji9)) = true := decide_eq_true c10
       clear c10
       obtain ⟨ji11, hji11⟩ : ∃ j_ : Int, (shr .u64 a1 (ji9)) = j_ := ⟨_, rfl⟩
       replace H : ((bits_Writer_Put.f x1000_1 x1001_1 (Go.bits .or .u64 (Go.bits .and .u64 (ji11) 15) 16) 5).bind fun bt176 => (bits_Writer_Nat.l0 k1 a1 t175 t175 (wrap64 (x19_1 + 1)) bt176.2.1 bt176.2.2)) = some (r1, r2, r3) := by first | (rw [hji11] at H; exact H) | (simp only [hji11] at H ⊢; exact H)
       have hji11_ : (a1 / 2 ^ min (ji9).toNat 64) = ji11 := hji11
       have hji11z : (ji9) ≤ 64 → (a1 / 2 ^ (ji9).toNat) = ji11 := shr_small hji11
       replace H := Option.bind_eq_some_iff.mp H
       obtain ⟨⟨t176, t177, t178⟩, A120, H⟩ := H
       replace H : (bits_Writer_Nat.l0 k1 a1 t175 t175 (wrap64 (x19_1 + 1)) t177 t178) = some (r1, r2, r3) := H
       have A12 := Aside0.mk A120
       clear A120
       have H' := Aside0.mk H
       clear H
       go_wp2_with (first | ((with_reducible refine gate_callee (f := 44) rfl ?_); refine goesL_ (some 34) rfl rfl Try.func44 (by kernel_rfl) rfl #[.pointer (some ⟨g, 0, none⟩), .int .u64 (Go.bits .or .u64 (Go.bits .and .u64 (ji11) 15) 16), .int .i64 5] rfl (by (try simp only [List.map_toArray, List.map_cons, List.map_nil]); first | done | (simp only [hji11]; rfl) | rfl | (simp only [List.length_drop, List.length_take]; rfl)) ?_; (with_reducible refine (bits_Writer_Put.calls g x1000_1 x1001_1 (Go.bits .or .u64 (Go.bits .and .u64 (ji11) 15) 16) 5 t176 t177 t178 w0 _ ?side1 ?side2 A12.out).mono ?_); (case side1 => repeat (first | (with_reducible first | exact HI0.out | apply IsS64.alloc | apply IsS64.drewN | apply IsS64.drew | apply IsS64.set_1) | exact HI0.out)); (case side2 => repeat (first | (with_reducible first | exact HB.out | apply below_alloc | apply pw_below_drewN | apply below_drew1 | refine below_set ?_ (IsS64.ge HI0.out)) | exact HB.out)); rintro e w13 ⟨rfl, hi, hb, hk⟩; refine ⟨_, rfl, ?_⟩; have n0_ := Aside0.mk (KeepW.trans (by repeat (first | (with_reducible first | exact HK.out | apply KeepW.set_ | apply keepW_drewN | apply keepW_drew | apply keepW_alloc) | exact HK.out)) hk (.inl rfl)); have n1_ := Aside0.mk (hb); have n2_ := Aside0.mk (hi); clear HK; clear HB; clear HI0; have HK := n0_; have HB := n1_; have HI0 := n2_; clear n0_ n1_ n2_; (try clear hb); (try clear hb2); (try clear hk); (try clear hi)))
       go_roundg k1
       case measure => have := HK1.out; omega
       case rel => exact ⟨(wrap64 (x19_1 + 1)), (t177), (t178), (by first | rfl | (simp; done) | (simp [*]; done)), H', ⟨by have := HK1.out; omega⟩, ⟨by repeat (first | (with_reducible first | exact HI0.out | apply IsS64.alloc | apply IsS64.drewN | apply IsS64.drew | apply IsS64.set_1) | exact HI0.out)⟩, ⟨by repeat (first | (with_reducible first | exact HK.out | apply KeepW.set_ | apply keepW_drewN | apply keepW_drew | apply keepW_alloc) | exact HK.out)⟩, ⟨by repeat (first | (with_reducible first | exact HB.out | apply below_alloc | apply pw_below_drewN | apply below_drew1 | refine below_set ?_ (IsS64.ge HI0.out)) | exact HB.out)⟩⟩
      ·
       rw [if_neg c10] at H
       exact absurd H (by simp)
     ·
      rw [if_neg c8] at H
      have c8b0 : decide ((wrap64 (x19_1 + 1)) < t175) = false := decide_eq_false c8
      clear c8
      obtain ⟨ji14, hji14⟩ : ∃ j_ : Int, (wrap64 (4 * x19_1)) = j_ := ⟨_, rfl⟩
      replace H : (if 0 ≤ (ji14) then ((bits_Writer_Put.f x1000_1 x1001_1 (Go.bits .or .u64 (Go.bits .and .u64 (shr .u64 a1 (ji14)) 15) 0) 5).bind fun bt179 => (bits_Writer_Nat.l0 k1 a1 t175 t175 (wrap64 (x19_1 + 1)) bt179.2.1 bt179.2.2)) else (none)) = some (r1, r2, r3) := by first | (rw [hji14] at H; exact H) | (simp only [hji14] at H ⊢; exact H)
      have hji14w : (IntKind.i64.wrap (4 * x19_1)) = ji14 := (i64_w _).trans hji14
      by_cases c15 : 0 ≤ (ji14)
      ·
       rw [if_pos c15] at H
       have c15b0 := eq_true c15
       have c15b1 : decide (0 ≤ (ji14)) = true := decide_eq_true c15
       clear c15
       obtain ⟨ji16, hji16⟩ : ∃ j_ : Int, (shr .u64 a1 (ji14)) = j_ := ⟨_, rfl⟩
       replace H : ((bits_Writer_Put.f x1000_1 x1001_1 (Go.bits .or .u64 (Go.bits .and .u64 (ji16) 15) 0) 5).bind fun bt179 => (bits_Writer_Nat.l0 k1 a1 t175 t175 (wrap64 (x19_1 + 1)) bt179.2.1 bt179.2.2)) = some (r1, r2, r3) := by first | (rw [hji16] at H; exact H) | (simp only [hji16] at H ⊢; exact H)
       have hji16_ : (a1 / 2 ^ min (ji14).toNat 64) = ji16 := hji16
       have hji16z : (ji14) ≤ 64 → (a1 / 2 ^ (ji14).toNat) = ji16 := shr_small hji16
       replace H := Option.bind_eq_some_iff.mp H
       obtain ⟨⟨t179, t180, t181⟩, A170, H⟩ := H
       replace H : (bits_Writer_Nat.l0 k1 a1 t175 t175 (wrap64 (x19_1 + 1)) t180 t181) = some (r1, r2, r3) := H
       have A17 := Aside0.mk A170
       clear A170
       have H' := Aside0.mk H
       clear H
       go_wp2_with (first | ((with_reducible refine gate_callee (f := 44) rfl ?_); refine goesL_ (some 34) rfl rfl Try.func44 (by kernel_rfl) rfl #[.pointer (some ⟨g, 0, none⟩), .int .u64 (Go.bits .or .u64 (Go.bits .and .u64 (ji16) 15) 0), .int .i64 5] rfl (by (try simp only [List.map_toArray, List.map_cons, List.map_nil]); first | done | (simp only [hji16]; rfl) | rfl | (simp only [List.length_drop, List.length_take]; rfl)) ?_; (with_reducible refine (bits_Writer_Put.calls g x1000_1 x1001_1 (Go.bits .or .u64 (Go.bits .and .u64 (ji16) 15) 0) 5 t179 t180 t181 w0 _ ?side1 ?side2 A17.out).mono ?_); (case side1 => repeat (first | (with_reducible first | exact HI0.out | apply IsS64.alloc | apply IsS64.drewN | apply IsS64.drew | apply IsS64.set_1) | exact HI0.out)); (case side2 => repeat (first | (with_reducible first | exact HB.out | apply below_alloc | apply pw_below_drewN | apply below_drew1 | refine below_set ?_ (IsS64.ge HI0.out)) | exact HB.out)); rintro e w18 ⟨rfl, hi, hb, hk⟩; refine ⟨_, rfl, ?_⟩; have n0_ := Aside0.mk (KeepW.trans (by repeat (first | (with_reducible first | exact HK.out | apply KeepW.set_ | apply keepW_drewN | apply keepW_drew | apply keepW_alloc) | exact HK.out)) hk (.inl rfl)); have n1_ := Aside0.mk (hb); have n2_ := Aside0.mk (hi); clear HK; clear HB; clear HI0; have HK := n0_; have HB := n1_; have HI0 := n2_; clear n0_ n1_ n2_; (try clear hb); (try clear hb2); (try clear hk); (try clear hi)))
       go_roundg k1
       case measure => have := HK1.out; omega
       case rel => exact ⟨(wrap64 (x19_1 + 1)), (t180), (t181), (by first | rfl | (simp; done) | (simp [*]; done)), H', ⟨by have := HK1.out; omega⟩, ⟨by repeat (first | (with_reducible first | exact HI0.out | apply IsS64.alloc | apply IsS64.drewN | apply IsS64.drew | apply IsS64.set_1) | exact HI0.out)⟩, ⟨by repeat (first | (with_reducible first | exact HK.out | apply KeepW.set_ | apply keepW_drewN | apply keepW_drew | apply keepW_alloc) | exact HK.out)⟩, ⟨by repeat (first | (with_reducible first | exact HB.out | apply below_alloc | apply pw_below_drewN | apply below_drew1 | refine below_set ?_ (IsS64.ge HI0.out)) | exact HB.out)⟩⟩
      ·
       rw [if_neg c15] at H
       exact absurd H (by simp)
    ·
     rw [if_neg c7] at H
     have c7b0 : decide (x19_1 < t175) = false := decide_eq_false c7
     clear c7
     simp only [Option.some.injEq, Prod.mk.injEq] at H
     obtain ⟨rfl, rfl, rfl⟩ := H
     go_wp2
     go_ret
     exact ⟨by first | rfl | (simp [errW_none, errW_some] <;> rfl) | (simp [*, errW_none, errW_some] <;> rfl), by repeat (first | (with_reducible first | exact HI0.out | apply IsS64.alloc | apply IsS64.drewN | apply IsS64.drew | apply IsS64.set_1) | exact HI0.out), by repeat (first | (with_reducible first | exact HB.out | apply below_alloc | apply pw_below_drewN | apply below_drew1 | refine below_set ?_ (IsS64.ge HI0.out)) | exact HB.out), by repeat (first | (with_reducible first | exact HK.out | apply KeepW.set_ | apply keepW_drewN | apply keepW_drew | apply keepW_alloc) | exact HK.out)⟩

/-! ### bits_Writer_Int: function 46 -/
def bits_Writer_Int.f (k : Nat) (s0_0 : ByteArray) (s0_1 : Int) (a1 : Int) : Option (Int × ByteArray × Int) := (bits_Writer_Nat.f k s0_0 s0_1 (Go.bits .xor .u64 (IntKind.u64.wrap ((IntKind.u64.wrap (a1)) * 2)) (IntKind.u64.wrap (a1 / 9223372036854775808)))).bind fun bt182 => (some (bt182.1, bt182.2.1, bt182.2.2))
theorem bits_Writer_Int.mono : ∀ a0 a1 a2 k, LeO (bits_Writer_Int.f k a0 a1 a2) (bits_Writer_Int.f (k + 1) a0 a1 a2) := by
 intro a0 a1 a2 k
 unfold bits_Writer_Int.f
 repeat' first
   | (with_reducible exact bits_Writer_Nat.mono _ _ _ _)
   | (with_reducible exact LeO.refl _)
   | (with_reducible exact LeO.none _)
   | (with_reducible refine LeO.ite ?_ ?_)
   | (with_reducible refine LeO.bind ?_ (fun _ => ?_))
   | exact bits_Writer_Nat.mono _ _ _ _
   | exact LeO.none _
   | refine LeO.ite ?_ ?_
   | refine LeO.bind ?_ (fun _ => ?_)
set_option maxHeartbeats 8000000 in
set_option maxRecDepth 100000 in
theorem bits_Writer_Int.calls (k : Nat) (g : Nat) (s0_0 : ByteArray) (s0_1 : Int) (a1 : Int) (r1 : Int) (r2 : ByteArray) (r3 : Int) (w0 w : World) (hI : IsS64 w0 w g s0_0 s0_1) (hB : Below w0.heap.size w0 w) (h : bits_Writer_Int.f k s0_0 s0_1 a1 = some (r1, r2, r3)) :
  Calls Try.prog 46 #[.pointer (some ⟨g, 0, none⟩), .int .i64 a1] w fun e w' => e = .returned (.int .i64 r1) ∧ IsS64 w0 w' g r2 r3 ∧ Below w0.heap.size w0 w' ∧ KeepW w w' g none := by
 have HI0 := Aside0.mk hI
 have HK := Aside0.mk (KeepW.refl w g none)
 have HL := Aside0.mk hB.size
 clear hI
 have HW0 := Aside0.mk hB.size
 have HB := Aside0.mk hB
 clear hB
 have H : ((bits_Writer_Nat.f k s0_0 s0_1 (Go.bits .xor .u64 (IntKind.u64.wrap ((IntKind.u64.wrap (a1)) * 2)) (IntKind.u64.wrap (a1 / 9223372036854775808)))).bind fun bt182 => (some (bt182.1, bt182.2.1, bt182.2.2))) = some (r1, r2, r3) := h
 clear h
 replace H := Option.bind_eq_some_iff.mp H
 obtain ⟨⟨t182, t183, t184⟩, A30, H⟩ := H
 replace H : (some (t182, t183, t184)) = some (r1, r2, r3) := H
 have A3 := Aside0.mk A30
 clear A30
 simp only [Option.some.injEq, Prod.mk.injEq] at H
 obtain ⟨rfl, rfl, rfl⟩ := H
 go_enter Try.func46, Try.ntmps46
 go_wp2_with (first | ((with_reducible refine gate_callee (f := 45) rfl ?_); refine goesL_ (some 13) rfl rfl Try.func45 (by kernel_rfl) rfl #[.pointer (some ⟨g, 0, none⟩), .int .u64 (Go.bits .xor .u64 (IntKind.u64.wrap ((IntKind.u64.wrap (a1)) * 2)) (IntKind.u64.wrap (a1 / 9223372036854775808)))] rfl (by (try simp only [List.map_toArray, List.map_cons, List.map_nil]); first | done | rfl | (simp only [List.length_drop, List.length_take]; rfl)) ?_; (with_reducible refine (bits_Writer_Nat.calls k g s0_0 s0_1 (Go.bits .xor .u64 (IntKind.u64.wrap ((IntKind.u64.wrap (a1)) * 2)) (IntKind.u64.wrap (a1 / 9223372036854775808))) t182 t183 t184 w0 _ ?side1 ?side2 A3.out).mono ?_); (case side1 => repeat (first | (with_reducible first | exact HI0.out | apply IsS64.alloc | apply IsS64.drewN | apply IsS64.drew | apply IsS64.set_1) | exact HI0.out)); (case side2 => repeat (first | (with_reducible first | exact HB.out | apply below_alloc | apply pw_below_drewN | apply below_drew1 | refine below_set ?_ (IsS64.ge HI0.out)) | exact HB.out)); rintro e w4 ⟨rfl, hi, hb, hk⟩; refine ⟨_, rfl, ?_⟩; have n0_ := Aside0.mk (KeepW.trans (by repeat (first | (with_reducible first | exact HK.out | apply KeepW.set_ | apply keepW_drewN | apply keepW_drew | apply keepW_alloc) | exact HK.out)) hk (.inl rfl)); have n1_ := Aside0.mk (hb); have n2_ := Aside0.mk (hi); clear HK; clear HB; clear HI0; have HK := n0_; have HB := n1_; have HI0 := n2_; clear n0_ n1_ n2_; (try clear hb); (try clear hb2); (try clear hk); (try clear hi)))
 go_ret
 exact ⟨by first | rfl | (simp [errW_none, errW_some] <;> rfl) | (simp [*, errW_none, errW_some] <;> rfl), by repeat (first | (with_reducible first | exact HI0.out | apply IsS64.alloc | apply IsS64.drewN | apply IsS64.drew | apply IsS64.set_1) | exact HI0.out), by repeat (first | (with_reducible first | exact HB.out | apply below_alloc | apply pw_below_drewN | apply below_drew1 | refine below_set ?_ (IsS64.ge HI0.out)) | exact HB.out), by repeat (first | (with_reducible first | exact HK.out | apply KeepW.set_ | apply keepW_drewN | apply keepW_drew | apply keepW_alloc) | exact HK.out)⟩

end Go.Proofs.Ytggfiacnkbcjbaa.P
