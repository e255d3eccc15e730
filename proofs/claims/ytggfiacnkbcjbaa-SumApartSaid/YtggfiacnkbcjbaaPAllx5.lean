/- Functions of this seat in plain Lean and their contracts, written by a turned copy of the kit's print (turns: wip/pr/make.py of this session). No condition. Short rows. -/
import Derived.Test.YtggfiacnkbcjbaaPAllx0
import Derived.Test.YtggfiacnkbcjbaaPAllx1
import Derived.Test.YtggfiacnkbcjbaaPAllx2
import Derived.Test.YtggfiacnkbcjbaaPAllx3
import Derived.Test.YtggfiacnkbcjbaaPAllx4
namespace Go.Proofs.Ytggfiacnkbcjbaa.P
open Go.RowKit Go.Proofs.YtggfiacnkbcjbaaW.PrintWords Go.Proofs.YtggfiacnkbcjbaaW.PrintLast Go.Proofs.YtggfiacnkbcjbaaW.PrintMore
attribute [local go_sem] max2_int min2_int max_two min_two max_three min_three max_four min_four   -- for this text's walks alone
attribute [local go_sem] fld25_0 fld25_1
set_option linter.unusedVariables false
set_option linter.unusedSimpArgs false

/-! ### tourkeep1_SumApart: function 6 -/
def tourkeep1_SumApart.j0 : Nat → List Int → Int → Int → Int → List Int → List Int → List Int → Option (Bool)
 | 0, _, _, _, _, _, _, _ => none
 | k + 1, x0, x2, x3, x4, x11, x12, x13 => (sum_Ints.f k x0).bind fun t153 => ((sum_Ints.f k x11).bind fun t154 => (if t153 = t154 then (none) else (if (x12.length : Int) = 0 then (if x3 = x4 then (some true) else ((tourkeep1_n64.f x2).bind fun t155 => ((sum_Join.f x3 t155).bind fun t156 => ((tourkeep1_n64.f x2).bind fun t157 => ((sum_Join.f x4 t155).bind fun t158 => (if t156 = t158 then (none) else ((tourkeep1_n64.f x2).bind fun t159 => ((sum_Join.f t155 x3).bind fun t160 => ((tourkeep1_n64.f x2).bind fun t161 => ((sum_Join.f t155 x4).bind fun t162 => (some (t160 != t162)))))))))))) else ((sum_Bytes.f k x12).bind fun t163 => ((sum_Bytes.f k x13).bind fun t164 => (if t163 = t164 then (none) else (if x3 = x4 then (some true) else ((tourkeep1_n64.f x2).bind fun t165 => ((sum_Join.f x3 t165).bind fun t166 => ((tourkeep1_n64.f x2).bind fun t167 => ((sum_Join.f x4 t165).bind fun t168 => (if t166 = t168 then (none) else ((tourkeep1_n64.f x2).bind fun t169 => ((sum_Join.f t165 x3).bind fun t170 => ((tourkeep1_n64.f x2).bind fun t171 => ((sum_Join.f t165 x4).bind fun t172 => (some (t170 != t172))))))))))))))))))
def tourkeep1_SumApart.f (k : Nat) (l0 : List Int) (a1 : Int) (a2 : Int) (a3 : Int) (a4 : Int) : Option (Bool) := (sum_Words.f k ([] : List Int)).bind fun t129 => ((sum_Bytes.f k ([] : List Int)).bind fun t130 => (if t129 = t130 then (none) else (if 0 ≤ (mn (l0.length : Int) 100) then (if (mn (l0.length : Int) 100) ≤ (l0.length : Int) then ((slices_Clone_int_int.f (l0.take ((mn (l0.length : Int) 100) : Int).toNat)).bind fun t132 => (if t132.length < 17592186044416 then ((some (t132 ++ [a2] : List Int)).bind fun y135 => ((slices_Clone_int_int.f y135).bind fun t138 => ((tourmake_Below.f a1 (y135.length : Int)).bind fun t141 => (if 0 ≤ t141 then (if t141 < (t138.length : Int) then ((some (t138.set (t141 : Int).toNat (wrap64 ((rd t138 t141) + 1)) : List Int)).bind fun y143 => ((tourmake_Bytes.f k y135).bind fun t144 => ((slices_Clone_byte_byte.f t144).bind fun t147 => (if (t147.length : Int) > 0 then ((tourmake_Below.f t141 (t147.length : Int)).bind fun t150 => (if 0 ≤ t150 then (if t150 < (t147.length : Int) then (tourkeep1_SumApart.j0 k y135 a2 a3 a4 y143 t144 (t147.set (t150 : Int).toNat (Go.bits .xor .u8 (rd t147 t150) 1))) else (none)) else (none))) else (tourkeep1_SumApart.j0 k y135 a2 a3 a4 y143 t144 t147))))) else (none)) else (none))))) else (none))) else (none)) else (none))))
theorem tourkeep1_SumApart.mono_l : ∀ k, (∀ y0 y1 y2 y3 y4 y5 y6, LeO (tourkeep1_SumApart.j0 k y0 y1 y2 y3 y4 y5 y6) (tourkeep1_SumApart.j0 (k + 1) y0 y1 y2 y3 y4 y5 y6))
 | 0 => fun _ _ _ _ _ _ _ r h => by simp [tourkeep1_SumApart.j0] at h
 | k + 1 => by
  have ih0 := tourkeep1_SumApart.mono_l k
  ·
   intro y0 y1 y2 y3 y4 y5 y6
   unfold tourkeep1_SumApart.j0
   repeat' first
   | (with_reducible exact ih0 _ _ _ _ _ _ _)
   | (with_reducible exact sum_Bytes.mono _ _)
   | (with_reducible exact sum_Ints.mono _ _)
   | (with_reducible exact sum_Words.mono _ _)
   | (with_reducible exact tourmake_Bytes.mono _ _)
   | (with_reducible exact LeO.refl _)
   | (with_reducible exact LeO.none _)
   | (with_reducible refine LeO.ite ?_ ?_)
   | (with_reducible refine LeO.bind ?_ (fun _ => ?_))
   | exact ih0 _ _ _ _ _ _ _
   | exact sum_Bytes.mono _ _
   | exact sum_Ints.mono _ _
   | exact sum_Words.mono _ _
   | exact tourmake_Bytes.mono _ _
   | exact LeO.none _
   | refine LeO.ite ?_ ?_
   | refine LeO.bind ?_ (fun _ => ?_)
theorem tourkeep1_SumApart.mono : ∀ a0 a1 a2 a3 a4 k, LeO (tourkeep1_SumApart.f k a0 a1 a2 a3 a4) (tourkeep1_SumApart.f (k + 1) a0 a1 a2 a3 a4) := by
 intro a0 a1 a2 a3 a4 k
 have ih0 := tourkeep1_SumApart.mono_l k
 unfold tourkeep1_SumApart.f
 repeat' first
   | (with_reducible exact ih0 _ _ _ _ _ _ _)
   | (with_reducible exact sum_Bytes.mono _ _)
   | (with_reducible exact sum_Ints.mono _ _)
   | (with_reducible exact sum_Words.mono _ _)
   | (with_reducible exact tourmake_Bytes.mono _ _)
   | (with_reducible exact LeO.refl _)
   | (with_reducible exact LeO.none _)
   | (with_reducible refine LeO.ite ?_ ?_)
   | (with_reducible refine LeO.bind ?_ (fun _ => ?_))
   | exact ih0 _ _ _ _ _ _ _
   | exact sum_Bytes.mono _ _
   | exact sum_Ints.mono _ _
   | exact sum_Words.mono _ _
   | exact tourmake_Bytes.mono _ _
   | exact LeO.none _
   | refine LeO.ite ?_ ?_
   | refine LeO.bind ?_ (fun _ => ?_)
set_option maxHeartbeats 8000000 in
set_option maxRecDepth 100000 in
theorem tourkeep1_SumApart.calls (k : Nat) (A0 : Option Addr) (c0 : Nat) (l0 : List Int) (a1 : Int) (a2 : Int) (a3 : Int) (a4 : Int) (r : Bool) (w : World) (hr0 : Kd.C (Kd.int .i64) w A0 l0.length l0) (hc0 : l0.length ≤ c0) (h : tourkeep1_SumApart.f k l0 a1 a2 a3 a4 = some r) :
  Calls Try.prog 6 #[.slice A0 l0.length c0, .int .i64 a1, .int .i64 a2, .int .u64 a3, .int .u64 a4] w fun e w' => e = .returned (.bool r) ∧ Below w.heap.size w w' := by
 have HR0 := Aside0.mk hr0
 have HC0 := Aside0.mk hc0
 clear hr0 hc0
 have HB := Aside0.mk (Below.refl w.heap.size w)
 have H : ((sum_Words.f k ([] : List Int)).bind fun t129 => ((sum_Bytes.f k ([] : List Int)).bind fun t130 => (if t129 = t130 then (none) else (if 0 ≤ (mn (l0.length : Int) 100) then (if (mn (l0.length : Int) 100) ≤ (l0.length : Int) then ((slices_Clone_int_int.f (l0.take ((mn (l0.length : Int) 100) : Int).toNat)).bind fun t132 => (if t132.length < 17592186044416 then ((some (t132 ++ [a2] : List Int)).bind fun y135 => ((slices_Clone_int_int.f y135).bind fun t138 => ((tourmake_Below.f a1 (y135.length : Int)).bind fun t141 => (if 0 ≤ t141 then (if t141 < (t138.length : Int) then ((some (t138.set (t141 : Int).toNat (wrap64 ((rd t138 t141) + 1)) : List Int)).bind fun y143 => ((tourmake_Bytes.f k y135).bind fun t144 => ((slices_Clone_byte_byte.f t144).bind fun t147 => (if (t147.length : Int) > 0 then ((tourmake_Below.f t141 (t147.length : Int)).bind fun t150 => (if 0 ≤ t150 then (if t150 < (t147.length : Int) then (tourkeep1_SumApart.j0 k y135 a2 a3 a4 y143 t144 (t147.set (t150 : Int).toNat (Go.bits .xor .u8 (rd t147 t150) 1))) else (none)) else (none))) else (tourkeep1_SumApart.j0 k y135 a2 a3 a4 y143 t144 t147))))) else (none)) else (none))))) else (none))) else (none)) else (none))))) = some r := h
 clear h
 replace H := Option.bind_eq_some_iff.mp H
 obtain ⟨t129, A60, H⟩ := H
 replace H : ((sum_Bytes.f k ([] : List Int)).bind fun t130 => (if t129 = t130 then (none) else (if 0 ≤ (mn (l0.length : Int) 100) then (if (mn (l0.length : Int) 100) ≤ (l0.length : Int) then ((slices_Clone_int_int.f (l0.take ((mn (l0.length : Int) 100) : Int).toNat)).bind fun t132 => (if t132.length < 17592186044416 then ((some (t132 ++ [a2] : List Int)).bind fun y135 => ((slices_Clone_int_int.f y135).bind fun t138 => ((tourmake_Below.f a1 (y135.length : Int)).bind fun t141 => (if 0 ≤ t141 then (if t141 < (t138.length : Int) then ((some (t138.set (t141 : Int).toNat (wrap64 ((rd t138 t141) + 1)) : List Int)).bind fun y143 => ((tourmake_Bytes.f k y135).bind fun t144 => ((slices_Clone_byte_byte.f t144).bind fun t147 => (if (t147.length : Int) > 0 then ((tourmake_Below.f t141 (t147.length : Int)).bind fun t150 => (if 0 ≤ t150 then (if t150 < (t147.length : Int) then (tourkeep1_SumApart.j0 k y135 a2 a3 a4 y143 t144 (t147.set (t150 : Int).toNat (Go.bits .xor .u8 (rd t147 t150) 1))) else (none)) else (none))) else (tourkeep1_SumApart.j0 k y135 a2 a3 a4 y143 t144 t147))))) else (none)) else (none))))) else (none))) else (none)) else (none)))) = some r := H
 have A6 := Aside0.mk A60
 clear A60
 replace H := Option.bind_eq_some_iff.mp H
 obtain ⟨t130, A70, H⟩ := H
 replace H : (if t129 = t130 then (none) else (if 0 ≤ (mn (l0.length : Int) 100) then (if (mn (l0.length : Int) 100) ≤ (l0.length : Int) then ((slices_Clone_int_int.f (l0.take ((mn (l0.length : Int) 100) : Int).toNat)).bind fun t132 => (if t132.length < 17592186044416 then ((some (t132 ++ [a2] : List Int)).bind fun y135 => ((slices_Clone_int_int.f y135).bind fun t138 => ((tourmake_Below.f a1 (y135.length : Int)).bind fun t141 => (if 0 ≤ t141 then (if t141 < (t138.length : Int) then ((some (t138.set (t141 : Int).toNat (wrap64 ((rd t138 t141) + 1)) : List Int)).bind fun y143 => ((tourmake_Bytes.f k y135).bind fun t144 => ((slices_Clone_byte_byte.f t144).bind fun t147 => (if (t147.length : Int) > 0 then ((tourmake_Below.f t141 (t147.length : Int)).bind fun t150 => (if 0 ≤ t150 then (if t150 < (t147.length : Int) then (tourkeep1_SumApart.j0 k y135 a2 a3 a4 y143 t144 (t147.set (t150 : Int).toNat (Go.bits .xor .u8 (rd t147 t150) 1))) else (none)) else (none))) else (tourkeep1_SumApart.j0 k y135 a2 a3 a4 y143 t144 t147))))) else (none)) else (none))))) else (none))) else (none)) else (none))) = some r := H
 have A7 := Aside0.mk A70
 clear A70
 by_cases c8 : t129 = t130
 ·
  rw [if_pos c8] at H
  exact absurd H (by simp)
 ·
  rw [if_neg c8] at H
  have c8b0 : (t129 == t130) = false := beq_eq_false_iff_ne.mpr c8
  have c8b1 : (t129 != t130) = true := bne_iff_ne.mpr c8
  obtain ⟨ji9, hji9⟩ : ∃ j_ : Int, (mn (l0.length : Int) 100) = j_ := ⟨_, rfl⟩
  replace H : (if 0 ≤ (ji9) then (if (ji9) ≤ (l0.length : Int) then ((slices_Clone_int_int.f (l0.take ((ji9) : Int).toNat)).bind fun t132 => (if t132.length < 17592186044416 then ((some (t132 ++ [a2] : List Int)).bind fun y135 => ((slices_Clone_int_int.f y135).bind fun t138 => ((tourmake_Below.f a1 (y135.length : Int)).bind fun t141 => (if 0 ≤ t141 then (if t141 < (t138.length : Int) then ((some (t138.set (t141 : Int).toNat (wrap64 ((rd t138 t141) + 1)) : List Int)).bind fun y143 => ((tourmake_Bytes.f k y135).bind fun t144 => ((slices_Clone_byte_byte.f t144).bind fun t147 => (if (t147.length : Int) > 0 then ((tourmake_Below.f t141 (t147.length : Int)).bind fun t150 => (if 0 ≤ t150 then (if t150 < (t147.length : Int) then (tourkeep1_SumApart.j0 k y135 a2 a3 a4 y143 t144 (t147.set (t150 : Int).toNat (Go.bits .xor .u8 (rd t147 t150) 1))) else (none)) else (none))) else (tourkeep1_SumApart.j0 k y135 a2 a3 a4 y143 t144 t147))))) else (none)) else (none))))) else (none))) else (none)) else (none)) = some r := by first | (rw [hji9] at H; exact H) | (simp only [hji9] at H ⊢; exact H)
  (try rw [hji9] at A6)
  (try rw [hji9] at A7)
  (try (have hji9h : ji9 ≤ 100 := by (rw [← hji9]; unfold mn; (repeat' split) <;> omega)))
  (try (have hji9g : ji9 ≤ 64 := by omega))
  (try (have hji9l : 0 ≤ ji9 := by (rw [← hji9]; unfold mn; (repeat' split) <;> omega)))
  (try (have hji9m : 0 ≤ ji9 := by omega))
  have hji9_ : (if 100 < (l0.length : Int) then 100 else (l0.length : Int)) = ji9 := hji9
  by_cases c10 : 0 ≤ (ji9)
  ·
   rw [if_pos c10] at H
   have c10b0 := eq_true c10
   have c10b1 : decide (0 ≤ (ji9)) = true := decide_eq_true c10
   clear c10
   by_cases c11 : (ji9) ≤ (l0.length : Int)
   ·
    rw [if_pos c11] at H
    have c11b0 := eq_true c11
    have c11b1 : decide ((ji9) ≤ (l0.length : Int)) = true := decide_eq_true c11
    clear c11
    replace H := Option.bind_eq_some_iff.mp H
    obtain ⟨t132, A120, H⟩ := H
    replace H : (if t132.length < 17592186044416 then ((some (t132 ++ [a2] : List Int)).bind fun y135 => ((slices_Clone_int_int.f y135).bind fun t138 => ((tourmake_Below.f a1 (y135.length : Int)).bind fun t141 => (if 0 ≤ t141 then (if t141 < (t138.length : Int) then ((some (t138.set (t141 : Int).toNat (wrap64 ((rd t138 t141) + 1)) : List Int)).bind fun y143 => ((tourmake_Bytes.f k y135).bind fun t144 => ((slices_Clone_byte_byte.f t144).bind fun t147 => (if (t147.length : Int) > 0 then ((tourmake_Below.f t141 (t147.length : Int)).bind fun t150 => (if 0 ≤ t150 then (if t150 < (t147.length : Int) then (tourkeep1_SumApart.j0 k y135 a2 a3 a4 y143 t144 (t147.set (t150 : Int).toNat (Go.bits .xor .u8 (rd t147 t150) 1))) else (none)) else (none))) else (tourkeep1_SumApart.j0 k y135 a2 a3 a4 y143 t144 t147))))) else (none)) else (none))))) else (none)) = some r := H
    have A12 := Aside0.mk A120
    clear A120
    by_cases c13 : t132.length < 17592186044416
    ·
     rw [if_pos c13] at H
     have LMc13 := Aside0.mk c13
     clear c13
     obtain ⟨y135, hy135⟩ : ∃ y_ : List Int, y_ = (t132 ++ [a2]) := ⟨_, rfl⟩
     replace H : ((slices_Clone_int_int.f y135).bind fun t138 => ((tourmake_Below.f a1 (y135.length : Int)).bind fun t141 => (if 0 ≤ t141 then (if t141 < (t138.length : Int) then ((some (t138.set (t141 : Int).toNat (wrap64 ((rd t138 t141) + 1)) : List Int)).bind fun y143 => ((tourmake_Bytes.f k y135).bind fun t144 => ((slices_Clone_byte_byte.f t144).bind fun t147 => (if (t147.length : Int) > 0 then ((tourmake_Below.f t141 (t147.length : Int)).bind fun t150 => (if 0 ≤ t150 then (if t150 < (t147.length : Int) then (tourkeep1_SumApart.j0 k y135 a2 a3 a4 y143 t144 (t147.set (t150 : Int).toNat (Go.bits .xor .u8 (rd t147 t150) 1))) else (none)) else (none))) else (tourkeep1_SumApart.j0 k y135 a2 a3 a4 y143 t144 t147))))) else (none)) else (none)))) = some r := by first | (rw [hy135]; with_reducible exact H) | (have H2_ := (Option.bind_some _ _).symm.trans H; rw [hy135]; with_reducible exact H2_) | (have H2_ := (Option.bind_some _ _).symm.trans H; with_reducible exact H2_) | with_reducible exact H | (rw [hy135]; exact H) | exact H
     have Ny135 := Aside0.mk hy135
     clear hy135
     replace H := Option.bind_eq_some_iff.mp H
     obtain ⟨t138, A140, H⟩ := H
     replace H : ((tourmake_Below.f a1 (y135.length : Int)).bind fun t141 => (if 0 ≤ t141 then (if t141 < (t138.length : Int) then ((some (t138.set (t141 : Int).toNat (wrap64 ((rd t138 t141) + 1)) : List Int)).bind fun y143 => ((tourmake_Bytes.f k y135).bind fun t144 => ((slices_Clone_byte_byte.f t144).bind fun t147 => (if (t147.length : Int) > 0 then ((tourmake_Below.f t141 (t147.length : Int)).bind fun t150 => (if 0 ≤ t150 then (if t150 < (t147.length : Int) then (tourkeep1_SumApart.j0 k y135 a2 a3 a4 y143 t144 (t147.set (t150 : Int).toNat (Go.bits .xor .u8 (rd t147 t150) 1))) else (none)) else (none))) else (tourkeep1_SumApart.j0 k y135 a2 a3 a4 y143 t144 t147))))) else (none)) else (none))) = some r := H
     have A14 := Aside0.mk A140
     clear A140
     replace H := Option.bind_eq_some_iff.mp H
     obtain ⟨t141, A150, H⟩ := H
     replace H : (if 0 ≤ t141 then (if t141 < (t138.length : Int) then ((some (t138.set (t141 : Int).toNat (wrap64 ((rd t138 t141) + 1)) : List Int)).bind fun y143 => ((tourmake_Bytes.f k y135).bind fun t144 => ((slices_Clone_byte_byte.f t144).bind fun t147 => (if (t147.length : Int) > 0 then ((tourmake_Below.f t141 (t147.length : Int)).bind fun t150 => (if 0 ≤ t150 then (if t150 < (t147.length : Int) then (tourkeep1_SumApart.j0 k y135 a2 a3 a4 y143 t144 (t147.set (t150 : Int).toNat (Go.bits .xor .u8 (rd t147 t150) 1))) else (none)) else (none))) else (tourkeep1_SumApart.j0 k y135 a2 a3 a4 y143 t144 t147))))) else (none)) else (none)) = some r := H
     have A15 := Aside0.mk A150
     clear A150
     by_cases c16 : 0 ≤ t141
     ·
      rw [if_pos c16] at H
      have c16b0 : decide (0 ≤ t141) = true := decide_eq_true c16
      clear c16
      by_cases c17 : t141 < (t138.length : Int)
      ·
       rw [if_pos c17] at H
       have c17b0 : decide (t141 < (t138.length : Int)) = true := decide_eq_true c17
       clear c17
       obtain ⟨y143, hy143⟩ : ∃ y_ : List Int, y_ = (t138.set (t141 : Int).toNat (wrap64 ((rd t138 t141) + 1))) := ⟨_, rfl⟩
       replace H : ((tourmake_Bytes.f k y135).bind fun t144 => ((slices_Clone_byte_byte.f t144).bind fun t147 => (if (t147.length : Int) > 0 then ((tourmake_Below.f t141 (t147.length : Int)).bind fun t150 => (if 0 ≤ t150 then (if t150 < (t147.length : Int) then (tourkeep1_SumApart.j0 k y135 a2 a3 a4 y143 t144 (t147.set (t150 : Int).toNat (Go.bits .xor .u8 (rd t147 t150) 1))) else (none)) else (none))) else (tourkeep1_SumApart.j0 k y135 a2 a3 a4 y143 t144 t147)))) = some r := by first | (rw [hy143]; with_reducible exact H) | (have H2_ := (Option.bind_some _ _).symm.trans H; rw [hy143]; with_reducible exact H2_) | (have H2_ := (Option.bind_some _ _).symm.trans H; with_reducible exact H2_) | with_reducible exact H | (rw [hy143]; exact H) | exact H
       have Ny143 := Aside0.mk hy143
       clear hy143
       replace H := Option.bind_eq_some_iff.mp H
       obtain ⟨t144, A190, H⟩ := H
       replace H : ((slices_Clone_byte_byte.f t144).bind fun t147 => (if (t147.length : Int) > 0 then ((tourmake_Below.f t141 (t147.length : Int)).bind fun t150 => (if 0 ≤ t150 then (if t150 < (t147.length : Int) then (tourkeep1_SumApart.j0 k y135 a2 a3 a4 y143 t144 (t147.set (t150 : Int).toNat (Go.bits .xor .u8 (rd t147 t150) 1))) else (none)) else (none))) else (tourkeep1_SumApart.j0 k y135 a2 a3 a4 y143 t144 t147))) = some r := H
       have A19 := Aside0.mk A190
       clear A190
       replace H := Option.bind_eq_some_iff.mp H
       obtain ⟨t147, A200, H⟩ := H
       replace H : (if (t147.length : Int) > 0 then ((tourmake_Below.f t141 (t147.length : Int)).bind fun t150 => (if 0 ≤ t150 then (if t150 < (t147.length : Int) then (tourkeep1_SumApart.j0 k y135 a2 a3 a4 y143 t144 (t147.set (t150 : Int).toNat (Go.bits .xor .u8 (rd t147 t150) 1))) else (none)) else (none))) else (tourkeep1_SumApart.j0 k y135 a2 a3 a4 y143 t144 t147)) = some r := H
       have A20 := Aside0.mk A200
       clear A200
       have HC21 := Aside0.mk H
       clear H
       go_enter Try.func6, Try.ntmps6
       go_upto_if 44 with (first | ((with_reducible refine gate_callee (f := 21) rfl ?_); refine goesL_ (some 14) rfl rfl Try.func21 (by kernel_rfl) rfl #[.slice none 0 0] rfl (by (try simp only [List.map_toArray, List.map_cons, List.map_nil]); first | done | rfl | (simp only [List.length_drop, List.length_take]; rfl)) ?_; (refine (sum_Words.calls k _ _ ([] : List Int) t129 _ ?side1 ?side2 A6.out).mono ?_); (case side1 => exact Kd.C_nil _ _); (case side2 => exact Nat.le_refl _); rintro e w' ⟨rfl, ⟨nd, rfl⟩⟩; refine ⟨_, rfl, ?_⟩) | ((with_reducible refine gate_callee (f := 22) rfl ?_); refine goesL_ (some 15) rfl rfl Try.func22 (by kernel_rfl) rfl #[.slice none 0 0] rfl (by (try simp only [List.map_toArray, List.map_cons, List.map_nil]); first | done | rfl | (simp only [List.length_drop, List.length_take]; rfl)) ?_; (refine (sum_Bytes.calls k (fun k_ => False) _ _ ([] : List Int) t130 _ ?side1 A7.out).mono ?_); (case side1 => exact Kd.V_nil _ _ _ _ _); rintro e w22 ⟨rfl, hb⟩; refine ⟨_, rfl, ?_⟩; have n0_ := Aside0.mk (below_step (by repeat (first | (with_reducible first | exact HB.out | apply below_alloc | apply pw_below_drewN | apply below_drew1) | exact HB.out)) hb); clear HB; have HB := n0_; clear n0_; (try clear hb); (try clear hb2); (try clear hk); (try clear hi); obtain ⟨i023, hi023, _, hsz23, _⟩ := info_parts info3; obtain ⟨hcut23, hA23, hC23⟩ := print_take_of (P := Try.prog) (Value.int .i64) 0 37 3 .i64 Try.underlying37 hi023 hsz23 A0 c0 l0 (ji9) (of_decide_eq_true (by first | (with_reducible assumption) | assumption)) (of_decide_eq_true (by first | (with_reducible assumption) | assumption)) HC0.out; have HR131 := Aside0.mk (Kd.C_of_reads (h1 := fun _ => rfl) (hA23 _ (Kd.reads_of_C HR0.out))); have HC131 := Aside0.mk hC23; clear hA23 hC23 hi023 hsz23) | ((with_reducible refine gate_callee (f := 19) rfl ?_); refine goesL_ (some 22) rfl rfl Try.func19 (by kernel_rfl) rfl #[.slice A0 (l0.take ((ji9) : Int).toNat).length c0] rfl (by (try simp only [List.map_toArray, List.map_cons, List.map_nil]); first | done | (rw [show (l0.take ((ji9) : Int).toNat).length = (ji9).toNat from (by rw [List.length_take]; have h_ : ((ji9) : Int) ≤ (l0.length : Int) := of_decide_eq_true (by first | (with_reducible assumption) | assumption); omega)] <;> rfl) | (simp only [hji9]; rfl) | rfl | (simp only [List.length_drop, List.length_take]; rfl)) ?_; (with_reducible refine (slices_Clone_int_int.calls _ _ (l0.take ((ji9) : Int).toNat) t132 _ ?side1 ?side2 A12.out).mono ?_); (case side1 => repeat (first | exact (Kd.C_below HR131.out HB.out) | (with_reducible refine Kd.C_alloc ?_ _) | (with_reducible refine Kd.C_drewN ?_ _) | (with_reducible refine Kd.C_drew ?_))); (case side2 => exact HC131.out); rintro e w24 ⟨v133, rfl, ho0, hb⟩; refine ⟨_, rfl, ?_⟩; have n0_ := Aside0.mk (Kd.R_lower ho0 (below_size (by repeat (first | (with_reducible first | exact HB.out | apply below_alloc | apply pw_below_drewN | apply below_drew1) | exact HB.out)))); have n1_ := Aside0.mk (below_step (by repeat (first | (with_reducible first | exact HB.out | apply below_alloc | apply pw_below_drewN | apply below_drew1) | exact HB.out)) hb); clear HB; have HO134 := n0_; have HB := n1_; clear n0_ n1_; (try clear hb); (try clear hb2); (try clear hk); (try clear hi); (try clear ho0)) | ((with_reducible refine gate_builtin (b := .append) (xs := #[.tmp 22, .tmp 24]) rfl ?_); (try (refine gate_guard (by rfl) ?_; dsimp only)); at_builtin; refine Kd.R_append (Kd.int .i64) (w0 := w) w.heap.size rfl (.tmp 22) (.tmp 24) 37 3 (.int .i64 0) 8 rfl Try.underlying37 info3 rfl (by decide) (by omega) v133 t132 a2 [.int .i64 a2] (fun _ => True) (fun _ => False) rfl rfl ?aP (fun _ hk => hk.elim) ?aF ?aO ?aB ?aS ?aL ?_; (case aP => exact rfl); (case aB => exact (by repeat (first | (with_reducible first | exact HB.out | apply below_alloc | apply pw_below_drewN | apply below_drew1) | exact HB.out))); (case aF => exact (fun _ _ => trivial)); (case aO => exact (by (with_reducible repeat (first | apply Kd.R_alloc | apply Kd.R_drewN | apply Kd.R_drew)); exact HO134.out)); (case aS => exact (below_size (by repeat (first | (with_reducible first | exact HB.out | apply below_alloc | apply pw_below_drewN | apply below_drew1) | exact HB.out)))); (case aL => have := LMc13.out; omega); intro v136 w25 ho hb hg hat; rw [← Ny135.out] at ho; have n0_ := Aside0.mk (hb); have n1_ := Aside0.mk (ho); clear HB; clear HO134; have HB := n0_; have HO137 := n1_; clear n0_ n1_; clear ho hb hg hat; obtain ⟨Ao26, co26, eo26⟩ := Kd.R_slice HO137.out; subst eo26) | ((with_reducible refine gate_callee (f := 19) rfl ?_); refine goesL_ (some 27) rfl rfl Try.func19 (by kernel_rfl) rfl #[.slice Ao26 y135.length co26] rfl (by (try simp only [List.map_toArray, List.map_cons, List.map_nil]); first | done | rfl | (simp only [List.length_drop, List.length_take]; rfl)) ?_; (with_reducible refine (slices_Clone_int_int.calls _ _ y135 t138 _ ?side1 ?side2 A14.out).mono ?_); (case side1 => repeat (first | exact (Kd.R_reads' HO137.out).2.2 | (with_reducible refine Kd.C_alloc ?_ _) | (with_reducible refine Kd.C_drewN ?_ _) | (with_reducible refine Kd.C_drew ?_))); (case side2 => exact (Kd.R_reads' HO137.out).2.1); rintro e w27 ⟨v139, rfl, ho0, hb⟩; refine ⟨_, rfl, ?_⟩; have n0_ := Aside0.mk (Kd.R_elder' (by (with_reducible repeat (first | apply Kd.R_alloc | apply Kd.R_drewN | apply Kd.R_drew)); exact HO137.out) (Kd.R_base ho0) hb); have n1_ := Aside0.mk (Kd.R_lower (Kd.R_new' ho0 (Kd.R_lt (by (with_reducible repeat (first | apply Kd.R_alloc | apply Kd.R_drewN | apply Kd.R_drew)); exact HO137.out))) (below_size (by repeat (first | (with_reducible first | exact HB.out | apply below_alloc | apply pw_below_drewN | apply below_drew1) | exact HB.out)))); have n2_ := Aside0.mk (below_step (by repeat (first | (with_reducible first | exact HB.out | apply below_alloc | apply pw_below_drewN | apply below_drew1) | exact HB.out)) hb); clear HO137; clear HB; have HO137 := n0_; have HO140 := n1_; have HB := n2_; clear n0_ n1_ n2_; (try clear hb); (try clear hb2); (try clear hk); (try clear hi); (try clear ho0)) | ((with_reducible refine gate_callee (f := 16) rfl ?_); refine goesL_ (some 31) rfl rfl Try.func16 (by kernel_rfl) rfl #[.int .i64 a1, .int .i64 (y135.length : Int)] rfl (by (try simp only [List.map_toArray, List.map_cons, List.map_nil]); first | done | rfl | (simp only [List.length_drop, List.length_take]; rfl)) ?_; (with_reducible refine (tourmake_Below.calls a1 (y135.length : Int) t141 _ A15.out).mono ?_); rintro e w' ⟨rfl, ⟨nd, rfl⟩⟩; refine ⟨_, rfl, ?_⟩; (try (rw [drewN_self w27]; generalize hq_ : World.drewN w27 _ = w27; have n0_ := Aside0.mk (Kd.R_at hq_ HO137.out); have n1_ := Aside0.mk (Kd.R_at hq_ HO140.out); have n2_ := Aside0.mk (below_at hq_ HB.out); clear hq_ HO137 HO140 HB; have HO137 := n0_; have HO140 := n1_; have HB := n2_; clear n0_ n1_ n2_)); obtain ⟨Ao28, co28, eo28⟩ := Kd.R_slice HO140.out; subst eo28; have p142 : 0 ≤ (t141 : Int) := of_decide_eq_true (by first | (with_reducible assumption) | assumption); have q142 : t141 < (t138.length : Int) := of_decide_eq_true (by first | (with_reducible assumption) | assumption); obtain ⟨ad142, e142, hx142_0⟩ := Kd.at_int (Kd.R_reads' HO140.out).2.2 t141 p142 q142; cases e142; replace p142 := eq_true p142; replace q142 := eq_true q142; have p18 : 0 ≤ (t141 : Int) := of_decide_eq_true (by first | (with_reducible assumption) | assumption); have q18 : (t141 : Int) < ((t138.length : Int) : Int) := of_decide_eq_true (by first | (with_reducible assumption) | assumption); obtain ⟨go18, co18, eo18, gb18, gl18, cl18, HG18⟩ := Kd.R_form HO140.out (by omega); (first | cases eo18 | (injection eo18 with ea_ en_ ec_; (first | subst ea_ | (injection ea_ with ea_; subst ea_)); subst ec_; clear en_)); have GB18 := Aside0.mk gb18; have GG18 := Aside0.mk HG18; clear gb18 gl18 HG18; (first | simp only [add_plain] at hx142_0 | skip); obtain ⟨hx18_0, hf18_0⟩ := Kd.R_celln 0 HO140.out (t141 : Int) p18 q18; replace p18 := eq_true p18; replace q18 := eq_true q18; have n_ := Aside0.mk (Kd.R_mono (ok' := (fun k_ => some k_ ≠ (.slice Ao26 y135.length co26 : Value).ownBlock)) HO140.out (fun k_ hk => by first | exact hk.2 | exact hk)); clear HO140; have HO140 := n_; clear n_; obtain ⟨hy29_, hz29_⟩ := Kd.R_celln 0 HO140.out (t141 : Int) (of_decide_eq_true (by first | (with_reducible assumption) | assumption)) (of_decide_eq_true (by first | (with_reducible assumption) | assumption)); have HP29 := Kd.R_putg HO140.out (t141 : Int) (wrap64 ((rd t138 t141) + 1))) | ((with_reducible refine gate_store (t := 3) (p := 37) rfl ?_); refine store_event (t := 3) (p := 37) (v := ?vo_w30) (w1 := (w27.setCell ⟨go18, (t141 : Int).toNat, none⟩ (.int .i64 (wrap64 ((rd t138 t141) + 1))))) ?hg ?ho ?hn ?hr ?_; (case ho => rfl); (case hg => rfl); (case hn => rfl); (case hr => first | (go_simp; done) | (go_simp; rfl)); intro w30 hw; have hg : w27.grownBy w30 (some go18) := (by rw [hw]; exact HP29.2); have hp_ : Kd.R (Kd.int .i64) 3 w30 w.heap.size (fun k_ => some k_ ≠ (.slice Ao26 y135.length co26 : Value).ownBlock) (.slice (some ⟨go18, 0, none⟩) t138.length co28) y143 := (by rw [hw, Ny143.out]; exact HP29.1); clear HP29; have n0_ := Aside0.mk (Kd.R_after (v := (.slice (some ⟨go18, 0, none⟩) t138.length co28)) (v1 := (.slice (some ⟨go18, 0, none⟩) t138.length co28)) (ok := (fun _ => True)) (by (with_reducible repeat (first | apply Kd.R_alloc | apply Kd.R_drewN | apply Kd.R_drew)); exact HO137.out) hg (.inl rfl)); have n1_ := Aside0.mk (hp_); have n2_ := Aside0.mk ((by rw [hw]; exact below_set (HB.out) GB18.out : Below w.heap.size w w30)); clear HO137; clear HO140; clear HB; have HO137 := n0_; have HO140 := n1_; have HB := n2_; clear n0_ n1_ n2_; clear hg hw hp_) | ((with_reducible refine gate_callee (f := 23) rfl ?_); refine goesL_ (some 39) rfl rfl Try.func23 (by kernel_rfl) rfl #[.slice Ao26 y135.length co26] rfl (by (try simp only [List.map_toArray, List.map_cons, List.map_nil]); first | done | rfl | (simp only [List.length_drop, List.length_take]; rfl)) ?_; (with_reducible refine (tourmake_Bytes.calls k _ _ y135 t144 _ ?side1 ?side2 A19.out).mono ?_); (case side1 => repeat (first | exact (Kd.R_reads' HO137.out).2.2 | (with_reducible refine Kd.C_alloc ?_ _) | (with_reducible refine Kd.C_drewN ?_ _) | (with_reducible refine Kd.C_drew ?_))); (case side2 => exact (Kd.R_reads' HO137.out).2.1); rintro e w31 ⟨v145, rfl, ho0, hb⟩; refine ⟨_, rfl, ?_⟩; have n0_ := Aside0.mk (Kd.R_below (by (with_reducible repeat (first | apply Kd.R_alloc | apply Kd.R_drewN | apply Kd.R_drew)); exact HO137.out) hb); have n1_ := Aside0.mk (Kd.R_below (by (with_reducible repeat (first | apply Kd.R_alloc | apply Kd.R_drewN | apply Kd.R_drew)); exact HO140.out) hb); have n2_ := Aside0.mk (Kd.R_lower ho0 (below_size (by repeat (first | (with_reducible first | exact HB.out | apply below_alloc | apply pw_below_drewN | apply below_drew1) | exact HB.out)))); have n3_ := Aside0.mk (below_step (by repeat (first | (with_reducible first | exact HB.out | apply below_alloc | apply pw_below_drewN | apply below_drew1) | exact HB.out)) hb); clear HO137; clear HO140; clear HB; have HO137 := n0_; have HO140 := n1_; have HO146 := n2_; have HB := n3_; clear n0_ n1_ n2_ n3_; (try clear hb); (try clear hb2); (try clear hk); (try clear hi); (try clear ho0); obtain ⟨Ao32, co32, eo32⟩ := Kd.R_slice HO146.out; subst eo32) | ((with_reducible refine gate_callee (f := 24) rfl ?_); refine goesL_ (some 41) rfl rfl Try.func24 (by kernel_rfl) rfl #[.slice Ao32 t144.length co32] rfl (by (try simp only [List.map_toArray, List.map_cons, List.map_nil]); first | done | rfl | (simp only [List.length_drop, List.length_take]; rfl)) ?_; (with_reducible refine (slices_Clone_byte_byte.calls _ _ t144 t147 _ ?side1 ?side2 A20.out).mono ?_); (case side1 => repeat (first | exact (Kd.R_reads' HO146.out).2.2 | (with_reducible refine Kd.C_alloc ?_ _) | (with_reducible refine Kd.C_drewN ?_ _) | (with_reducible refine Kd.C_drew ?_))); (case side2 => exact (Kd.R_reads' HO146.out).2.1); rintro e w33 ⟨v148, rfl, ho0, hb⟩; refine ⟨_, rfl, ?_⟩; have n0_ := Aside0.mk (Kd.R_below (by (with_reducible repeat (first | apply Kd.R_alloc | apply Kd.R_drewN | apply Kd.R_drew)); exact HO137.out) hb); have n1_ := Aside0.mk (Kd.R_below (by (with_reducible repeat (first | apply Kd.R_alloc | apply Kd.R_drewN | apply Kd.R_drew)); exact HO140.out) hb); have n2_ := Aside0.mk (Kd.R_elder' (by (with_reducible repeat (first | apply Kd.R_alloc | apply Kd.R_drewN | apply Kd.R_drew)); exact HO146.out) (Kd.R_base ho0) hb); have n3_ := Aside0.mk (Kd.R_lower (Kd.R_new' ho0 (Kd.R_lt (by (with_reducible repeat (first | apply Kd.R_alloc | apply Kd.R_drewN | apply Kd.R_drew)); exact HO146.out))) (below_size (by repeat (first | (with_reducible first | exact HB.out | apply below_alloc | apply pw_below_drewN | apply below_drew1) | exact HB.out)))); have n4_ := Aside0.mk (below_step (by repeat (first | (with_reducible first | exact HB.out | apply below_alloc | apply pw_below_drewN | apply below_drew1) | exact HB.out)) hb); clear HO137; clear HO140; clear HO146; clear HB; have HO137 := n0_; have HO140 := n1_; have HO146 := n2_; have HO149 := n3_; have HB := n4_; clear n0_ n1_ n2_ n3_ n4_; (try clear hb); (try clear hb2); (try clear hk); (try clear hi); (try clear ho0); obtain ⟨Ao34, co34, eo34⟩ := Kd.R_slice HO149.out; subst eo34))
       (try simp only [Act.put, List.setIfInBounds_toArray, List.set_cons_zero, List.set_cons_succ])
       go_cut [] (fun wc => ∃ (kq : Nat) (x13_20 : List Int), Aside0 (tourkeep1_SumApart.j0 kq y135 a2 a3 a4 y143 t144 x13_20 = some r) ∧ Aside0 (kq ≤ k) ∧ Aside0 (Kd.R (Kd.int .i64) 3 wc w.heap.size (fun k_ => some k_ ≠ ((.slice (some ⟨go18, 0, none⟩) t138.length co28) : Value).ownBlock) (.slice Ao26 y135.length co26) y135) ∧ Aside0 (Kd.R (Kd.int .i64) 3 wc w.heap.size (fun k_ => some k_ ≠ ((.slice Ao26 y135.length co26) : Value).ownBlock) (.slice (some ⟨go18, 0, none⟩) t138.length co28) y143) ∧ Aside0 (Kd.R (Kd.int .u8) 5 wc w.heap.size (fun k_ => some k_ ≠ ((.slice Ao34 t147.length co34) : Value).ownBlock) (.slice Ao32 t144.length co32) t144) ∧ Aside0 (Kd.R (Kd.int .u8) 5 wc w.heap.size (fun k_ => some k_ ≠ ((.slice Ao32 t144.length co32) : Value).ownBlock) (.slice Ao34 t147.length co34) x13_20) ∧ Aside0 (Below w.heap.size w wc))
       case first =>
        have H := HC21.out
        clear HC21
        by_cases c35 : (t147.length : Int) > 0
        ·
         rw [if_pos c35] at H
         have c35b0 : decide (0 < (t147.length : Int)) = true := decide_eq_true c35
         have c35b1 : decide (0 < t147.length) = true := decide_eq_true (by omega)
         clear c35
         (first | rw [c35b0] | rw [c35b1] | (simp only [i64_w, i32_w]; rw [c35b0]) | skip)
         replace H := Option.bind_eq_some_iff.mp H
         obtain ⟨t150, A360, H⟩ := H
         replace H : (if 0 ≤ t150 then (if t150 < (t147.length : Int) then (tourkeep1_SumApart.j0 k y135 a2 a3 a4 y143 t144 (t147.set (t150 : Int).toNat (Go.bits .xor .u8 (rd t147 t150) 1))) else (none)) else (none)) = some r := H
         have A36 := Aside0.mk A360
         clear A360
         by_cases c37 : 0 ≤ t150
         ·
          rw [if_pos c37] at H
          have c37b0 : decide (0 ≤ t150) = true := decide_eq_true c37
          clear c37
          by_cases c38 : t150 < (t147.length : Int)
          ·
           rw [if_pos c38] at H
           have c38b0 : decide (t150 < (t147.length : Int)) = true := decide_eq_true c38
           clear c38
           obtain ⟨y152, hy152⟩ : ∃ y_ : List Int, y_ = (t147.set (t150 : Int).toNat (Go.bits .xor .u8 (rd t147 t150) 1)) := ⟨_, rfl⟩
           replace H : (tourkeep1_SumApart.j0 k y135 a2 a3 a4 y143 t144 y152) = some r := by first | (rw [hy152]; with_reducible exact H) | (have H2_ := (Option.bind_some _ _).symm.trans H; rw [hy152]; with_reducible exact H2_) | (have H2_ := (Option.bind_some _ _).symm.trans H; with_reducible exact H2_) | with_reducible exact H | (rw [hy152]; exact H) | exact H
           have Ny152 := Aside0.mk hy152
           clear hy152
           have H' := Aside0.mk H
           clear H
           go_wp2_with (first | ((with_reducible refine gate_callee (f := 16) rfl ?_); refine goesL_ (some 49) rfl rfl Try.func16 (by kernel_rfl) rfl #[.int .i64 t141, .int .i64 (t147.length : Int)] rfl (by (try simp only [List.map_toArray, List.map_cons, List.map_nil]); first | done | rfl | (simp only [List.length_drop, List.length_take]; rfl)) ?_; (with_reducible refine (tourmake_Below.calls t141 (t147.length : Int) t150 _ A36.out).mono ?_); rintro e w' ⟨rfl, ⟨nd, rfl⟩⟩; refine ⟨_, rfl, ?_⟩; (try (rw [drewN_self w33]; generalize hq_ : World.drewN w33 _ = w33; have n0_ := Aside0.mk (Kd.R_at hq_ HO137.out); have n1_ := Aside0.mk (Kd.R_at hq_ HO140.out); have n2_ := Aside0.mk (Kd.R_at hq_ HO146.out); have n3_ := Aside0.mk (Kd.R_at hq_ HO149.out); have n4_ := Aside0.mk (below_at hq_ HB.out); clear hq_ HO137 HO140 HO146 HO149 HB; have HO137 := n0_; have HO140 := n1_; have HO146 := n2_; have HO149 := n3_; have HB := n4_; clear n0_ n1_ n2_ n3_ n4_)); have p151 : 0 ≤ (t150 : Int) := of_decide_eq_true (by first | (with_reducible assumption) | assumption); have q151 : t150 < (t147.length : Int) := of_decide_eq_true (by first | (with_reducible assumption) | assumption); obtain ⟨ad151, e151, hx151_0⟩ := Kd.at_int (Kd.R_reads' HO149.out).2.2 t150 p151 q151; cases e151; replace p151 := eq_true p151; replace q151 := eq_true q151; have p39 : 0 ≤ (t150 : Int) := of_decide_eq_true (by first | (with_reducible assumption) | assumption); have q39 : (t150 : Int) < ((t147.length : Int) : Int) := of_decide_eq_true (by first | (with_reducible assumption) | assumption); obtain ⟨go39, co39, eo39, gb39, gl39, cl39, HG39⟩ := Kd.R_form HO149.out (by omega); (first | cases eo39 | (injection eo39 with ea_ en_ ec_; (first | subst ea_ | (injection ea_ with ea_; subst ea_)); subst ec_; clear en_)); have GB39 := Aside0.mk gb39; have GG39 := Aside0.mk HG39; clear gb39 gl39 HG39; (first | simp only [add_plain] at hx151_0 | skip); obtain ⟨hx39_0, hf39_0⟩ := Kd.R_celln 0 HO149.out (t150 : Int) p39 q39; replace p39 := eq_true p39; replace q39 := eq_true q39; have n_ := Aside0.mk (Kd.R_mono (ok' := (fun k_ => some k_ ≠ (.slice Ao32 t144.length co32 : Value).ownBlock)) HO149.out (fun k_ hk => by first | exact hk.2 | exact hk)); clear HO149; have HO149 := n_; clear n_; obtain ⟨hy40_, hz40_⟩ := Kd.R_celln 0 HO149.out (t150 : Int) (of_decide_eq_true (by first | (with_reducible assumption) | assumption)) (of_decide_eq_true (by first | (with_reducible assumption) | assumption)); have HP40 := Kd.R_putg HO149.out (t150 : Int) (Go.bits .xor .u8 (rd t147 t150) 1)) | ((with_reducible refine gate_store (t := 5) (p := 53) rfl ?_); refine store_event (t := 5) (p := 53) (v := ?vo_w41) (w1 := (w33.setCell ⟨go39, (t150 : Int).toNat, none⟩ (.int .u8 (Go.bits .xor .u8 (rd t147 t150) 1)))) ?hg ?ho ?hn ?hr ?_; (case ho => rfl); (case hg => rfl); (case hn => rfl); (case hr => first | (go_simp; done) | (go_simp; rfl)); intro w41 hw; have hg : w33.grownBy w41 (some go39) := (by rw [hw]; exact HP40.2); have hp_ : Kd.R (Kd.int .u8) 5 w41 w.heap.size (fun k_ => some k_ ≠ (.slice Ao32 t144.length co32 : Value).ownBlock) (.slice (some ⟨go39, 0, none⟩) t147.length co34) y152 := (by rw [hw, Ny152.out]; exact HP40.1); clear HP40; have n0_ := Aside0.mk (Kd.R_over' (v := (.slice (some ⟨go39, 0, none⟩) t147.length co34)) (by (with_reducible repeat (first | apply Kd.R_alloc | apply Kd.R_drewN | apply Kd.R_drew)); exact HO137.out) (Kd.R_typed HO149.out) (by decide) hg); have n1_ := Aside0.mk (Kd.R_over' (v := (.slice (some ⟨go39, 0, none⟩) t147.length co34)) (by (with_reducible repeat (first | apply Kd.R_alloc | apply Kd.R_drewN | apply Kd.R_drew)); exact HO140.out) (Kd.R_typed HO149.out) (by decide) hg); have n2_ := Aside0.mk (Kd.R_after (v := (.slice (some ⟨go39, 0, none⟩) t147.length co34)) (v1 := (.slice (some ⟨go39, 0, none⟩) t147.length co34)) (ok := (fun _ => True)) (by (with_reducible repeat (first | apply Kd.R_alloc | apply Kd.R_drewN | apply Kd.R_drew)); exact HO146.out) hg (.inl rfl)); have n3_ := Aside0.mk (hp_); have n4_ := Aside0.mk ((by rw [hw]; exact below_set (HB.out) GB39.out : Below w.heap.size w w41)); clear HO137; clear HO140; clear HO146; clear HO149; clear HB; have HO137 := n0_; have HO140 := n1_; have HO146 := n2_; have HO149 := n3_; have HB := n4_; clear n0_ n1_ n2_ n3_ n4_; clear hg hw hp_))
           go_meet
           case rel => exact ⟨_, (y152), H', ⟨by first | omega | exact Nat.le_refl _⟩, ⟨by (with_reducible repeat (first | apply Kd.R_alloc | apply Kd.R_drewN | apply Kd.R_drew)); exact Kd.R_mono HO137.out (fun _ hk => hk.2)⟩, ⟨by (with_reducible repeat (first | apply Kd.R_alloc | apply Kd.R_drewN | apply Kd.R_drew)); exact HO140.out⟩, ⟨by (with_reducible repeat (first | apply Kd.R_alloc | apply Kd.R_drewN | apply Kd.R_drew)); exact Kd.R_mono HO146.out (fun _ hk => hk.2)⟩, ⟨by (with_reducible repeat (first | apply Kd.R_alloc | apply Kd.R_drewN | apply Kd.R_drew)); exact HO149.out⟩, ⟨by repeat (first | (with_reducible first | exact HB.out | apply below_alloc | apply pw_below_drewN | apply below_drew1) | exact HB.out)⟩⟩
          ·
           rw [if_neg c38] at H
           exact absurd H (by simp)
         ·
          rw [if_neg c37] at H
          exact absurd H (by simp)
        ·
         rw [if_neg c35] at H
         have c35b0 : decide (0 < (t147.length : Int)) = false := decide_eq_false c35
         have c35b1 : decide (0 < t147.length) = false := decide_eq_false (by omega)
         clear c35
         (first | rw [c35b0] | rw [c35b1] | (simp only [i64_w, i32_w]; rw [c35b0]) | skip)
         have H' := Aside0.mk H
         clear H
         go_wp2
         go_meet
         case rel => exact ⟨_, (t147), H', ⟨by first | omega | exact Nat.le_refl _⟩, ⟨by (with_reducible repeat (first | apply Kd.R_alloc | apply Kd.R_drewN | apply Kd.R_drew)); exact Kd.R_mono HO137.out (fun _ hk => hk.2)⟩, ⟨by (with_reducible repeat (first | apply Kd.R_alloc | apply Kd.R_drewN | apply Kd.R_drew)); exact HO140.out⟩, ⟨by (with_reducible repeat (first | apply Kd.R_alloc | apply Kd.R_drewN | apply Kd.R_drew)); exact Kd.R_mono HO146.out (fun _ hk => hk.2)⟩, ⟨by (with_reducible repeat (first | apply Kd.R_alloc | apply Kd.R_drewN | apply Kd.R_drew)); exact Kd.R_mono HO149.out (fun _ hk => hk.2)⟩, ⟨by repeat (first | (with_reducible first | exact HB.out | apply below_alloc | apply pw_below_drewN | apply below_drew1) | exact HB.out)⟩⟩
       case rest =>
        clear HC21
        try clear c1
        try clear p1
        try clear q1
        try clear hx1
        try clear c2
        try clear p2
        try clear c3
        try clear p3
        try clear q3
        try clear hx3
        try clear c6
        try clear p6
        try clear c8
        try clear c8b0
        try clear c8b1
        try clear c10
        try clear c10b0
        try clear c10b1
        try clear c11
        try clear c11b0
        try clear c11b1
        try clear c13
        try clear p14
        try clear q14
        try clear hx14
        try clear p15
        try clear q15
        try clear hx15
        try clear c16
        try clear c16b0
        try clear c17
        try clear c17b0
        try clear p18
        try clear q18
        try clear hx18
        try clear hf18
        try clear c19
        try clear c21
        try clear c22
        try clear c23
        try clear c24
        try clear c35
        try clear c35b0
        try clear c35b1
        try clear c37
        try clear c37b0
        try clear c38
        try clear c38b0
        try clear p39
        try clear q39
        try clear hx39
        try clear hf39
        try clear hx142_0
        try clear hx151_0
        try clear hx18_0
        try clear hx39_0
        try clear p142
        try clear p151
        try clear p18
        try clear p39
        try clear q142
        try clear q151
        try clear q18
        try clear q39
        obtain ⟨kq, x13_20, HA, HJ20, HO_0, HO_11, HO_12, HO_13, HB⟩ := hcut
        have hl11_20 := (Kd.R_reads' HO_11.out).1
        rw [hl11_20] at HO_11
        (try simp only [hl11_20])
        (try simp only [hl11_20] at HO_0)
        (try simp only [hl11_20] at HO_12)
        (try simp only [hl11_20] at HO_13)
        have hl13_20 := (Kd.R_reads' HO_13.out).1
        rw [hl13_20] at HO_13
        (try simp only [hl13_20])
        (try simp only [hl13_20] at HO_0)
        (try simp only [hl13_20] at HO_11)
        (try simp only [hl13_20] at HO_12)
        cases kq with
        | zero => exact absurd HA.out (by simp [tourkeep1_SumApart.j0])
        | succ kj20 =>
         have H := HA.out
         clear HA
         simp only [tourkeep1_SumApart.j0] at H
         replace H := Option.bind_eq_some_iff.mp H
         obtain ⟨t153, A420, H⟩ := H
         replace H : ((sum_Ints.f kj20 y143).bind fun t154 => (if t153 = t154 then (none) else (if (t144.length : Int) = 0 then (if a3 = a4 then (some true) else ((tourkeep1_n64.f a2).bind fun t155 => ((sum_Join.f a3 t155).bind fun t156 => ((tourkeep1_n64.f a2).bind fun t157 => ((sum_Join.f a4 t155).bind fun t158 => (if t156 = t158 then (none) else ((tourkeep1_n64.f a2).bind fun t159 => ((sum_Join.f t155 a3).bind fun t160 => ((tourkeep1_n64.f a2).bind fun t161 => ((sum_Join.f t155 a4).bind fun t162 => (some (t160 != t162)))))))))))) else ((sum_Bytes.f kj20 t144).bind fun t163 => ((sum_Bytes.f kj20 x13_20).bind fun t164 => (if t163 = t164 then (none) else (if a3 = a4 then (some true) else ((tourkeep1_n64.f a2).bind fun t165 => ((sum_Join.f a3 t165).bind fun t166 => ((tourkeep1_n64.f a2).bind fun t167 => ((sum_Join.f a4 t165).bind fun t168 => (if t166 = t168 then (none) else ((tourkeep1_n64.f a2).bind fun t169 => ((sum_Join.f t165 a3).bind fun t170 => ((tourkeep1_n64.f a2).bind fun t171 => ((sum_Join.f t165 a4).bind fun t172 => (some (t170 != t172)))))))))))))))))) = some r := H
         have A42 := Aside0.mk A420
         clear A420
         replace H := Option.bind_eq_some_iff.mp H
         obtain ⟨t154, A430, H⟩ := H
         replace H : (if t153 = t154 then (none) else (if (t144.length : Int) = 0 then (if a3 = a4 then (some true) else ((tourkeep1_n64.f a2).bind fun t155 => ((sum_Join.f a3 t155).bind fun t156 => ((tourkeep1_n64.f a2).bind fun t157 => ((sum_Join.f a4 t155).bind fun t158 => (if t156 = t158 then (none) else ((tourkeep1_n64.f a2).bind fun t159 => ((sum_Join.f t155 a3).bind fun t160 => ((tourkeep1_n64.f a2).bind fun t161 => ((sum_Join.f t155 a4).bind fun t162 => (some (t160 != t162)))))))))))) else ((sum_Bytes.f kj20 t144).bind fun t163 => ((sum_Bytes.f kj20 x13_20).bind fun t164 => (if t163 = t164 then (none) else (if a3 = a4 then (some true) else ((tourkeep1_n64.f a2).bind fun t165 => ((sum_Join.f a3 t165).bind fun t166 => ((tourkeep1_n64.f a2).bind fun t167 => ((sum_Join.f a4 t165).bind fun t168 => (if t166 = t168 then (none) else ((tourkeep1_n64.f a2).bind fun t169 => ((sum_Join.f t165 a3).bind fun t170 => ((tourkeep1_n64.f a2).bind fun t171 => ((sum_Join.f t165 a4).bind fun t172 => (some (t170 != t172))))))))))))))))) = some r := H
         have A43 := Aside0.mk A430
         clear A430
         by_cases c44 : t153 = t154
         ·
          rw [if_pos c44] at H
          exact absurd H (by simp)
         ·
          rw [if_neg c44] at H
          have c44b0 : (t153 == t154) = false := beq_eq_false_iff_ne.mpr c44
          have c44b1 : (t153 != t154) = true := bne_iff_ne.mpr c44
          by_cases c45 : (t144.length : Int) = 0
          ·
           rw [if_pos c45] at H
           have c45b0 : ((t144.length : Int) == 0) = true := beq_iff_eq.mpr c45
           have c45b1 : ((t144.length : Int) != 0) = false := bne_eq_false_iff_eq.mpr c45
           clear c45
           have c45b0x := c45b0
           (try simp only [hl11_20, hl13_20] at c45b0x)
           have c45b1x := c45b1
           (try simp only [hl11_20, hl13_20] at c45b1x)
           by_cases c46 : a3 = a4
           ·
            rw [if_pos c46] at H
            have c46b0 : (a3 == a4) = true := beq_iff_eq.mpr c46
            have c46b1 : (a3 != a4) = false := bne_eq_false_iff_eq.mpr c46
            clear c46
            obtain rfl := Option.some.inj H
            go_wp2_with (first | ((with_reducible refine gate_callee (f := 25) rfl ?_); refine goesL_ (some 55) rfl rfl Try.func25 (by kernel_rfl) rfl #[.slice Ao26 y135.length co26] rfl (by (try simp only [List.map_toArray, List.map_cons, List.map_nil]); first | done | rfl | (simp only [List.length_drop, List.length_take]; rfl)) ?_; (with_reducible refine (sum_Ints.calls kj20 _ _ y135 t153 _ ?side1 ?side2 A42.out).mono ?_); (case side1 => repeat (first | exact (Kd.R_reads' HO_0.out).2.2 | (with_reducible refine Kd.C_alloc ?_ _) | (with_reducible refine Kd.C_drewN ?_ _) | (with_reducible refine Kd.C_drew ?_))); (case side2 => exact (Kd.R_reads' HO_0.out).2.1); rintro e w47 ⟨rfl, hb⟩; refine ⟨_, rfl, ?_⟩; have n0_ := Aside0.mk (Kd.R_below (by (with_reducible repeat (first | apply Kd.R_alloc | apply Kd.R_drewN | apply Kd.R_drew)); exact HO_0.out) hb); have n1_ := Aside0.mk (Kd.R_below (by (with_reducible repeat (first | apply Kd.R_alloc | apply Kd.R_drewN | apply Kd.R_drew)); exact HO_11.out) hb); have n2_ := Aside0.mk (Kd.R_below (by (with_reducible repeat (first | apply Kd.R_alloc | apply Kd.R_drewN | apply Kd.R_drew)); exact HO_12.out) hb); have n3_ := Aside0.mk (Kd.R_below (by (with_reducible repeat (first | apply Kd.R_alloc | apply Kd.R_drewN | apply Kd.R_drew)); exact HO_13.out) hb); have n4_ := Aside0.mk (below_step (by repeat (first | (with_reducible first | exact HB.out | apply below_alloc | apply pw_below_drewN | apply below_drew1) | exact HB.out)) hb); clear HO_0; clear HO_11; clear HO_12; clear HO_13; clear HB; have HO_0 := n0_; have HO_11 := n1_; have HO_12 := n2_; have HO_13 := n3_; have HB := n4_; clear n0_ n1_ n2_ n3_ n4_; (try clear hb); (try clear hb2); (try clear hk); (try clear hi)) | ((with_reducible refine gate_callee (f := 25) rfl ?_); refine goesL_ (some 57) rfl rfl Try.func25 (by kernel_rfl) rfl #[.slice (some ⟨go18, 0, none⟩) y143.length co28] rfl (by (try simp only [List.map_toArray, List.map_cons, List.map_nil]); first | done | rfl | (simp only [List.length_drop, List.length_take]; rfl)) ?_; (with_reducible refine (sum_Ints.calls kj20 _ _ y143 t154 _ ?side1 ?side2 A43.out).mono ?_); (case side1 => repeat (first | exact (Kd.R_reads' HO_11.out).2.2 | (with_reducible refine Kd.C_alloc ?_ _) | (with_reducible refine Kd.C_drewN ?_ _) | (with_reducible refine Kd.C_drew ?_))); (case side2 => exact (Kd.R_reads' HO_11.out).2.1); rintro e w48 ⟨rfl, hb⟩; refine ⟨_, rfl, ?_⟩; have n0_ := Aside0.mk (Kd.R_below (by (with_reducible repeat (first | apply Kd.R_alloc | apply Kd.R_drewN | apply Kd.R_drew)); exact HO_0.out) hb); have n1_ := Aside0.mk (Kd.R_below (by (with_reducible repeat (first | apply Kd.R_alloc | apply Kd.R_drewN | apply Kd.R_drew)); exact HO_11.out) hb); have n2_ := Aside0.mk (Kd.R_below (by (with_reducible repeat (first | apply Kd.R_alloc | apply Kd.R_drewN | apply Kd.R_drew)); exact HO_12.out) hb); have n3_ := Aside0.mk (Kd.R_below (by (with_reducible repeat (first | apply Kd.R_alloc | apply Kd.R_drewN | apply Kd.R_drew)); exact HO_13.out) hb); have n4_ := Aside0.mk (below_step (by repeat (first | (with_reducible first | exact HB.out | apply below_alloc | apply pw_below_drewN | apply below_drew1) | exact HB.out)) hb); clear HO_0; clear HO_11; clear HO_12; clear HO_13; clear HB; have HO_0 := n0_; have HO_11 := n1_; have HO_12 := n2_; have HO_13 := n3_; have HB := n4_; clear n0_ n1_ n2_ n3_ n4_; (try clear hb); (try clear hb2); (try clear hk); (try clear hi)))
            go_ret
            exact ⟨by first | rfl | (simp [errW_none, errW_some] <;> rfl) | (simp only [← hji9]; first | rfl | (simp [errW_none, errW_some] <;> rfl)) | (simp [*, errW_none, errW_some] <;> rfl), by repeat (first | (with_reducible first | exact HB.out | apply below_alloc | apply pw_below_drewN | apply below_drew1) | exact HB.out)⟩
           ·
            rw [if_neg c46] at H
            have c46b0 : (a3 == a4) = false := beq_eq_false_iff_ne.mpr c46
            have c46b1 : (a3 != a4) = true := bne_iff_ne.mpr c46
            replace H := Option.bind_eq_some_iff.mp H
            obtain ⟨t155, A490, H⟩ := H
            replace H : ((sum_Join.f a3 t155).bind fun t156 => ((tourkeep1_n64.f a2).bind fun t157 => ((sum_Join.f a4 t155).bind fun t158 => (if t156 = t158 then (none) else ((tourkeep1_n64.f a2).bind fun t159 => ((sum_Join.f t155 a3).bind fun t160 => ((tourkeep1_n64.f a2).bind fun t161 => ((sum_Join.f t155 a4).bind fun t162 => (some (t160 != t162)))))))))) = some r := H
            have A49 := Aside0.mk A490
            clear A490
            replace H := Option.bind_eq_some_iff.mp H
            obtain ⟨t156, A500, H⟩ := H
            replace H : ((tourkeep1_n64.f a2).bind fun t157 => ((sum_Join.f a4 t155).bind fun t158 => (if t156 = t158 then (none) else ((tourkeep1_n64.f a2).bind fun t159 => ((sum_Join.f t155 a3).bind fun t160 => ((tourkeep1_n64.f a2).bind fun t161 => ((sum_Join.f t155 a4).bind fun t162 => (some (t160 != t162))))))))) = some r := H
            have A50 := Aside0.mk A500
            clear A500
            replace H := Option.bind_eq_some_iff.mp H
            obtain ⟨t157, A510, H⟩ := H
            replace H : ((sum_Join.f a4 t155).bind fun t158 => (if t156 = t158 then (none) else ((tourkeep1_n64.f a2).bind fun t159 => ((sum_Join.f t155 a3).bind fun t160 => ((tourkeep1_n64.f a2).bind fun t161 => ((sum_Join.f t155 a4).bind fun t162 => (some (t160 != t162)))))))) = some r := H
            obtain rfl := Option.some.inj ((show Aside0 (tourkeep1_n64.f a2 = some t155) by assumption).out.symm.trans A510)
            have A51 := Aside0.mk A510
            clear A510
            replace H := Option.bind_eq_some_iff.mp H
            obtain ⟨t158, A520, H⟩ := H
            replace H : (if t156 = t158 then (none) else ((tourkeep1_n64.f a2).bind fun t159 => ((sum_Join.f t155 a3).bind fun t160 => ((tourkeep1_n64.f a2).bind fun t161 => ((sum_Join.f t155 a4).bind fun t162 => (some (t160 != t162))))))) = some r := H
            have A52 := Aside0.mk A520
            clear A520
            by_cases c53 : t156 = t158
            ·
             rw [if_pos c53] at H
             exact absurd H (by simp)
            ·
             rw [if_neg c53] at H
             have c53b0 : (t156 == t158) = false := beq_eq_false_iff_ne.mpr c53
             have c53b1 : (t156 != t158) = true := bne_iff_ne.mpr c53
             replace H := Option.bind_eq_some_iff.mp H
             obtain ⟨t159, A540, H⟩ := H
             replace H : ((sum_Join.f t155 a3).bind fun t160 => ((tourkeep1_n64.f a2).bind fun t161 => ((sum_Join.f t155 a4).bind fun t162 => (some (t160 != t162))))) = some r := H
             obtain rfl := Option.some.inj ((show Aside0 (tourkeep1_n64.f a2 = some t155) by assumption).out.symm.trans A540)
             have A54 := Aside0.mk A540
             clear A540
             replace H := Option.bind_eq_some_iff.mp H
             obtain ⟨t160, A550, H⟩ := H
             replace H : ((tourkeep1_n64.f a2).bind fun t161 => ((sum_Join.f t155 a4).bind fun t162 => (some (t160 != t162)))) = some r := H
             have A55 := Aside0.mk A550
             clear A550
             replace H := Option.bind_eq_some_iff.mp H
             obtain ⟨t161, A560, H⟩ := H
             replace H : ((sum_Join.f t155 a4).bind fun t162 => (some (t160 != t162))) = some r := H
             obtain rfl := Option.some.inj ((show Aside0 (tourkeep1_n64.f a2 = some t155) by assumption).out.symm.trans A560)
             have A56 := Aside0.mk A560
             clear A560
             replace H := Option.bind_eq_some_iff.mp H
             obtain ⟨t162, A570, H⟩ := H
             replace H : (some (t160 != t162)) = some r := H
             have A57 := Aside0.mk A570
             clear A570
             obtain rfl := Option.some.inj H
             go_wp2_with (first | ((with_reducible refine gate_callee (f := 25) rfl ?_); refine goesL_ (some 55) rfl rfl Try.func25 (by kernel_rfl) rfl #[.slice Ao26 y135.length co26] rfl (by (try simp only [List.map_toArray, List.map_cons, List.map_nil]); first | done | rfl | (simp only [List.length_drop, List.length_take]; rfl)) ?_; (with_reducible refine (sum_Ints.calls kj20 _ _ y135 t153 _ ?side1 ?side2 A42.out).mono ?_); (case side1 => repeat (first | exact (Kd.R_reads' HO_0.out).2.2 | (with_reducible refine Kd.C_alloc ?_ _) | (with_reducible refine Kd.C_drewN ?_ _) | (with_reducible refine Kd.C_drew ?_))); (case side2 => exact (Kd.R_reads' HO_0.out).2.1); rintro e w58 ⟨rfl, hb⟩; refine ⟨_, rfl, ?_⟩; have n0_ := Aside0.mk (Kd.R_below (by (with_reducible repeat (first | apply Kd.R_alloc | apply Kd.R_drewN | apply Kd.R_drew)); exact HO_0.out) hb); have n1_ := Aside0.mk (Kd.R_below (by (with_reducible repeat (first | apply Kd.R_alloc | apply Kd.R_drewN | apply Kd.R_drew)); exact HO_11.out) hb); have n2_ := Aside0.mk (Kd.R_below (by (with_reducible repeat (first | apply Kd.R_alloc | apply Kd.R_drewN | apply Kd.R_drew)); exact HO_12.out) hb); have n3_ := Aside0.mk (Kd.R_below (by (with_reducible repeat (first | apply Kd.R_alloc | apply Kd.R_drewN | apply Kd.R_drew)); exact HO_13.out) hb); have n4_ := Aside0.mk (below_step (by repeat (first | (with_reducible first | exact HB.out | apply below_alloc | apply pw_below_drewN | apply below_drew1) | exact HB.out)) hb); clear HO_0; clear HO_11; clear HO_12; clear HO_13; clear HB; have HO_0 := n0_; have HO_11 := n1_; have HO_12 := n2_; have HO_13 := n3_; have HB := n4_; clear n0_ n1_ n2_ n3_ n4_; (try clear hb); (try clear hb2); (try clear hk); (try clear hi)) | ((with_reducible refine gate_callee (f := 25) rfl ?_); refine goesL_ (some 57) rfl rfl Try.func25 (by kernel_rfl) rfl #[.slice (some ⟨go18, 0, none⟩) y143.length co28] rfl (by (try simp only [List.map_toArray, List.map_cons, List.map_nil]); first | done | rfl | (simp only [List.length_drop, List.length_take]; rfl)) ?_; (with_reducible refine (sum_Ints.calls kj20 _ _ y143 t154 _ ?side1 ?side2 A43.out).mono ?_); (case side1 => repeat (first | exact (Kd.R_reads' HO_11.out).2.2 | (with_reducible refine Kd.C_alloc ?_ _) | (with_reducible refine Kd.C_drewN ?_ _) | (with_reducible refine Kd.C_drew ?_))); (case side2 => exact (Kd.R_reads' HO_11.out).2.1); rintro e w59 ⟨rfl, hb⟩; refine ⟨_, rfl, ?_⟩; have n0_ := Aside0.mk (Kd.R_below (by (with_reducible repeat (first | apply Kd.R_alloc | apply Kd.R_drewN | apply Kd.R_drew)); exact HO_0.out) hb); have n1_ := Aside0.mk (Kd.R_below (by (with_reducible repeat (first | apply Kd.R_alloc | apply Kd.R_drewN | apply Kd.R_drew)); exact HO_11.out) hb); have n2_ := Aside0.mk (Kd.R_below (by (with_reducible repeat (first | apply Kd.R_alloc | apply Kd.R_drewN | apply Kd.R_drew)); exact HO_12.out) hb); have n3_ := Aside0.mk (Kd.R_below (by (with_reducible repeat (first | apply Kd.R_alloc | apply Kd.R_drewN | apply Kd.R_drew)); exact HO_13.out) hb); have n4_ := Aside0.mk (below_step (by repeat (first | (with_reducible first | exact HB.out | apply below_alloc | apply pw_below_drewN | apply below_drew1) | exact HB.out)) hb); clear HO_0; clear HO_11; clear HO_12; clear HO_13; clear HB; have HO_0 := n0_; have HO_11 := n1_; have HO_12 := n2_; have HO_13 := n3_; have HB := n4_; clear n0_ n1_ n2_ n3_ n4_; (try clear hb); (try clear hb2); (try clear hk); (try clear hi)) | (go_at_call 27; (with_reducible refine (tourkeep1_n64.calls a2 t155 _ A49.out).mono ?_); rintro e w' ⟨rfl, ⟨nd, rfl⟩⟩) | (go_at_call 26; (with_reducible refine (sum_Join.calls a3 t155 t156 _ A50.out).mono ?_); rintro e w' ⟨rfl, ⟨nd, rfl⟩⟩) | (go_at_call 27; (with_reducible refine (tourkeep1_n64.calls a2 t155 _ A51.out).mono ?_); rintro e w' ⟨rfl, ⟨nd, rfl⟩⟩) | (go_at_call 26; (with_reducible refine (sum_Join.calls a4 t155 t158 _ A52.out).mono ?_); rintro e w' ⟨rfl, ⟨nd, rfl⟩⟩) | (go_at_call 27; (with_reducible refine (tourkeep1_n64.calls a2 t155 _ A54.out).mono ?_); rintro e w' ⟨rfl, ⟨nd, rfl⟩⟩) | (go_at_call 26; (with_reducible refine (sum_Join.calls t155 a3 t160 _ A55.out).mono ?_); rintro e w' ⟨rfl, ⟨nd, rfl⟩⟩) | (go_at_call 27; (with_reducible refine (tourkeep1_n64.calls a2 t155 _ A56.out).mono ?_); rintro e w' ⟨rfl, ⟨nd, rfl⟩⟩) | (go_at_call 26; (with_reducible refine (sum_Join.calls t155 a4 t162 _ A57.out).mono ?_); rintro e w' ⟨rfl, ⟨nd, rfl⟩⟩))
             go_ret
             exact ⟨by first | rfl | (simp [errW_none, errW_some] <;> rfl) | (simp only [← hji9]; first | rfl | (simp [errW_none, errW_some] <;> rfl)) | (simp [*, errW_none, errW_some] <;> rfl), by repeat (first | (with_reducible first | exact HB.out | apply below_alloc | apply pw_below_drewN | apply below_drew1) | exact HB.out)⟩
          ·
           rw [if_neg c45] at H
           have c45b0 : ((t144.length : Int) == 0) = false := beq_eq_false_iff_ne.mpr c45
           have c45b1 : ((t144.length : Int) != 0) = true := bne_iff_ne.mpr c45
           have c45b2 : ¬ (t144 = []) := fun h_ => c45 (by rw [h_]; rfl)
           have c45b0x := c45b0
           (try simp only [hl11_20, hl13_20] at c45b0x)
           have c45b1x := c45b1
           (try simp only [hl11_20, hl13_20] at c45b1x)
           have c45b2x := c45b2
           (try simp only [hl11_20, hl13_20] at c45b2x)
           replace H := Option.bind_eq_some_iff.mp H
           obtain ⟨t163, A600, H⟩ := H
           replace H : ((sum_Bytes.f kj20 x13_20).bind fun t164 => (if t163 = t164 then (none) else (if a3 = a4 then (some true) else ((tourkeep1_n64.f a2).bind fun t165 => ((sum_Join.f a3 t165).bind fun t166 => ((tourkeep1_n64.f a2).bind fun t167 => ((sum_Join.f a4 t165).bind fun t168 => (if t166 = t168 then (none) else ((tourkeep1_n64.f a2).bind fun t169 => ((sum_Join.f t165 a3).bind fun t170 => ((tourkeep1_n64.f a2).bind fun t171 => ((sum_Join.f t165 a4).bind fun t172 => (some (t170 != t172)))))))))))))) = some r := H
           have A60 := Aside0.mk A600
           clear A600
           replace H := Option.bind_eq_some_iff.mp H
           obtain ⟨t164, A610, H⟩ := H
           replace H : (if t163 = t164 then (none) else (if a3 = a4 then (some true) else ((tourkeep1_n64.f a2).bind fun t165 => ((sum_Join.f a3 t165).bind fun t166 => ((tourkeep1_n64.f a2).bind fun t167 => ((sum_Join.f a4 t165).bind fun t168 => (if t166 = t168 then (none) else ((tourkeep1_n64.f a2).bind fun t169 => ((sum_Join.f t165 a3).bind fun t170 => ((tourkeep1_n64.f a2).bind fun t171 => ((sum_Join.f t165 a4).bind fun t172 => (some (t170 != t172))))))))))))) = some r := H
           have A61 := Aside0.mk A610
           clear A610
           by_cases c62 : t163 = t164
           ·
            rw [if_pos c62] at H
            exact absurd H (by simp)
           ·
            rw [if_neg c62] at H
            have c62b0 : (t163 == t164) = false := beq_eq_false_iff_ne.mpr c62
            have c62b1 : (t163 != t164) = true := bne_iff_ne.mpr c62
            by_cases c63 : a3 = a4
            ·
             rw [if_pos c63] at H
             have c63b0 : (a3 == a4) = true := beq_iff_eq.mpr c63
             have c63b1 : (a3 != a4) = false := bne_eq_false_iff_eq.mpr c63
             clear c63
             obtain rfl := Option.some.inj H
             go_wp2_with (first | ((with_reducible refine gate_callee (f := 25) rfl ?_); refine goesL_ (some 55) rfl rfl Try.func25 (by kernel_rfl) rfl #[.slice Ao26 y135.length co26] rfl (by (try simp only [List.map_toArray, List.map_cons, List.map_nil]); first | done | rfl | (simp only [List.length_drop, List.length_take]; rfl)) ?_; (with_reducible refine (sum_Ints.calls kj20 _ _ y135 t153 _ ?side1 ?side2 A42.out).mono ?_); (case side1 => repeat (first | exact (Kd.R_reads' HO_0.out).2.2 | (with_reducible refine Kd.C_alloc ?_ _) | (with_reducible refine Kd.C_drewN ?_ _) | (with_reducible refine Kd.C_drew ?_))); (case side2 => exact (Kd.R_reads' HO_0.out).2.1); rintro e w64 ⟨rfl, hb⟩; refine ⟨_, rfl, ?_⟩; have n0_ := Aside0.mk (Kd.R_below (by (with_reducible repeat (first | apply Kd.R_alloc | apply Kd.R_drewN | apply Kd.R_drew)); exact HO_0.out) hb); have n1_ := Aside0.mk (Kd.R_below (by (with_reducible repeat (first | apply Kd.R_alloc | apply Kd.R_drewN | apply Kd.R_drew)); exact HO_11.out) hb); have n2_ := Aside0.mk (Kd.R_below (by (with_reducible repeat (first | apply Kd.R_alloc | apply Kd.R_drewN | apply Kd.R_drew)); exact HO_12.out) hb); have n3_ := Aside0.mk (Kd.R_below (by (with_reducible repeat (first | apply Kd.R_alloc | apply Kd.R_drewN | apply Kd.R_drew)); exact HO_13.out) hb); have n4_ := Aside0.mk (below_step (by repeat (first | (with_reducible first | exact HB.out | apply below_alloc | apply pw_below_drewN | apply below_drew1) | exact HB.out)) hb); clear HO_0; clear HO_11; clear HO_12; clear HO_13; clear HB; have HO_0 := n0_; have HO_11 := n1_; have HO_12 := n2_; have HO_13 := n3_; have HB := n4_; clear n0_ n1_ n2_ n3_ n4_; (try clear hb); (try clear hb2); (try clear hk); (try clear hi)) | ((with_reducible refine gate_callee (f := 25) rfl ?_); refine goesL_ (some 57) rfl rfl Try.func25 (by kernel_rfl) rfl #[.slice (some ⟨go18, 0, none⟩) y143.length co28] rfl (by (try simp only [List.map_toArray, List.map_cons, List.map_nil]); first | done | rfl | (simp only [List.length_drop, List.length_take]; rfl)) ?_; (with_reducible refine (sum_Ints.calls kj20 _ _ y143 t154 _ ?side1 ?side2 A43.out).mono ?_); (case side1 => repeat (first | exact (Kd.R_reads' HO_11.out).2.2 | (with_reducible refine Kd.C_alloc ?_ _) | (with_reducible refine Kd.C_drewN ?_ _) | (with_reducible refine Kd.C_drew ?_))); (case side2 => exact (Kd.R_reads' HO_11.out).2.1); rintro e w65 ⟨rfl, hb⟩; refine ⟨_, rfl, ?_⟩; have n0_ := Aside0.mk (Kd.R_below (by (with_reducible repeat (first | apply Kd.R_alloc | apply Kd.R_drewN | apply Kd.R_drew)); exact HO_0.out) hb); have n1_ := Aside0.mk (Kd.R_below (by (with_reducible repeat (first | apply Kd.R_alloc | apply Kd.R_drewN | apply Kd.R_drew)); exact HO_11.out) hb); have n2_ := Aside0.mk (Kd.R_below (by (with_reducible repeat (first | apply Kd.R_alloc | apply Kd.R_drewN | apply Kd.R_drew)); exact HO_12.out) hb); have n3_ := Aside0.mk (Kd.R_below (by (with_reducible repeat (first | apply Kd.R_alloc | apply Kd.R_drewN | apply Kd.R_drew)); exact HO_13.out) hb); have n4_ := Aside0.mk (below_step (by repeat (first | (with_reducible first | exact HB.out | apply below_alloc | apply pw_below_drewN | apply below_drew1) | exact HB.out)) hb); clear HO_0; clear HO_11; clear HO_12; clear HO_13; clear HB; have HO_0 := n0_; have HO_11 := n1_; have HO_12 := n2_; have HO_13 := n3_; have HB := n4_; clear n0_ n1_ n2_ n3_ n4_; (try clear hb); (try clear hb2); (try clear hk); (try clear hi)) | (go_at_call 22; (with_reducible refine (sum_Bytes.calls kj20 (fun k_ => some k_ = (.slice Ao32 t144.length co32 : Value).ownBlock) _ _ t144 t163 _ ?side1 A60.out).mono ?_); (case side1 => exact Kd.R_V (Kd.R_tight rfl (Kd.R_apart' (Kd.R_apart' (HO_12.out) (Kd.R_typed HO_0.out) (by decide)) (Kd.R_typed HO_11.out) (by decide)))); rintro e w66 ⟨rfl, hb⟩; have n0_ := Aside0.mk (Kd.R_below (by (with_reducible repeat (first | apply Kd.R_alloc | apply Kd.R_drewN | apply Kd.R_drew)); exact HO_0.out) hb); have n1_ := Aside0.mk (Kd.R_below (by (with_reducible repeat (first | apply Kd.R_alloc | apply Kd.R_drewN | apply Kd.R_drew)); exact HO_11.out) hb); have n2_ := Aside0.mk (Kd.R_below (by (with_reducible repeat (first | apply Kd.R_alloc | apply Kd.R_drewN | apply Kd.R_drew)); exact HO_12.out) hb); have n3_ := Aside0.mk (Kd.R_below (by (with_reducible repeat (first | apply Kd.R_alloc | apply Kd.R_drewN | apply Kd.R_drew)); exact HO_13.out) hb); have n4_ := Aside0.mk (below_step (by repeat (first | (with_reducible first | exact HB.out | apply below_alloc | apply pw_below_drewN | apply below_drew1) | exact HB.out)) hb); clear HO_0; clear HO_11; clear HO_12; clear HO_13; clear HB; have HO_0 := n0_; have HO_11 := n1_; have HO_12 := n2_; have HO_13 := n3_; have HB := n4_; clear n0_ n1_ n2_ n3_ n4_; (try clear hb); (try clear hb2); (try clear hk); (try clear hi)) | (go_at_call 22; (with_reducible refine (sum_Bytes.calls kj20 (fun k_ => some k_ = (.slice Ao34 x13_20.length co34 : Value).ownBlock) _ _ x13_20 t164 _ ?side1 A61.out).mono ?_); (case side1 => exact Kd.R_V (Kd.R_tight rfl (Kd.R_apart' (Kd.R_apart' (HO_13.out) (Kd.R_typed HO_0.out) (by decide)) (Kd.R_typed HO_11.out) (by decide)))); rintro e w67 ⟨rfl, hb⟩; have n0_ := Aside0.mk (Kd.R_below (by (with_reducible repeat (first | apply Kd.R_alloc | apply Kd.R_drewN | apply Kd.R_drew)); exact HO_0.out) hb); have n1_ := Aside0.mk (Kd.R_below (by (with_reducible repeat (first | apply Kd.R_alloc | apply Kd.R_drewN | apply Kd.R_drew)); exact HO_11.out) hb); have n2_ := Aside0.mk (Kd.R_below (by (with_reducible repeat (first | apply Kd.R_alloc | apply Kd.R_drewN | apply Kd.R_drew)); exact HO_12.out) hb); have n3_ := Aside0.mk (Kd.R_below (by (with_reducible repeat (first | apply Kd.R_alloc | apply Kd.R_drewN | apply Kd.R_drew)); exact HO_13.out) hb); have n4_ := Aside0.mk (below_step (by repeat (first | (with_reducible first | exact HB.out | apply below_alloc | apply pw_below_drewN | apply below_drew1) | exact HB.out)) hb); clear HO_0; clear HO_11; clear HO_12; clear HO_13; clear HB; have HO_0 := n0_; have HO_11 := n1_; have HO_12 := n2_; have HO_13 := n3_; have HB := n4_; clear n0_ n1_ n2_ n3_ n4_; (try clear hb); (try clear hb2); (try clear hk); (try clear hi)))
             go_ret
             exact ⟨by first | rfl | (simp [errW_none, errW_some] <;> rfl) | (simp only [← hji9]; first | rfl | (simp [errW_none, errW_some] <;> rfl)) | (simp [*, errW_none, errW_some] <;> rfl), by repeat (first | (with_reducible first | exact HB.out | apply below_alloc | apply pw_below_drewN | apply below_drew1) | exact HB.out)⟩
            ·
             rw [if_neg c63] at H
             have c63b0 : (a3 == a4) = false := beq_eq_false_iff_ne.mpr c63
             have c63b1 : (a3 != a4) = true := bne_iff_ne.mpr c63
             replace H := Option.bind_eq_some_iff.mp H
             obtain ⟨t165, A680, H⟩ := H
             replace H : ((sum_Join.f a3 t165).bind fun t166 => ((tourkeep1_n64.f a2).bind fun t167 => ((sum_Join.f a4 t165).bind fun t168 => (if t166 = t168 then (none) else ((tourkeep1_n64.f a2).bind fun t169 => ((sum_Join.f t165 a3).bind fun t170 => ((tourkeep1_n64.f a2).bind fun t171 => ((sum_Join.f t165 a4).bind fun t172 => (some (t170 != t172)))))))))) = some r := H
             have A68 := Aside0.mk A680
             clear A680
             replace H := Option.bind_eq_some_iff.mp H
             obtain ⟨t166, A690, H⟩ := H
             replace H : ((tourkeep1_n64.f a2).bind fun t167 => ((sum_Join.f a4 t165).bind fun t168 => (if t166 = t168 then (none) else ((tourkeep1_n64.f a2).bind fun t169 => ((sum_Join.f t165 a3).bind fun t170 => ((tourkeep1_n64.f a2).bind fun t171 => ((sum_Join.f t165 a4).bind fun t172 => (some (t170 != t172))))))))) = some r := H
             have A69 := Aside0.mk A690
             clear A690
             replace H := Option.bind_eq_some_iff.mp H
             obtain ⟨t167, A700, H⟩ := H
             replace H : ((sum_Join.f a4 t165).bind fun t168 => (if t166 = t168 then (none) else ((tourkeep1_n64.f a2).bind fun t169 => ((sum_Join.f t165 a3).bind fun t170 => ((tourkeep1_n64.f a2).bind fun t171 => ((sum_Join.f t165 a4).bind fun t172 => (some (t170 != t172)))))))) = some r := H
             obtain rfl := Option.some.inj ((show Aside0 (tourkeep1_n64.f a2 = some t165) by assumption).out.symm.trans A700)
             have A70 := Aside0.mk A700
             clear A700
             replace H := Option.bind_eq_some_iff.mp H
             obtain ⟨t168, A710, H⟩ := H
             replace H : (if t166 = t168 then (none) else ((tourkeep1_n64.f a2).bind fun t169 => ((sum_Join.f t165 a3).bind fun t170 => ((tourkeep1_n64.f a2).bind fun t171 => ((sum_Join.f t165 a4).bind fun t172 => (some (t170 != t172))))))) = some r := H
             have A71 := Aside0.mk A710
             clear A710
             by_cases c72 : t166 = t168
             ·
              rw [if_pos c72] at H
              exact absurd H (by simp)
             ·
              rw [if_neg c72] at H
              have c72b0 : (t166 == t168) = false := beq_eq_false_iff_ne.mpr c72
              have c72b1 : (t166 != t168) = true := bne_iff_ne.mpr c72
              replace H := Option.bind_eq_some_iff.mp H
              obtain ⟨t169, A730, H⟩ := H
              replace H : ((sum_Join.f t165 a3).bind fun t170 => ((tourkeep1_n64.f a2).bind fun t171 => ((sum_Join.f t165 a4).bind fun t172 => (some (t170 != t172))))) = some r := H
              obtain rfl := Option.some.inj ((show Aside0 (tourkeep1_n64.f a2 = some t165) by assumption).out.symm.trans A730)
              have A73 := Aside0.mk A730
              clear A730
              replace H := Option.bind_eq_some_iff.mp H
              obtain ⟨t170, A740, H⟩ := H
              replace H : ((tourkeep1_n64.f a2).bind fun t171 => ((sum_Join.f t165 a4).bind fun t172 => (some (t170 != t172)))) = some r := H
              have A74 := Aside0.mk A740
              clear A740
              replace H := Option.bind_eq_some_iff.mp H
              obtain ⟨t171, A750, H⟩ := H
              replace H : ((sum_Join.f t165 a4).bind fun t172 => (some (t170 != t172))) = some r := H
              obtain rfl := Option.some.inj ((show Aside0 (tourkeep1_n64.f a2 = some t165) by assumption).out.symm.trans A750)
              have A75 := Aside0.mk A750
              clear A750
              replace H := Option.bind_eq_some_iff.mp H
              obtain ⟨t172, A760, H⟩ := H
              replace H : (some (t170 != t172)) = some r := H
              have A76 := Aside0.mk A760
              clear A760
              obtain rfl := Option.some.inj H
              go_wp2_with (first | ((with_reducible refine gate_callee (f := 25) rfl ?_); refine goesL_ (some 55) rfl rfl Try.func25 (by kernel_rfl) rfl #[.slice Ao26 y135.length co26] rfl (by (try simp only [List.map_toArray, List.map_cons, List.map_nil]); first | done | rfl | (simp only [List.length_drop, List.length_take]; rfl)) ?_; (with_reducible refine (sum_Ints.calls kj20 _ _ y135 t153 _ ?side1 ?side2 A42.out).mono ?_); (case side1 => repeat (first | exact (Kd.R_reads' HO_0.out).2.2 | (with_reducible refine Kd.C_alloc ?_ _) | (with_reducible refine Kd.C_drewN ?_ _) | (with_reducible refine Kd.C_drew ?_))); (case side2 => exact (Kd.R_reads' HO_0.out).2.1); rintro e w77 ⟨rfl, hb⟩; refine ⟨_, rfl, ?_⟩; have n0_ := Aside0.mk (Kd.R_below (by (with_reducible repeat (first | apply Kd.R_alloc | apply Kd.R_drewN | apply Kd.R_drew)); exact HO_0.out) hb); have n1_ := Aside0.mk (Kd.R_below (by (with_reducible repeat (first | apply Kd.R_alloc | apply Kd.R_drewN | apply Kd.R_drew)); exact HO_11.out) hb); have n2_ := Aside0.mk (Kd.R_below (by (with_reducible repeat (first | apply Kd.R_alloc | apply Kd.R_drewN | apply Kd.R_drew)); exact HO_12.out) hb); have n3_ := Aside0.mk (Kd.R_below (by (with_reducible repeat (first | apply Kd.R_alloc | apply Kd.R_drewN | apply Kd.R_drew)); exact HO_13.out) hb); have n4_ := Aside0.mk (below_step (by repeat (first | (with_reducible first | exact HB.out | apply below_alloc | apply pw_below_drewN | apply below_drew1) | exact HB.out)) hb); clear HO_0; clear HO_11; clear HO_12; clear HO_13; clear HB; have HO_0 := n0_; have HO_11 := n1_; have HO_12 := n2_; have HO_13 := n3_; have HB := n4_; clear n0_ n1_ n2_ n3_ n4_; (try clear hb); (try clear hb2); (try clear hk); (try clear hi)) | ((with_reducible refine gate_callee (f := 25) rfl ?_); refine goesL_ (some 57) rfl rfl Try.func25 (by kernel_rfl) rfl #[.slice (some ⟨go18, 0, none⟩) y143.length co28] rfl (by (try simp only [List.map_toArray, List.map_cons, List.map_nil]); first | done | rfl | (simp only [List.length_drop, List.length_take]; rfl)) ?_; (with_reducible refine (sum_Ints.calls kj20 _ _ y143 t154 _ ?side1 ?side2 A43.out).mono ?_); (case side1 => repeat (first | exact (Kd.R_reads' HO_11.out).2.2 | (with_reducible refine Kd.C_alloc ?_ _) | (with_reducible refine Kd.C_drewN ?_ _) | (with_reducible refine Kd.C_drew ?_))); (case side2 => exact (Kd.R_reads' HO_11.out).2.1); rintro e w78 ⟨rfl, hb⟩; refine ⟨_, rfl, ?_⟩; have n0_ := Aside0.mk (Kd.R_below (by (with_reducible repeat (first | apply Kd.R_alloc | apply Kd.R_drewN | apply Kd.R_drew)); exact HO_0.out) hb); have n1_ := Aside0.mk (Kd.R_below (by (with_reducible repeat (first | apply Kd.R_alloc | apply Kd.R_drewN | apply Kd.R_drew)); exact HO_11.out) hb); have n2_ := Aside0.mk (Kd.R_below (by (with_reducible repeat (first | apply Kd.R_alloc | apply Kd.R_drewN | apply Kd.R_drew)); exact HO_12.out) hb); have n3_ := Aside0.mk (Kd.R_below (by (with_reducible repeat (first | apply Kd.R_alloc | apply Kd.R_drewN | apply Kd.R_drew)); exact HO_13.out) hb); have n4_ := Aside0.mk (below_step (by repeat (first | (with_reducible first | exact HB.out | apply below_alloc | apply pw_below_drewN | apply below_drew1) | exact HB.out)) hb); clear HO_0; clear HO_11; clear HO_12; clear HO_13; clear HB; have HO_0 := n0_; have HO_11 := n1_; have HO_12 := n2_; have HO_13 := n3_; have HB := n4_; clear n0_ n1_ n2_ n3_ n4_; (try clear hb); (try clear hb2); (try clear hk); (try clear hi)) | (go_at_call 22; (with_reducible refine (sum_Bytes.calls kj20 (fun k_ => some k_ = (.slice Ao32 t144.length co32 : Value).ownBlock) _ _ t144 t163 _ ?side1 A60.out).mono ?_); (case side1 => exact Kd.R_V (Kd.R_tight rfl (Kd.R_apart' (Kd.R_apart' (HO_12.out) (Kd.R_typed HO_0.out) (by decide)) (Kd.R_typed HO_11.out) (by decide)))); rintro e w79 ⟨rfl, hb⟩; have n0_ := Aside0.mk (Kd.R_below (by (with_reducible repeat (first | apply Kd.R_alloc | apply Kd.R_drewN | apply Kd.R_drew)); exact HO_0.out) hb); have n1_ := Aside0.mk (Kd.R_below (by (with_reducible repeat (first | apply Kd.R_alloc | apply Kd.R_drewN | apply Kd.R_drew)); exact HO_11.out) hb); have n2_ := Aside0.mk (Kd.R_below (by (with_reducible repeat (first | apply Kd.R_alloc | apply Kd.R_drewN | apply Kd.R_drew)); exact HO_12.out) hb); have n3_ := Aside0.mk (Kd.R_below (by (with_reducible repeat (first | apply Kd.R_alloc | apply Kd.R_drewN | apply Kd.R_drew)); exact HO_13.out) hb); have n4_ := Aside0.mk (below_step (by repeat (first | (with_reducible first | exact HB.out | apply below_alloc | apply pw_below_drewN | apply below_drew1) | exact HB.out)) hb); clear HO_0; clear HO_11; clear HO_12; clear HO_13; clear HB; have HO_0 := n0_; have HO_11 := n1_; have HO_12 := n2_; have HO_13 := n3_; have HB := n4_; clear n0_ n1_ n2_ n3_ n4_; (try clear hb); (try clear hb2); (try clear hk); (try clear hi)) | (go_at_call 22; (with_reducible refine (sum_Bytes.calls kj20 (fun k_ => some k_ = (.slice Ao34 x13_20.length co34 : Value).ownBlock) _ _ x13_20 t164 _ ?side1 A61.out).mono ?_); (case side1 => exact Kd.R_V (Kd.R_tight rfl (Kd.R_apart' (Kd.R_apart' (HO_13.out) (Kd.R_typed HO_0.out) (by decide)) (Kd.R_typed HO_11.out) (by decide)))); rintro e w80 ⟨rfl, hb⟩; have n0_ := Aside0.mk (Kd.R_below (by (with_reducible repeat (first | apply Kd.R_alloc | apply Kd.R_drewN | apply Kd.R_drew)); exact HO_0.out) hb); have n1_ := Aside0.mk (Kd.R_below (by (with_reducible repeat (first | apply Kd.R_alloc | apply Kd.R_drewN | apply Kd.R_drew)); exact HO_11.out) hb); have n2_ := Aside0.mk (Kd.R_below (by (with_reducible repeat (first | apply Kd.R_alloc | apply Kd.R_drewN | apply Kd.R_drew)); exact HO_12.out) hb); have n3_ := Aside0.mk (Kd.R_below (by (with_reducible repeat (first | apply Kd.R_alloc | apply Kd.R_drewN | apply Kd.R_drew)); exact HO_13.out) hb); have n4_ := Aside0.mk (below_step (by repeat (first | (with_reducible first | exact HB.out | apply below_alloc | apply pw_below_drewN | apply below_drew1) | exact HB.out)) hb); clear HO_0; clear HO_11; clear HO_12; clear HO_13; clear HB; have HO_0 := n0_; have HO_11 := n1_; have HO_12 := n2_; have HO_13 := n3_; have HB := n4_; clear n0_ n1_ n2_ n3_ n4_; (try clear hb); (try clear hb2); (try clear hk); (try clear hi)) | (go_at_call 27; (with_reducible refine (tourkeep1_n64.calls a2 t165 _ A68.out).mono ?_); rintro e w' ⟨rfl, ⟨nd, rfl⟩⟩) | (go_at_call 26; (with_reducible refine (sum_Join.calls a3 t165 t166 _ A69.out).mono ?_); rintro e w' ⟨rfl, ⟨nd, rfl⟩⟩) | (go_at_call 27; (with_reducible refine (tourkeep1_n64.calls a2 t165 _ A70.out).mono ?_); rintro e w' ⟨rfl, ⟨nd, rfl⟩⟩) | (go_at_call 26; (with_reducible refine (sum_Join.calls a4 t165 t168 _ A71.out).mono ?_); rintro e w' ⟨rfl, ⟨nd, rfl⟩⟩) | (go_at_call 27; (with_reducible refine (tourkeep1_n64.calls a2 t165 _ A73.out).mono ?_); rintro e w' ⟨rfl, ⟨nd, rfl⟩⟩) | (go_at_call 26; (with_reducible refine (sum_Join.calls t165 a3 t170 _ A74.out).mono ?_); rintro e w' ⟨rfl, ⟨nd, rfl⟩⟩) | (go_at_call 27; (with_reducible refine (tourkeep1_n64.calls a2 t165 _ A75.out).mono ?_); rintro e w' ⟨rfl, ⟨nd, rfl⟩⟩) | (go_at_call 26; (with_reducible refine (sum_Join.calls t165 a4 t172 _ A76.out).mono ?_); rintro e w' ⟨rfl, ⟨nd, rfl⟩⟩))
              go_ret
              exact ⟨by first | rfl | (simp [errW_none, errW_some] <;> rfl) | (simp only [← hji9]; first | rfl | (simp [errW_none, errW_some] <;> rfl)) | (simp [*, errW_none, errW_some] <;> rfl), by repeat (first | (with_reducible first | exact HB.out | apply below_alloc | apply pw_below_drewN | apply below_drew1) | exact HB.out)⟩
      ·
       rw [if_neg c17] at H
       exact absurd H (by simp)
     ·
      rw [if_neg c16] at H
      exact absurd H (by simp)
    ·
     rw [if_neg c13] at H
     exact absurd H (by simp)
   ·
    rw [if_neg c11] at H
    exact absurd H (by simp)
  ·
   rw [if_neg c10] at H
   exact absurd H (by simp)

/-- THE ONE PURE STATEMENT of tourkeep1_SumApart: yours. -/
def tourkeep1_SumApart.Pure : Prop := ∀ (l0 : List Int) (a1 : Int) (a2 : Int) (a3 : Int) (a4 : Int), l0.length ≤ maxLen → l0.length * 8 ≤ 140737488351232 → (∀ x ∈ l0, (Lit.int .i64 x).wf = true) → (Lit.int .i64 a1).wf = true → (Lit.int .i64 a2).wf = true → (Lit.int .u64 a3).wf = true → (Lit.int .u64 a4).wf = true → ∃ k, tourkeep1_SumApart.f k l0 a1 a2 a3 a4 = some true
theorem tourkeep1_SumApart.walk (P : tourkeep1_SumApart.Pure) (a0 : Option Addr) (len0 cap0 : Nat) (z0 : List Int) (a1 : Int) (a2 : Int) (a3 : Int) (a4 : Int) (w : World) (w0 : (a0 = none ∧ len0 = 0 ∧ cap0 = 0 ∧ z0 = []) ∨ ∃ x, a0 = some x ∧ len0 ≤ cap0 ∧ cap0 ≤ maxLen ∧ z0.length = cap0 ∧ (∀ i, i < z0.length → w.cell? (x.add i) = some (.int .i64 (z0.getD i 0))) ∧ ∀ n ∈ z0, (Lit.int .i64 n).wf = true) (y0 : len0 * 8 ≤ 140737488351232) (w1 : (Lit.int .i64 a1).wf = true) (w2 : (Lit.int .i64 a2).wf = true) (w3 : (Lit.int .u64 a3).wf = true) (w4 : (Lit.int .u64 a4).wf = true) :
  Calls Try.prog 6 #[.slice a0 len0 cap0, .int .i64 a1, .int .i64 a2, .int .u64 a3, .int .u64 a4] w fun e w' => e = .returned (.bool true) ∧ Below w.heap.size w w' := by
 obtain ⟨l0, rfl, hr0, hm0, hw0, hc0⟩ := ReadsInt.ofRowC w0
 obtain ⟨k, h⟩ := P l0 a1 a2 a3 a4 hm0 y0 hw0 w1 w2 w3 w4
 refine (tourkeep1_SumApart.calls k _ _ l0 a1 a2 a3 a4 true w (Kd.C_of_reads (d := (0 : Int)) (h1 := fun _ => rfl) hr0) hc0 h).mono ?_
 rintro e w' ⟨rfl, hd⟩
 exact ⟨rfl, hd⟩

end Go.Proofs.Ytggfiacnkbcjbaa.P
