/- Functions of this seat in plain Lean and their contracts, written by a turned copy of the kit's print (turns: wip/pr/make.py of this session). No condition. Short rows. -/
import Derived.Test.YtknmlikjmnhgkaaPAllx0
import Derived.Test.YtknmlikjmnhgkaaPAllx2
import Derived.Test.YtknmlikjmnhgkaaPAllx3
namespace Go.Proofs.Ytknmlikjmnhgkaa.P
open Go.RowKit Go.Proofs.YtknmlikjmnhgkaaW.PrintWords Go.Proofs.YtknmlikjmnhgkaaW.PrintLast Go.Proofs.YtknmlikjmnhgkaaW.PrintMore
attribute [local go_sem] max2_int min2_int max_two min_two max_three min_three max_four min_four   -- for this text's walks alone
set_option linter.unusedVariables false
set_option linter.unusedSimpArgs false

/-! ### merkle_Narrow: function 32 -/
mutual
def merkle_Narrow.j0 : Nat → List Int → List Int → Bool → Option (Int × Int)
 | 0, _, _, _ => none
 | k + 1, x0, x1, x23 => if x23 = true then (some ((-1), 0)) else ((merkle_filled.f k x0 x1).bind fun t130 => ((merkle_levels.f k t130).bind fun t133 => ((merkle_filled.f k x1 x0).bind fun t136 => ((merkle_levels.f k t136).bind fun t139 => (if 0 ≤ (wrap64 ((t133.length : Int) - 1)) then (if (wrap64 ((t133.length : Int) - 1)) < (t133.length : Int) then (if 0 < ((rd_L1 t133 (wrap64 ((t133.length : Int) - 1))).length : Int) then (if (wrap64 ((t133.length : Int) - 1)) < (t139.length : Int) then (if 0 < ((rd_L1 t139 (wrap64 ((t133.length : Int) - 1))).length : Int) then (if (rd (rd_L1 t133 (wrap64 ((t133.length : Int) - 1))) 0) = (rd (rd_L1 t139 (wrap64 ((t133.length : Int) - 1))) 0) then (some ((-1), 1)) else (merkle_Narrow.l0 k t133 t139 0 1 (wrap64 ((wrap64 ((t133.length : Int) - 1)) - 1)))) else (none)) else (none)) else (none)) else (none)) else (none))))))
def merkle_Narrow.l0 : Nat → List (List Int) → List (List Int) → Int → Int → Int → Option (Int × Int)
 | 0, _, _, _, _, _ => none
 | k + 1, x7, x8, x10, x11, x12 => if x12 ≥ 0 then (if 0 ≤ x12 then (if x12 < (x7.length : Int) then (if (wrap64 ((wrap64 (x10 * 2)) + 1)) = ((rd_L1 x7 x12).length : Int) then (merkle_Narrow.l0 k x7 x8 (wrap64 (x10 * 2)) x11 (wrap64 (x12 - 1))) else (if 0 ≤ (wrap64 (x10 * 2)) then (if (wrap64 (x10 * 2)) < ((rd_L1 x7 x12).length : Int) then (if x12 < (x8.length : Int) then (if (wrap64 (x10 * 2)) < ((rd_L1 x8 x12).length : Int) then (if (rd (rd_L1 x7 x12) (wrap64 (x10 * 2))) = (rd (rd_L1 x8 x12) (wrap64 (x10 * 2))) then (merkle_Narrow.l0 k x7 x8 (wrap64 ((wrap64 (x10 * 2)) + 1)) (wrap64 (x11 + 1)) (wrap64 (x12 - 1))) else (merkle_Narrow.l0 k x7 x8 (wrap64 (x10 * 2)) (wrap64 (x11 + 1)) (wrap64 (x12 - 1)))) else (none)) else (none)) else (none)) else (none))) else (none)) else (none)) else (some (x10, x11))
end
def merkle_Narrow.f (k : Nat) (l0 : List Int) (l1 : List Int) : Option (Int × Int) := if (mx (l0.length : Int) (l1.length : Int)) = 0 then (merkle_Narrow.j0 k l0 l1 true) else (merkle_Narrow.j0 k l0 l1 (decide ((mx (l0.length : Int) (l1.length : Int)) > 4096)))
theorem merkle_Narrow.mono_l : ∀ k, (∀ y0 y1 y2, LeO (merkle_Narrow.j0 k y0 y1 y2) (merkle_Narrow.j0 (k + 1) y0 y1 y2)) ∧ (∀ y0 y1 y2 y3 y4, LeO (merkle_Narrow.l0 k y0 y1 y2 y3 y4) (merkle_Narrow.l0 (k + 1) y0 y1 y2 y3 y4))
 | 0 => ⟨fun _ _ _ r h => by simp [merkle_Narrow.j0] at h, fun _ _ _ _ _ r h => by simp [merkle_Narrow.l0] at h⟩
 | k + 1 => by
  obtain ⟨ih0, ih1⟩ := merkle_Narrow.mono_l k
  refine ⟨?_, ?_⟩
  ·
   intro y0 y1 y2
   unfold merkle_Narrow.j0
   repeat' first
   | (with_reducible exact ih0 _ _ _)
   | (with_reducible exact ih1 _ _ _ _ _)
   | (with_reducible exact merkle_filled.mono _ _ _)
   | (with_reducible exact merkle_levels.mono _ _)
   | (with_reducible exact LeO.refl _)
   | (with_reducible exact LeO.none _)
   | (with_reducible refine LeO.ite ?_ ?_)
   | (with_reducible refine LeO.bind ?_ (fun _ => ?_))
   | exact ih0 _ _ _
   | exact ih1 _ _ _ _ _
   | exact merkle_filled.mono _ _ _
   | exact merkle_levels.mono _ _
   | exact LeO.none _
   | refine LeO.ite ?_ ?_
   | refine LeO.bind ?_ (fun _ => ?_)
  ·
   intro y0 y1 y2 y3 y4
   unfold merkle_Narrow.l0
   repeat' first
   | (with_reducible exact ih0 _ _ _)
   | (with_reducible exact ih1 _ _ _ _ _)
   | (with_reducible exact merkle_filled.mono _ _ _)
   | (with_reducible exact merkle_levels.mono _ _)
   | (with_reducible exact LeO.refl _)
   | (with_reducible exact LeO.none _)
   | (with_reducible refine LeO.ite ?_ ?_)
   | (with_reducible refine LeO.bind ?_ (fun _ => ?_))
   | exact ih0 _ _ _
   | exact ih1 _ _ _ _ _
   | exact merkle_filled.mono _ _ _
   | exact merkle_levels.mono _ _
   | exact LeO.none _
   | refine LeO.ite ?_ ?_
   | refine LeO.bind ?_ (fun _ => ?_)
theorem merkle_Narrow.mono : ∀ a0 a1 k, LeO (merkle_Narrow.f k a0 a1) (merkle_Narrow.f (k + 1) a0 a1) := by
 intro a0 a1 k
 obtain ⟨ih0, ih1⟩ := merkle_Narrow.mono_l k
 unfold merkle_Narrow.f
 repeat' first
   | (with_reducible exact ih0 _ _ _)
   | (with_reducible exact ih1 _ _ _ _ _)
   | (with_reducible exact merkle_filled.mono _ _ _)
   | (with_reducible exact merkle_levels.mono _ _)
   | (with_reducible exact LeO.refl _)
   | (with_reducible exact LeO.none _)
   | (with_reducible refine LeO.ite ?_ ?_)
   | (with_reducible refine LeO.bind ?_ (fun _ => ?_))
   | exact ih0 _ _ _
   | exact ih1 _ _ _ _ _
   | exact merkle_filled.mono _ _ _
   | exact merkle_levels.mono _ _
   | exact LeO.none _
   | refine LeO.ite ?_ ?_
   | refine LeO.bind ?_ (fun _ => ?_)
set_option maxHeartbeats 8000000 in
set_option maxRecDepth 100000 in
theorem merkle_Narrow.calls (k : Nat) (A0 : Option Addr) (c0 : Nat) (l0 : List Int) (A1 : Option Addr) (c1 : Nat) (l1 : List Int) (r1 : Int) (r2 : Int) (w : World) (hr0 : Kd.C (Kd.int .u64) w A0 l0.length l0) (hc0 : l0.length ≤ c0) (hr1 : Kd.C (Kd.int .u64) w A1 l1.length l1) (hc1 : l1.length ≤ c1) (h : merkle_Narrow.f k l0 l1 = some (r1, r2)) :
  Calls Try.prog 32 #[.slice A0 l0.length c0, .slice A1 l1.length c1] w fun e w' => e = .returned (.tuple #[.int .i64 r1, .int .i64 r2]) ∧ Below w.heap.size w w' := by
 have HR0 := Aside0.mk hr0
 have HC0 := Aside0.mk hc0
 clear hr0 hc0
 have HR1 := Aside0.mk hr1
 have HC1 := Aside0.mk hc1
 clear hr1 hc1
 have HB := Aside0.mk (Below.refl w.heap.size w)
 have H : (if (mx (l0.length : Int) (l1.length : Int)) = 0 then (merkle_Narrow.j0 k l0 l1 true) else (merkle_Narrow.j0 k l0 l1 (decide ((mx (l0.length : Int) (l1.length : Int)) > 4096)))) = some (r1, r2) := h
 clear h
 obtain ⟨ji3, hji3⟩ : ∃ j_ : Int, (mx (l0.length : Int) (l1.length : Int)) = j_ := ⟨_, rfl⟩
 replace H : (if (ji3) = 0 then (merkle_Narrow.j0 k l0 l1 true) else (merkle_Narrow.j0 k l0 l1 (decide ((ji3) > 4096)))) = some (r1, r2) := by first | (rw [hji3] at H; exact H) | (simp only [hji3] at H ⊢; exact H)
 (try (have hji3l : 0 ≤ ji3 := by (rw [← hji3]; unfold mx; (repeat' split) <;> omega)))
 (try (have hji3m : 0 ≤ ji3 := by omega))
 have hji3_ : (if (l0.length : Int) < (l1.length : Int) then (l1.length : Int) else (l0.length : Int)) = ji3 := hji3
 have hji3n : (if l0.length < l1.length then (l1.length : Int) else (l0.length : Int)) = ji3 := by rw [← hji3_]; (repeat' split) <;> omega
 have HC4 := Aside0.mk H
 clear H
 go_enter Try.func32, Try.ntmps32
 go_upto_region 2 with (fail)
 repeat (go_quiet (fail); go_upto_region 2 with (fail))
 try rw [hji3n]
 go_cut [23] (fun v23 wc => ∃ (kq : Nat) (x23_3 : Bool), v23 = .bool x23_3 ∧ Aside0 (merkle_Narrow.j0 kq l0 l1 x23_3 = some (r1, r2)) ∧ Aside0 (kq ≤ k) ∧ Aside0 (Below w.heap.size w wc))
 case first =>
  have H := HC4.out
  clear HC4
  by_cases c5 : (ji3) = 0
  ·
   rw [if_pos c5] at H
   have c5b0 : ((ji3) == 0) = true := beq_iff_eq.mpr c5
   have c5b1 : ((ji3) != 0) = false := bne_eq_false_iff_eq.mpr c5
   clear c5
   (first | rw [c5b0] | (simp only [i64_w, i32_w]; rw [c5b0]) | skip)
   have H' := Aside0.mk H
   clear H
   go_wp2
   repeat (go_quiet (fail); try go_wp2)
   go_meet
   case rel => exact ⟨_, (true), (by first | rfl | (simp; done) | (simp [*]; done)), H', ⟨by first | omega | exact Nat.le_refl _⟩, ⟨by repeat (first | (with_reducible first | exact HB.out | apply below_alloc | apply pw_below_drewN | apply below_drew1) | exact HB.out)⟩⟩
  ·
   rw [if_neg c5] at H
   have c5b0 : ((ji3) == 0) = false := beq_eq_false_iff_ne.mpr c5
   have c5b1 : ((ji3) != 0) = true := bne_iff_ne.mpr c5
   (first | rw [c5b0] | (simp only [i64_w, i32_w]; rw [c5b0]) | skip)
   have H' := Aside0.mk H
   clear H
   go_wp2
   repeat (go_quiet (fail); try go_wp2)
   go_meet
   case rel => exact ⟨_, (decide ((ji3) > 4096)), (by first | rfl | (simp; done) | (simp only [← hji3] <;> (first | rfl | simp)) | (simp [*]; done)), H', ⟨by first | omega | exact Nat.le_refl _⟩, ⟨by repeat (first | (with_reducible first | exact HB.out | apply below_alloc | apply pw_below_drewN | apply below_drew1) | exact HB.out)⟩⟩
 case rest =>
  clear HC4
  try clear c1
  try clear p2
  try clear c3
  try clear c5
  try clear c5b0
  try clear c5b1
  obtain ⟨kq, x23_3, rfl, HA, HJ3, HB⟩ := hcut
  cases kq with
  | zero => exact absurd HA.out (by simp [merkle_Narrow.j0])
  | succ kj3 =>
   have H := HA.out
   clear HA
   simp only [merkle_Narrow.j0] at H
   by_cases c6 : x23_3 = true
   ·
    subst c6
    have H1 : (some ((-1), 0)) = some (r1, r2) := by rw [if_pos rfl] at H; exact H
    clear H
    have H := H1
    clear H1
    simp only [Option.some.injEq, Prod.mk.injEq] at H
    obtain ⟨rfl, rfl⟩ := H
    go_wp2
    repeat (go_quiet (fail); try go_wp2)
    go_ret2
    exact ⟨by first | rfl | (simp [errW_none, errW_some] <;> rfl) | (simp only [← hji3]; first | rfl | (simp [errW_none, errW_some] <;> rfl)) | (simp [*, errW_none, errW_some] <;> rfl), by repeat (first | (with_reducible first | exact HB.out | apply below_alloc | apply pw_below_drewN | apply below_drew1) | exact HB.out)⟩
   ·
    replace c6 := Bool.eq_false_iff.mpr c6
    subst c6
    have H1 : ((merkle_filled.f kj3 l0 l1).bind fun t130 => ((merkle_levels.f kj3 t130).bind fun t133 => ((merkle_filled.f kj3 l1 l0).bind fun t136 => ((merkle_levels.f kj3 t136).bind fun t139 => (if 0 ≤ (wrap64 ((t133.length : Int) - 1)) then (if (wrap64 ((t133.length : Int) - 1)) < (t133.length : Int) then (if 0 < ((rd_L1 t133 (wrap64 ((t133.length : Int) - 1))).length : Int) then (if (wrap64 ((t133.length : Int) - 1)) < (t139.length : Int) then (if 0 < ((rd_L1 t139 (wrap64 ((t133.length : Int) - 1))).length : Int) then (if (rd (rd_L1 t133 (wrap64 ((t133.length : Int) - 1))) 0) = (rd (rd_L1 t139 (wrap64 ((t133.length : Int) - 1))) 0) then (some ((-1), 1)) else (merkle_Narrow.l0 kj3 t133 t139 0 1 (wrap64 ((wrap64 ((t133.length : Int) - 1)) - 1)))) else (none)) else (none)) else (none)) else (none)) else (none)))))) = some (r1, r2) := by rw [if_neg (show ¬ (false = true) by decide)] at H; exact H
    clear H
    have H := H1
    clear H1
    replace H := Option.bind_eq_some_iff.mp H
    obtain ⟨t130, A70, H⟩ := H
    replace H : ((merkle_levels.f kj3 t130).bind fun t133 => ((merkle_filled.f kj3 l1 l0).bind fun t136 => ((merkle_levels.f kj3 t136).bind fun t139 => (if 0 ≤ (wrap64 ((t133.length : Int) - 1)) then (if (wrap64 ((t133.length : Int) - 1)) < (t133.length : Int) then (if 0 < ((rd_L1 t133 (wrap64 ((t133.length : Int) - 1))).length : Int) then (if (wrap64 ((t133.length : Int) - 1)) < (t139.length : Int) then (if 0 < ((rd_L1 t139 (wrap64 ((t133.length : Int) - 1))).length : Int) then (if (rd (rd_L1 t133 (wrap64 ((t133.length : Int) - 1))) 0) = (rd (rd_L1 t139 (wrap64 ((t133.length : Int) - 1))) 0) then (some ((-1), 1)) else (merkle_Narrow.l0 kj3 t133 t139 0 1 (wrap64 ((wrap64 ((t133.length : Int) - 1)) - 1)))) else (none)) else (none)) else (none)) else (none)) else (none))))) = some (r1, r2) := H
    have A7 := Aside0.mk A70
    clear A70
    replace H := Option.bind_eq_some_iff.mp H
    obtain ⟨t133, A80, H⟩ := H
    replace H : ((merkle_filled.f kj3 l1 l0).bind fun t136 => ((merkle_levels.f kj3 t136).bind fun t139 => (if 0 ≤ (wrap64 ((t133.length : Int) - 1)) then (if (wrap64 ((t133.length : Int) - 1)) < (t133.length : Int) then (if 0 < ((rd_L1 t133 (wrap64 ((t133.length : Int) - 1))).length : Int) then (if (wrap64 ((t133.length : Int) - 1)) < (t139.length : Int) then (if 0 < ((rd_L1 t139 (wrap64 ((t133.length : Int) - 1))).length : Int) then (if (rd (rd_L1 t133 (wrap64 ((t133.length : Int) - 1))) 0) = (rd (rd_L1 t139 (wrap64 ((t133.length : Int) - 1))) 0) then (some ((-1), 1)) else (merkle_Narrow.l0 kj3 t133 t139 0 1 (wrap64 ((wrap64 ((t133.length : Int) - 1)) - 1)))) else (none)) else (none)) else (none)) else (none)) else (none)))) = some (r1, r2) := H
    have A8 := Aside0.mk A80
    clear A80
    replace H := Option.bind_eq_some_iff.mp H
    obtain ⟨t136, A90, H⟩ := H
    replace H : ((merkle_levels.f kj3 t136).bind fun t139 => (if 0 ≤ (wrap64 ((t133.length : Int) - 1)) then (if (wrap64 ((t133.length : Int) - 1)) < (t133.length : Int) then (if 0 < ((rd_L1 t133 (wrap64 ((t133.length : Int) - 1))).length : Int) then (if (wrap64 ((t133.length : Int) - 1)) < (t139.length : Int) then (if 0 < ((rd_L1 t139 (wrap64 ((t133.length : Int) - 1))).length : Int) then (if (rd (rd_L1 t133 (wrap64 ((t133.length : Int) - 1))) 0) = (rd (rd_L1 t139 (wrap64 ((t133.length : Int) - 1))) 0) then (some ((-1), 1)) else (merkle_Narrow.l0 kj3 t133 t139 0 1 (wrap64 ((wrap64 ((t133.length : Int) - 1)) - 1)))) else (none)) else (none)) else (none)) else (none)) else (none))) = some (r1, r2) := H
    have A9 := Aside0.mk A90
    clear A90
    replace H := Option.bind_eq_some_iff.mp H
    obtain ⟨t139, A100, H⟩ := H
    replace H : (if 0 ≤ (wrap64 ((t133.length : Int) - 1)) then (if (wrap64 ((t133.length : Int) - 1)) < (t133.length : Int) then (if 0 < ((rd_L1 t133 (wrap64 ((t133.length : Int) - 1))).length : Int) then (if (wrap64 ((t133.length : Int) - 1)) < (t139.length : Int) then (if 0 < ((rd_L1 t139 (wrap64 ((t133.length : Int) - 1))).length : Int) then (if (rd (rd_L1 t133 (wrap64 ((t133.length : Int) - 1))) 0) = (rd (rd_L1 t139 (wrap64 ((t133.length : Int) - 1))) 0) then (some ((-1), 1)) else (merkle_Narrow.l0 kj3 t133 t139 0 1 (wrap64 ((wrap64 ((t133.length : Int) - 1)) - 1)))) else (none)) else (none)) else (none)) else (none)) else (none)) = some (r1, r2) := H
    have A10 := Aside0.mk A100
    clear A100
    obtain ⟨ji11, hji11⟩ : ∃ j_ : Int, (wrap64 ((t133.length : Int) - 1)) = j_ := ⟨_, rfl⟩
    replace H : (if 0 ≤ (ji11) then (if (ji11) < (t133.length : Int) then (if 0 < ((rd_L1 t133 (ji11)).length : Int) then (if (ji11) < (t139.length : Int) then (if 0 < ((rd_L1 t139 (ji11)).length : Int) then (if (rd (rd_L1 t133 (ji11)) 0) = (rd (rd_L1 t139 (ji11)) 0) then (some ((-1), 1)) else (merkle_Narrow.l0 kj3 t133 t139 0 1 (wrap64 ((ji11) - 1)))) else (none)) else (none)) else (none)) else (none)) else (none)) = some (r1, r2) := by first | (rw [hji11] at H; exact H) | (simp only [hji11] at H ⊢; exact H)
    (try rw [hji11] at A7)
    (try rw [hji11] at A8)
    (try rw [hji11] at A9)
    (try rw [hji11] at A10)
    have hji11w : (IntKind.i64.wrap ((t133.length : Int) - 1)) = ji11 := (i64_w _).trans hji11
    by_cases c12 : 0 ≤ (ji11)
    ·
     rw [if_pos c12] at H
     have c12b0 : decide (0 ≤ (ji11)) = true := decide_eq_true c12
     clear c12
     by_cases c13 : (ji11) < (t133.length : Int)
     ·
      rw [if_pos c13] at H
      have c13b0 : decide ((ji11) < (t133.length : Int)) = true := decide_eq_true c13
      clear c13
      by_cases c14 : 0 < ((rd_L1 t133 (ji11)).length : Int)
      ·
       rw [if_pos c14] at H
       have c14b0 : decide (0 < ((rd_L1 t133 (ji11)).length : Int)) = true := decide_eq_true c14
       have c14b1 : decide (0 < (rd_L1 t133 (ji11)).length) = true := decide_eq_true (by omega)
       clear c14
       by_cases c15 : (ji11) < (t139.length : Int)
       ·
        rw [if_pos c15] at H
        have c15b0 : decide ((ji11) < (t139.length : Int)) = true := decide_eq_true c15
        clear c15
        by_cases c16 : 0 < ((rd_L1 t139 (ji11)).length : Int)
        ·
         rw [if_pos c16] at H
         have c16b0 : decide (0 < ((rd_L1 t139 (ji11)).length : Int)) = true := decide_eq_true c16
         have c16b1 : decide (0 < (rd_L1 t139 (ji11)).length) = true := decide_eq_true (by omega)
         clear c16
         by_cases c17 : (rd (rd_L1 t133 (ji11)) 0) = (rd (rd_L1 t139 (ji11)) 0)
         ·
          rw [if_pos c17] at H
          have c17b0 : ((rd (rd_L1 t133 (ji11)) 0) == (rd (rd_L1 t139 (ji11)) 0)) = true := beq_iff_eq.mpr c17
          have c17b1 : ((rd (rd_L1 t133 (ji11)) 0) != (rd (rd_L1 t139 (ji11)) 0)) = false := bne_eq_false_iff_eq.mpr c17
          clear c17
          simp only [Option.some.injEq, Prod.mk.injEq] at H
          obtain ⟨rfl, rfl⟩ := H
          go_wp2_with (first | (go_at_call 61; (with_reducible refine (merkle_filled.calls kj3 _ _ l0 _ _ l1 t130 _ ?side1 ?side2 ?side3 ?side4 A7.out).mono ?_); (case side1 => repeat (first | exact (Kd.C_below HR0.out HB.out) | (with_reducible refine Kd.C_alloc ?_ _) | (with_reducible refine Kd.C_drewN ?_ _) | (with_reducible refine Kd.C_drew ?_))); (case side2 => exact HC0.out); (case side3 => repeat (first | exact (Kd.C_below HR1.out HB.out) | (with_reducible refine Kd.C_alloc ?_ _) | (with_reducible refine Kd.C_drewN ?_ _) | (with_reducible refine Kd.C_drew ?_))); (case side4 => exact HC1.out); rintro e w18 ⟨v131, rfl, ho0, hb⟩; have n0_ := Aside0.mk (Kd.R_lower ho0 (below_size (by repeat (first | (with_reducible first | exact HB.out | apply below_alloc | apply pw_below_drewN | apply below_drew1) | exact HB.out)))); have n1_ := Aside0.mk (below_step (by repeat (first | (with_reducible first | exact HB.out | apply below_alloc | apply pw_below_drewN | apply below_drew1) | exact HB.out)) hb); clear HB; have HO132 := n0_; have HB := n1_; clear n0_ n1_; (try clear hb); (try clear hb2); (try clear hk); (try clear hi); (try clear ho0); obtain ⟨Ao19, co19, eo19⟩ := Kd.R_slice HO132.out; subst eo19) | (go_at_call 60; (with_reducible refine (merkle_levels.calls kj3 _ _ t130 t133 _ ?side1 ?side2 A8.out).mono ?_); (case side1 => repeat (first | exact (Kd.R_reads' HO132.out).2.2 | (with_reducible refine Kd.C_alloc ?_ _) | (with_reducible refine Kd.C_drewN ?_ _) | (with_reducible refine Kd.C_drew ?_))); (case side2 => exact (Kd.R_reads' HO132.out).2.1); rintro e w20 ⟨v134, rfl, ho0, hb⟩; have n0_ := Aside0.mk (Kd.R_below (by (with_reducible repeat (first | apply Kd.R_alloc | apply Kd.R_drewN | apply Kd.R_drew)); exact HO132.out) hb); have n1_ := Aside0.mk (Kd.N_lower (Kd.N_mono (ok' := fun k_ => some k_ ≠ (.slice Ao19 t130.length co19 : Value).ownBlock) ho0 (fun k_ hk_ => (Kd.fresh' (Kd.R_lt (by (with_reducible repeat (first | apply Kd.R_alloc | apply Kd.R_drewN | apply Kd.R_drew)); exact HO132.out)) k_ hk_))) (below_size (by repeat (first | (with_reducible first | exact HB.out | apply below_alloc | apply pw_below_drewN | apply below_drew1) | exact HB.out)))); have n2_ := Aside0.mk (below_step (by repeat (first | (with_reducible first | exact HB.out | apply below_alloc | apply pw_below_drewN | apply below_drew1) | exact HB.out)) hb); clear HO132; clear HB; have HO132 := n0_; have HO135 := n1_; have HB := n2_; clear n0_ n1_ n2_; (try clear hb); (try clear hb2); (try clear hk); (try clear hi); (try clear ho0)) | (go_at_call 61; (with_reducible refine (merkle_filled.calls kj3 _ _ l1 _ _ l0 t136 _ ?side1 ?side2 ?side3 ?side4 A9.out).mono ?_); (case side1 => repeat (first | exact (Kd.C_below HR1.out HB.out) | (with_reducible refine Kd.C_alloc ?_ _) | (with_reducible refine Kd.C_drewN ?_ _) | (with_reducible refine Kd.C_drew ?_))); (case side2 => exact HC1.out); (case side3 => repeat (first | exact (Kd.C_below HR0.out HB.out) | (with_reducible refine Kd.C_alloc ?_ _) | (with_reducible refine Kd.C_drewN ?_ _) | (with_reducible refine Kd.C_drew ?_))); (case side4 => exact HC0.out); rintro e w21 ⟨v137, rfl, ho0, hb⟩; have n0_ := Aside0.mk (Kd.R_elder' (by (with_reducible repeat (first | apply Kd.R_alloc | apply Kd.R_drewN | apply Kd.R_drew)); exact HO132.out) (Kd.R_base ho0) hb); have n1_ := Aside0.mk (Kd.N_elder' (by (with_reducible repeat (first | apply Kd.N_alloc | apply Kd.N_drewN | apply Kd.N_drew)); exact HO135.out) (Kd.R_base ho0) hb); have n2_ := Aside0.mk (Kd.R_lower (Kd.R_new' ho0 (Kd.R_lt (by (with_reducible repeat (first | apply Kd.R_alloc | apply Kd.R_drewN | apply Kd.R_drew)); exact HO132.out))) (below_size (by repeat (first | (with_reducible first | exact HB.out | apply below_alloc | apply pw_below_drewN | apply below_drew1) | exact HB.out)))); have n3_ := Aside0.mk (below_step (by repeat (first | (with_reducible first | exact HB.out | apply below_alloc | apply pw_below_drewN | apply below_drew1) | exact HB.out)) hb); clear HO132; clear HO135; clear HB; have HO132 := n0_; have HO135 := n1_; have HO138 := n2_; have HB := n3_; clear n0_ n1_ n2_ n3_; (try clear hb); (try clear hb2); (try clear hk); (try clear hi); (try clear ho0); obtain ⟨Ao22, co22, eo22⟩ := Kd.R_slice HO138.out; subst eo22) | (go_at_call 60; (with_reducible refine (merkle_levels.calls kj3 _ _ t136 t139 _ ?side1 ?side2 A10.out).mono ?_); (case side1 => repeat (first | exact (Kd.R_reads' HO138.out).2.2 | (with_reducible refine Kd.C_alloc ?_ _) | (with_reducible refine Kd.C_drewN ?_ _) | (with_reducible refine Kd.C_drew ?_))); (case side2 => exact (Kd.R_reads' HO138.out).2.1); rintro e w23 ⟨v140, rfl, ho0, hb⟩; have n0_ := Aside0.mk (Kd.R_below (by (with_reducible repeat (first | apply Kd.R_alloc | apply Kd.R_drewN | apply Kd.R_drew)); exact HO132.out) hb); have n1_ := Aside0.mk (Kd.N_elder' (by (with_reducible repeat (first | apply Kd.N_alloc | apply Kd.N_drewN | apply Kd.N_drew)); exact HO135.out) (Kd.N_base ho0) hb); have n2_ := Aside0.mk (Kd.R_below (by (with_reducible repeat (first | apply Kd.R_alloc | apply Kd.R_drewN | apply Kd.R_drew)); exact HO138.out) hb); have n3_ := Aside0.mk (Kd.N_lower (Kd.N_mono (ok' := fun k_ => some k_ ≠ (.slice Ao19 t130.length co19 : Value).ownBlock ∧ some k_ ≠ (v134 : Value).ownBlock ∧ some k_ ≠ (.slice Ao22 t136.length co22 : Value).ownBlock) ho0 (fun k_ hk_ => ⟨(Kd.fresh' (Kd.R_lt (by (with_reducible repeat (first | apply Kd.R_alloc | apply Kd.R_drewN | apply Kd.R_drew)); exact HO132.out)) k_ hk_), (Kd.fresh' (Kd.N_lt (by (with_reducible repeat (first | apply Kd.N_alloc | apply Kd.N_drewN | apply Kd.N_drew)); exact HO135.out)) k_ hk_), (Kd.fresh' (Kd.R_lt (by (with_reducible repeat (first | apply Kd.R_alloc | apply Kd.R_drewN | apply Kd.R_drew)); exact HO138.out)) k_ hk_)⟩)) (below_size (by repeat (first | (with_reducible first | exact HB.out | apply below_alloc | apply pw_below_drewN | apply below_drew1) | exact HB.out)))); have n4_ := Aside0.mk (below_step (by repeat (first | (with_reducible first | exact HB.out | apply below_alloc | apply pw_below_drewN | apply below_drew1) | exact HB.out)) hb); clear HO132; clear HO135; clear HO138; clear HB; have HO132 := n0_; have HO135 := n1_; have HO138 := n2_; have HO141 := n3_; have HB := n4_; clear n0_ n1_ n2_ n3_ n4_; (try clear hb); (try clear hb2); (try clear hk); (try clear hi); (try clear ho0); obtain ⟨Ao24, co24, eo24⟩ := Kd.N_slice HO135.out; subst eo24; have p142 : 0 ≤ ((ji11) : Int) := of_decide_eq_true (by first | (with_reducible assumption) | assumption); have q142 : (ji11) < (t133.length : Int) := of_decide_eq_true (by first | (with_reducible assumption) | assumption); obtain ⟨ad142, A142_0, c142_0, e142, hx142_0, hl142_0, hi142_0⟩ := at_L1 (Kd.N_reads' HO135.out).2.2 (ji11) p142 q142; cases e142; obtain ⟨ce142, hce142, hMe142, hcc142⟩ := Kd.N_get HO135.out [] (ji11) p142 (by first | exact q142 | exact of_decide_eq_true (by first | (with_reducible assumption) | assumption) | (have e_ := (Kd.N_reads' HO135.out).1; omega)); obtain ⟨ua142_0, uc142_0, rfl, ul142_0, ge142_0⟩ := Kd.FK_slice_open hMe142; have hv142_0 := hcc142 0 _ rfl; rw [Nat.add_zero, show ((Kd.slice 37 (Kd.int .u64))).sz = 1 from rfl, Nat.mul_one] at hv142_0; replace hv142_0 := Option.some.inj (hv142_0.symm.trans hx142_0); injection hv142_0 with hva_ hvn_ hvc_; rw [hva_] at ge142_0; rw [hvc_] at ul142_0; have HL142_0 := Aside0.mk (show Kd.V (Kd.int .u64) 37 _ w.heap.size _ _ (rd_L1 t133 (ji11)) from Kd.V_mk ul142_0 ge142_0); clear hva_ hvn_ hvc_ ge142_0 ul142_0; clear hcc142 hce142; have HR142_0 := Aside0.mk hi142_0; have HC142_0 := Aside0.mk hl142_0; clear hi142_0 hl142_0; replace p142 := eq_true p142; replace q142 := eq_true q142; have p143 : 0 ≤ (0 : Int) := (by omega); have q143 : 0 < ((rd_L1 t133 (ji11)).length : Int) := of_decide_eq_true (by first | (with_reducible assumption) | assumption); obtain ⟨ad143, e143, hx143_0⟩ := Kd.at_int (by repeat (first | (with_reducible exact HR142_0.out) | (with_reducible refine Kd.C_alloc ?_ _) | (with_reducible refine Kd.C_drewN ?_ _) | (with_reducible refine Kd.C_drew ?_) | exact HR142_0.out)) 0 p143 q143; cases e143; have qi143 : (0 < (rd_L1 t133 (ji11)).length) = True := eq_true (by omega); (try rw [show ((0 : Int)).toNat = 0 from rfl] at hx143_0); (try rw [Addr.add_zero'] at hx143_0); replace p143 := eq_true p143; replace q143 := eq_true q143; obtain ⟨Ao25, co25, eo25⟩ := Kd.N_slice HO141.out; subst eo25; have p144 : 0 ≤ ((ji11) : Int) := of_decide_eq_true (by first | (with_reducible assumption) | assumption); have q144 : (ji11) < (t139.length : Int) := of_decide_eq_true (by first | (with_reducible assumption) | assumption); obtain ⟨ad144, A144_0, c144_0, e144, hx144_0, hl144_0, hi144_0⟩ := at_L1 (Kd.N_reads' HO141.out).2.2 (ji11) p144 q144; cases e144; obtain ⟨ce144, hce144, hMe144, hcc144⟩ := Kd.N_get HO141.out [] (ji11) p144 (by first | exact q144 | exact of_decide_eq_true (by first | (with_reducible assumption) | assumption) | (have e_ := (Kd.N_reads' HO141.out).1; omega)); obtain ⟨ua144_0, uc144_0, rfl, ul144_0, ge144_0⟩ := Kd.FK_slice_open hMe144; have hv144_0 := hcc144 0 _ rfl; rw [Nat.add_zero, show ((Kd.slice 37 (Kd.int .u64))).sz = 1 from rfl, Nat.mul_one] at hv144_0; replace hv144_0 := Option.some.inj (hv144_0.symm.trans hx144_0); injection hv144_0 with hva_ hvn_ hvc_; rw [hva_] at ge144_0; rw [hvc_] at ul144_0; have HL144_0 := Aside0.mk (show Kd.V (Kd.int .u64) 37 _ w.heap.size _ _ (rd_L1 t139 (ji11)) from Kd.V_mk ul144_0 ge144_0); clear hva_ hvn_ hvc_ ge144_0 ul144_0; clear hcc144 hce144; have HR144_0 := Aside0.mk hi144_0; have HC144_0 := Aside0.mk hl144_0; clear hi144_0 hl144_0; replace p144 := eq_true p144; replace q144 := eq_true q144; have p145 : 0 ≤ (0 : Int) := (by omega); have q145 : 0 < ((rd_L1 t139 (ji11)).length : Int) := of_decide_eq_true (by first | (with_reducible assumption) | assumption); obtain ⟨ad145, e145, hx145_0⟩ := Kd.at_int (by repeat (first | (with_reducible exact HR144_0.out) | (with_reducible refine Kd.C_alloc ?_ _) | (with_reducible refine Kd.C_drewN ?_ _) | (with_reducible refine Kd.C_drew ?_) | exact HR144_0.out)) 0 p145 q145; cases e145; have qi145 : (0 < (rd_L1 t139 (ji11)).length) = True := eq_true (by omega); (try rw [show ((0 : Int)).toNat = 0 from rfl] at hx145_0); (try rw [Addr.add_zero'] at hx145_0); replace p145 := eq_true p145; replace q145 := eq_true q145))
          repeat (go_quiet (first | (go_at_call 61; (with_reducible refine (merkle_filled.calls kj3 _ _ l0 _ _ l1 t130 _ ?side1 ?side2 ?side3 ?side4 A7.out).mono ?_); (case side1 => repeat (first | exact (Kd.C_below HR0.out HB.out) | (with_reducible refine Kd.C_alloc ?_ _) | (with_reducible refine Kd.C_drewN ?_ _) | (with_reducible refine Kd.C_drew ?_))); (case side2 => exact HC0.out); (case side3 => repeat (first | exact (Kd.C_below HR1.out HB.out) | (with_reducible refine Kd.C_alloc ?_ _) | (with_reducible refine Kd.C_drewN ?_ _) | (with_reducible refine Kd.C_drew ?_))); (case side4 => exact HC1.out); rintro e w18 ⟨v131, rfl, ho0, hb⟩; have n0_ := Aside0.mk (Kd.R_lower ho0 (below_size (by repeat (first | (with_reducible first | exact HB.out | apply below_alloc | apply pw_below_drewN | apply below_drew1) | exact HB.out)))); have n1_ := Aside0.mk (below_step (by repeat (first | (with_reducible first | exact HB.out | apply below_alloc | apply pw_below_drewN | apply below_drew1) | exact HB.out)) hb); clear HB; have HO132 := n0_; have HB := n1_; clear n0_ n1_; (try clear hb); (try clear hb2); (try clear hk); (try clear hi); (try clear ho0); obtain ⟨Ao19, co19, eo19⟩ := Kd.R_slice HO132.out; subst eo19) | (go_at_call 60; (with_reducible refine (merkle_levels.calls kj3 _ _ t130 t133 _ ?side1 ?side2 A8.out).mono ?_); (case side1 => repeat (first | exact (Kd.R_reads' HO132.out).2.2 | (with_reducible refine Kd.C_alloc ?_ _) | (with_reducible refine Kd.C_drewN ?_ _) | (with_reducible refine Kd.C_drew ?_))); (case side2 => exact (Kd.R_reads' HO132.out).2.1); rintro e w20 ⟨v134, rfl, ho0, hb⟩; have n0_ := Aside0.mk (Kd.R_below (by (with_reducible repeat (first | apply Kd.R_alloc | apply Kd.R_drewN | apply Kd.R_drew)); exact HO132.out) hb); have n1_ := Aside0.mk (Kd.N_lower (Kd.N_mono (ok' := fun k_ => some k_ ≠ (.slice Ao19 t130.length co19 : Value).ownBlock) ho0 (fun k_ hk_ => (Kd.fresh' (Kd.R_lt (by (with_reducible repeat (first | apply Kd.R_alloc | apply Kd.R_drewN | apply Kd.R_drew)); exact HO132.out)) k_ hk_))) (below_size (by repeat (first | (with_reducible first | exact HB.out | apply below_alloc | apply pw_below_drewN | apply below_drew1) | exact HB.out)))); have n2_ := Aside0.mk (below_step (by repeat (first | (with_reducible first | exact HB.out | apply below_alloc | apply pw_below_drewN | apply below_drew1) | exact HB.out)) hb); clear HO132; clear HB; have HO132 := n0_; have HO135 := n1_; have HB := n2_; clear n0_ n1_ n2_; (try clear hb); (try clear hb2); (try clear hk); (try clear hi); (try clear ho0)) | (go_at_call 61; (with_reducible refine (merkle_filled.calls kj3 _ _ l1 _ _ l0 t136 _ ?side1 ?side2 ?side3 ?side4 A9.out).mono ?_); (case side1 => repeat (first | exact (Kd.C_below HR1.out HB.out) | (with_reducible refine Kd.C_alloc ?_ _) | (with_reducible refine Kd.C_drewN ?_ _) | (with_reducible refine Kd.C_drew ?_))); (case side2 => exact HC1.out); (case side3 => repeat (first | exact (Kd.C_below HR0.out HB.out) | (with_reducible refine Kd.C_alloc ?_ _) | (with_reducible refine Kd.C_drewN ?_ _) | (with_reducible refine Kd.C_drew ?_))); (case side4 => exact HC0.out); rintro e w21 ⟨v137, rfl, ho0, hb⟩; have n0_ := Aside0.mk (Kd.R_elder' (by (with_reducible repeat (first | apply Kd.R_alloc | apply Kd.R_drewN | apply Kd.R_drew)); exact HO132.out) (Kd.R_base ho0) hb); have n1_ := Aside0.mk (Kd.N_elder' (by (with_reducible repeat (first | apply Kd.N_alloc | apply Kd.N_drewN | apply Kd.N_drew)); exact HO135.out) (Kd.R_base ho0) hb); have n2_ := Aside0.mk (Kd.R_lower (Kd.R_new' ho0 (Kd.R_lt (by (with_reducible repeat (first | apply Kd.R_alloc | apply Kd.R_drewN | apply Kd.R_drew)); exact HO132.out))) (below_size (by repeat (first | (with_reducible first | exact HB.out | apply below_alloc | apply pw_below_drewN | apply below_drew1) | exact HB.out)))); have n3_ := Aside0.mk (below_step (by repeat (first | (with_reducible first | exact HB.out | apply below_alloc | apply pw_below_drewN | apply below_drew1) | exact HB.out)) hb); clear HO132; clear HO135; clear HB; have HO132 := n0_; have HO135 := n1_; have HO138 := n2_; have HB := n3_; clear n0_ n1_ n2_ n3_; (try clear hb); (try clear hb2); (try clear hk); (try clear hi); (try clear ho0); obtain ⟨Ao22, co22, eo22⟩ := Kd.R_slice HO138.out; subst eo22) | (go_at_call 60; (with_reducible refine (merkle_levels.calls kj3 _ _ t136 t139 _ ?side1 ?side2 A10.out).mono ?_); (case side1 => repeat (first | exact (Kd.R_reads' HO138.out).2.2 | (with_reducible refine Kd.C_alloc ?_ _) | (with_reducible refine Kd.C_drewN ?_ _) | (with_reducible refine Kd.C_drew ?_))); (case side2 => exact (Kd.R_reads' HO138.out).2.1); rintro e w23 ⟨v140, rfl, ho0, hb⟩; have n0_ := Aside0.mk (Kd.R_below (by (with_reducible repeat (first | apply Kd.R_alloc | apply Kd.R_drewN | apply Kd.R_drew)); exact HO132.out) hb); have n1_ := Aside0.mk (Kd.N_elder' (by (with_reducible repeat (first | apply Kd.N_alloc | apply Kd.N_drewN | apply Kd.N_drew)); exact HO135.out) (Kd.N_base ho0) hb); have n2_ := Aside0.mk (Kd.R_below (by (with_reducible repeat (first | apply Kd.R_alloc | apply Kd.R_drewN | apply Kd.R_drew)); exact HO138.out) hb); have n3_ := Aside0.mk (Kd.N_lower (Kd.N_mono (ok' := fun k_ => some k_ ≠ (.slice Ao19 t130.length co19 : Value).ownBlock ∧ some k_ ≠ (v134 : Value).ownBlock ∧ some k_ ≠ (.slice Ao22 t136.length co22 : Value).ownBlock) ho0 (fun k_ hk_ => ⟨(Kd.fresh' (Kd.R_lt (by (with_reducible repeat (first | apply Kd.R_alloc | apply Kd.R_drewN | apply Kd.R_drew)); exact HO132.out)) k_ hk_), (Kd.fresh' (Kd.N_lt (by (with_reducible repeat (first | apply Kd.N_alloc | apply Kd.N_drewN | apply Kd.N_drew)); exact HO135.out)) k_ hk_), (Kd.fresh' (Kd.R_lt (by (with_reducible repeat (first | apply Kd.R_alloc | apply Kd.R_drewN | apply Kd.R_drew)); exact HO138.out)) k_ hk_)⟩)) (below_size (by repeat (first | (with_reducible first | exact HB.out | apply below_alloc | apply pw_below_drewN | apply below_drew1) | exact HB.out)))); have n4_ := Aside0.mk (below_step (by repeat (first | (with_reducible first | exact HB.out | apply below_alloc | apply pw_below_drewN | apply below_drew1) | exact HB.out)) hb); clear HO132; clear HO135; clear HO138; clear HB; have HO132 := n0_; have HO135 := n1_; have HO138 := n2_; have HO141 := n3_; have HB := n4_; clear n0_ n1_ n2_ n3_ n4_; (try clear hb); (try clear hb2); (try clear hk); (try clear hi); (try clear ho0); obtain ⟨Ao24, co24, eo24⟩ := Kd.N_slice HO135.out; subst eo24; have p142 : 0 ≤ ((ji11) : Int) := of_decide_eq_true (by first | (with_reducible assumption) | assumption); have q142 : (ji11) < (t133.length : Int) := of_decide_eq_true (by first | (with_reducible assumption) | assumption); obtain ⟨ad142, A142_0, c142_0, e142, hx142_0, hl142_0, hi142_0⟩ := at_L1 (Kd.N_reads' HO135.out).2.2 (ji11) p142 q142; cases e142; obtain ⟨ce142, hce142, hMe142, hcc142⟩ := Kd.N_get HO135.out [] (ji11) p142 (by first | exact q142 | exact of_decide_eq_true (by first | (with_reducible assumption) | assumption) | (have e_ := (Kd.N_reads' HO135.out).1; omega)); obtain ⟨ua142_0, uc142_0, rfl, ul142_0, ge142_0⟩ := Kd.FK_slice_open hMe142; have hv142_0 := hcc142 0 _ rfl; rw [Nat.add_zero, show ((Kd.slice 37 (Kd.int .u64))).sz = 1 from rfl, Nat.mul_one] at hv142_0; replace hv142_0 := Option.some.inj (hv142_0.symm.trans hx142_0); injection hv142_0 with hva_ hvn_ hvc_; rw [hva_] at ge142_0; rw [hvc_] at ul142_0; have HL142_0 := Aside0.mk (show Kd.V (Kd.int .u64) 37 _ w.heap.size _ _ (rd_L1 t133 (ji11)) from Kd.V_mk ul142_0 ge142_0); clear hva_ hvn_ hvc_ ge142_0 ul142_0; clear hcc142 hce142; have HR142_0 := Aside0.mk hi142_0; have HC142_0 := Aside0.mk hl142_0; clear hi142_0 hl142_0; replace p142 := eq_true p142; replace q142 := eq_true q142; have p143 : 0 ≤ (0 : Int) := (by omega); have q143 : 0 < ((rd_L1 t133 (ji11)).length : Int) := of_decide_eq_true (by first | (with_reducible assumption) | assumption); obtain ⟨ad143, e143, hx143_0⟩ := Kd.at_int (by repeat (first | (with_reducible exact HR142_0.out) | (with_reducible refine Kd.C_alloc ?_ _) | (with_reducible refine Kd.C_drewN ?_ _) | (with_reducible refine Kd.C_drew ?_) | exact HR142_0.out)) 0 p143 q143; cases e143; have qi143 : (0 < (rd_L1 t133 (ji11)).length) = True := eq_true (by omega); (try rw [show ((0 : Int)).toNat = 0 from rfl] at hx143_0); (try rw [Addr.add_zero'] at hx143_0); replace p143 := eq_true p143; replace q143 := eq_true q143; obtain ⟨Ao25, co25, eo25⟩ := Kd.N_slice HO141.out; subst eo25; have p144 : 0 ≤ ((ji11) : Int) := of_decide_eq_true (by first | (with_reducible assumption) | assumption); have q144 : (ji11) < (t139.length : Int) := of_decide_eq_true (by first | (with_reducible assumption) | assumption); obtain ⟨ad144, A144_0, c144_0, e144, hx144_0, hl144_0, hi144_0⟩ := at_L1 (Kd.N_reads' HO141.out).2.2 (ji11) p144 q144; cases e144; obtain ⟨ce144, hce144, hMe144, hcc144⟩ := Kd.N_get HO141.out [] (ji11) p144 (by first | exact q144 | exact of_decide_eq_true (by first | (with_reducible assumption) | assumption) | (have e_ := (Kd.N_reads' HO141.out).1; omega)); obtain ⟨ua144_0, uc144_0, rfl, ul144_0, ge144_0⟩ := Kd.FK_slice_open hMe144; have hv144_0 := hcc144 0 _ rfl; rw [Nat.add_zero, show ((Kd.slice 37 (Kd.int .u64))).sz = 1 from rfl, Nat.mul_one] at hv144_0; replace hv144_0 := Option.some.inj (hv144_0.symm.trans hx144_0); injection hv144_0 with hva_ hvn_ hvc_; rw [hva_] at ge144_0; rw [hvc_] at ul144_0; have HL144_0 := Aside0.mk (show Kd.V (Kd.int .u64) 37 _ w.heap.size _ _ (rd_L1 t139 (ji11)) from Kd.V_mk ul144_0 ge144_0); clear hva_ hvn_ hvc_ ge144_0 ul144_0; clear hcc144 hce144; have HR144_0 := Aside0.mk hi144_0; have HC144_0 := Aside0.mk hl144_0; clear hi144_0 hl144_0; replace p144 := eq_true p144; replace q144 := eq_true q144; have p145 : 0 ≤ (0 : Int) := (by omega); have q145 : 0 < ((rd_L1 t139 (ji11)).length : Int) := of_decide_eq_true (by first | (with_reducible assumption) | assumption); obtain ⟨ad145, e145, hx145_0⟩ := Kd.at_int (by repeat (first | (with_reducible exact HR144_0.out) | (with_reducible refine Kd.C_alloc ?_ _) | (with_reducible refine Kd.C_drewN ?_ _) | (with_reducible refine Kd.C_drew ?_) | exact HR144_0.out)) 0 p145 q145; cases e145; have qi145 : (0 < (rd_L1 t139 (ji11)).length) = True := eq_true (by omega); (try rw [show ((0 : Int)).toNat = 0 from rfl] at hx145_0); (try rw [Addr.add_zero'] at hx145_0); replace p145 := eq_true p145; replace q145 := eq_true q145)); try go_wp2_with (first | (go_at_call 61; (with_reducible refine (merkle_filled.calls kj3 _ _ l0 _ _ l1 t130 _ ?side1 ?side2 ?side3 ?side4 A7.out).mono ?_); (case side1 => repeat (first | exact (Kd.C_below HR0.out HB.out) | (with_reducible refine Kd.C_alloc ?_ _) | (with_reducible refine Kd.C_drewN ?_ _) | (with_reducible refine Kd.C_drew ?_))); (case side2 => exact HC0.out); (case side3 => repeat (first | exact (Kd.C_below HR1.out HB.out) | (with_reducible refine Kd.C_alloc ?_ _) | (with_reducible refine Kd.C_drewN ?_ _) | (with_reducible refine Kd.C_drew ?_))); (case side4 => exact HC1.out); rintro e w18 ⟨v131, rfl, ho0, hb⟩; have n0_ := Aside0.mk (Kd.R_lower ho0 (below_size (by repeat (first | (with_reducible first | exact HB.out | apply below_alloc | apply pw_below_drewN | apply below_drew1) | exact HB.out)))); have n1_ := Aside0.mk (below_step (by repeat (first | (with_reducible first | exact HB.out | apply below_alloc | apply pw_below_drewN | apply below_drew1) | exact HB.out)) hb); clear HB; have HO132 := n0_; have HB := n1_; clear n0_ n1_; (try clear hb); (try clear hb2); (try clear hk); (try clear hi); (try clear ho0); obtain ⟨Ao19, co19, eo19⟩ := Kd.R_slice HO132.out; subst eo19) | (go_at_call 60; (with_reducible refine (merkle_levels.calls kj3 _ _ t130 t133 _ ?side1 ?side2 A8.out).mono ?_); (case side1 => repeat (first | exact (Kd.R_reads' HO132.out).2.2 | (with_reducible refine Kd.C_alloc ?_ _) | (with_reducible refine Kd.C_drewN ?_ _) | (with_reducible refine Kd.C_drew ?_))); (case side2 => exact (Kd.R_reads' HO132.out).2.1); rintro e w20 ⟨v134, rfl, ho0, hb⟩; have n0_ := Aside0.mk (Kd.R_below (by (with_reducible repeat (first | apply Kd.R_alloc | apply Kd.R_drewN | apply Kd.R_drew)); exact HO132.out) hb); have n1_ := Aside0.mk (Kd.N_lower (Kd.N_mono (ok' := fun k_ => some k_ ≠ (.slice Ao19 t130.length co19 : Value).ownBlock) ho0 (fun k_ hk_ => (Kd.fresh' (Kd.R_lt (by (with_reducible repeat (first | apply Kd.R_alloc | apply Kd.R_drewN | apply Kd.R_drew)); exact HO132.out)) k_ hk_))) (below_size (by repeat (first | (with_reducible first | exact HB.out | apply below_alloc | apply pw_below_drewN | apply below_drew1) | exact HB.out)))); have n2_ := Aside0.mk (below_step (by repeat (first | (with_reducible first | exact HB.out | apply below_alloc | apply pw_below_drewN | apply below_drew1) | exact HB.out)) hb); clear HO132; clear HB; have HO132 := n0_; have HO135 := n1_; have HB := n2_; clear n0_ n1_ n2_; (try clear hb); (try clear hb2); (try clear hk); (try clear hi); (try clear ho0)) | (go_at_call 61; (with_reducible refine (merkle_filled.calls kj3 _ _ l1 _ _ l0 t136 _ ?side1 ?side2 ?side3 ?side4 A9.out).mono ?_); (case side1 => repeat (first | exact (Kd.C_below HR1.out HB.out) | (with_reducible refine Kd.C_alloc ?_ _) | (with_reducible refine Kd.C_drewN ?_ _) | (with_reducible refine Kd.C_drew ?_))); (case side2 => exact HC1.out); (case side3 => repeat (first | exact (Kd.C_below HR0.out HB.out) | (with_reducible refine Kd.C_alloc ?_ _) | (with_reducible refine Kd.C_drewN ?_ _) | (with_reducible refine Kd.C_drew ?_))); (case side4 => exact HC0.out); rintro e w21 ⟨v137, rfl, ho0, hb⟩; have n0_ := Aside0.mk (Kd.R_elder' (by (with_reducible repeat (first | apply Kd.R_alloc | apply Kd.R_drewN | apply Kd.R_drew)); exact HO132.out) (Kd.R_base ho0) hb); have n1_ := Aside0.mk (Kd.N_elder' (by (with_reducible repeat (first | apply Kd.N_alloc | apply Kd.N_drewN | apply Kd.N_drew)); exact HO135.out) (Kd.R_base ho0) hb); have n2_ := Aside0.mk (Kd.R_lower (Kd.R_new' ho0 (Kd.R_lt (by (with_reducible repeat (first | apply Kd.R_alloc | apply Kd.R_drewN | apply Kd.R_drew)); exact HO132.out))) (below_size (by repeat (first | (with_reducible first | exact HB.out | apply below_alloc | apply pw_below_drewN | apply below_drew1) | exact HB.out)))); have n3_ := Aside0.mk (below_step (by repeat (first | (with_reducible first | exact HB.out | apply below_alloc | apply pw_below_drewN | apply below_drew1) | exact HB.out)) hb); clear HO132; clear HO135; clear HB; have HO132 := n0_; have HO135 := n1_; have HO138 := n2_; have HB := n3_; clear n0_ n1_ n2_ n3_; (try clear hb); (try clear hb2); (try clear hk); (try clear hi); (try clear ho0); obtain ⟨Ao22, co22, eo22⟩ := Kd.R_slice HO138.out; subst eo22) | (go_at_call 60; (with_reducible refine (merkle_levels.calls kj3 _ _ t136 t139 _ ?side1 ?side2 A10.out).mono ?_); (case side1 => repeat (first | exact (Kd.R_reads' HO138.out).2.2 | (with_reducible refine Kd.C_alloc ?_ _) | (with_reducible refine Kd.C_drewN ?_ _) | (with_reducible refine Kd.C_drew ?_))); (case side2 => exact (Kd.R_reads' HO138.out).2.1); rintro e w23 ⟨v140, rfl, ho0, hb⟩; have n0_ := Aside0.mk (Kd.R_below (by (with_reducible repeat (first | apply Kd.R_alloc | apply Kd.R_drewN | apply Kd.R_drew)); exact HO132.out) hb); have n1_ := Aside0.mk (Kd.N_elder' (by (with_reducible repeat (first | apply Kd.N_alloc | apply Kd.N_drewN | apply Kd.N_drew)); exact HO135.out) (Kd.N_base ho0) hb); have n2_ := Aside0.mk (Kd.R_below (by (with_reducible repeat (first | apply Kd.R_alloc | apply Kd.R_drewN | apply Kd.R_drew)); exact HO138.out) hb); have n3_ := Aside0.mk (Kd.N_lower (Kd.N_mono (ok' := fun k_ => some k_ ≠ (.slice Ao19 t130.length co19 : Value).ownBlock ∧ some k_ ≠ (v134 : Value).ownBlock ∧ some k_ ≠ (.slice Ao22 t136.length co22 : Value).ownBlock) ho0 (fun k_ hk_ => ⟨(Kd.fresh' (Kd.R_lt (by (with_reducible repeat (first | apply Kd.R_alloc | apply Kd.R_drewN | apply Kd.R_drew)); exact HO132.out)) k_ hk_), (Kd.fresh' (Kd.N_lt (by (with_reducible repeat (first | apply Kd.N_alloc | apply Kd.N_drewN | apply Kd.N_drew)); exact HO135.out)) k_ hk_), (Kd.fresh' (Kd.R_lt (by (with_reducible repeat (first | apply Kd.R_alloc | apply Kd.R_drewN | apply Kd.R_drew)); exact HO138.out)) k_ hk_)⟩)) (below_size (by repeat (first | (with_reducible first | exact HB.out | apply below_alloc | apply pw_below_drewN | apply below_drew1) | exact HB.out)))); have n4_ := Aside0.mk (below_step (by repeat (first | (with_reducible first | exact HB.out | apply below_alloc | apply pw_below_drewN | apply below_drew1) | exact HB.out)) hb); clear HO132; clear HO135; clear HO138; clear HB; have HO132 := n0_; have HO135 := n1_; have HO138 := n2_; have HO141 := n3_; have HB := n4_; clear n0_ n1_ n2_ n3_ n4_; (try clear hb); (try clear hb2); (try clear hk); (try clear hi); (try clear ho0); obtain ⟨Ao24, co24, eo24⟩ := Kd.N_slice HO135.out; subst eo24; have p142 : 0 ≤ ((ji11) : Int) := of_decide_eq_true (by first | (with_reducible assumption) | assumption); have q142 : (ji11) < (t133.length : Int) := of_decide_eq_true (by first | (with_reducible assumption) | assumption); obtain ⟨ad142, A142_0, c142_0, e142, hx142_0, hl142_0, hi142_0⟩ := at_L1 (Kd.N_reads' HO135.out).2.2 (ji11) p142 q142; cases e142; obtain ⟨ce142, hce142, hMe142, hcc142⟩ := Kd.N_get HO135.out [] (ji11) p142 (by first | exact q142 | exact of_decide_eq_true (by first | (with_reducible assumption) | assumption) | (have e_ := (Kd.N_reads' HO135.out).1; omega)); obtain ⟨ua142_0, uc142_0, rfl, ul142_0, ge142_0⟩ := Kd.FK_slice_open hMe142; have hv142_0 := hcc142 0 _ rfl; rw [Nat.add_zero, show ((Kd.slice 37 (Kd.int .u64))).sz = 1 from rfl, Nat.mul_one] at hv142_0; replace hv142_0 := Option.some.inj (hv142_0.symm.trans hx142_0); injection hv142_0 with hva_ hvn_ hvc_; rw [hva_] at ge142_0; rw [hvc_] at ul142_0; have HL142_0 := Aside0.mk (show Kd.V (Kd.int .u64) 37 _ w.heap.size _ _ (rd_L1 t133 (ji11)) from Kd.V_mk ul142_0 ge142_0); clear hva_ hvn_ hvc_ ge142_0 ul142_0; clear hcc142 hce142; have HR142_0 := Aside0.mk hi142_0; have HC142_0 := Aside0.mk hl142_0; clear hi142_0 hl142_0; replace p142 := eq_true p142; replace q142 := eq_true q142; have p143 : 0 ≤ (0 : Int) := (by omega); have q143 : 0 < ((rd_L1 t133 (ji11)).length : Int) := of_decide_eq_true (by first | (with_reducible assumption) | assumption); obtain ⟨ad143, e143, hx143_0⟩ := Kd.at_int (by repeat (first | (with_reducible exact HR142_0.out) | (with_reducible refine Kd.C_alloc ?_ _) | (with_reducible refine Kd.C_drewN ?_ _) | (with_reducible refine Kd.C_drew ?_) | exact HR142_0.out)) 0 p143 q143; cases e143; have qi143 : (0 < (rd_L1 t133 (ji11)).length) = True := eq_true (by omega); (try rw [show ((0 : Int)).toNat = 0 from rfl] at hx143_0); (try rw [Addr.add_zero'] at hx143_0); replace p143 := eq_true p143; replace q143 := eq_true q143; obtain ⟨Ao25, co25, eo25⟩ := Kd.N_slice HO141.out; subst eo25; have p144 : 0 ≤ ((ji11) : Int) := of_decide_eq_true (by first | (with_reducible assumption) | assumption); have q144 : (ji11) < (t139.length : Int) := of_decide_eq_true (by first | (with_reducible assumption) | assumption); obtain ⟨ad144, A144_0, c144_0, e144, hx144_0, hl144_0, hi144_0⟩ := at_L1 (Kd.N_reads' HO141.out).2.2 (ji11) p144 q144; cases e144; obtain ⟨ce144, hce144, hMe144, hcc144⟩ := Kd.N_get HO141.out [] (ji11) p144 (by first | exact q144 | exact of_decide_eq_true (by first | (with_reducible assumption) | assumption) | (have e_ := (Kd.N_reads' HO141.out).1; omega)); obtain ⟨ua144_0, uc144_0, rfl, ul144_0, ge144_0⟩ := Kd.FK_slice_open hMe144; have hv144_0 := hcc144 0 _ rfl; rw [Nat.add_zero, show ((Kd.slice 37 (Kd.int .u64))).sz = 1 from rfl, Nat.mul_one] at hv144_0; replace hv144_0 := Option.some.inj (hv144_0.symm.trans hx144_0); injection hv144_0 with hva_ hvn_ hvc_; rw [hva_] at ge144_0; rw [hvc_] at ul144_0; have HL144_0 := Aside0.mk (show Kd.V (Kd.int .u64) 37 _ w.heap.size _ _ (rd_L1 t139 (ji11)) from Kd.V_mk ul144_0 ge144_0); clear hva_ hvn_ hvc_ ge144_0 ul144_0; clear hcc144 hce144; have HR144_0 := Aside0.mk hi144_0; have HC144_0 := Aside0.mk hl144_0; clear hi144_0 hl144_0; replace p144 := eq_true p144; replace q144 := eq_true q144; have p145 : 0 ≤ (0 : Int) := (by omega); have q145 : 0 < ((rd_L1 t139 (ji11)).length : Int) := of_decide_eq_true (by first | (with_reducible assumption) | assumption); obtain ⟨ad145, e145, hx145_0⟩ := Kd.at_int (by repeat (first | (with_reducible exact HR144_0.out) | (with_reducible refine Kd.C_alloc ?_ _) | (with_reducible refine Kd.C_drewN ?_ _) | (with_reducible refine Kd.C_drew ?_) | exact HR144_0.out)) 0 p145 q145; cases e145; have qi145 : (0 < (rd_L1 t139 (ji11)).length) = True := eq_true (by omega); (try rw [show ((0 : Int)).toNat = 0 from rfl] at hx145_0); (try rw [Addr.add_zero'] at hx145_0); replace p145 := eq_true p145; replace q145 := eq_true q145)))
          go_ret2
          exact ⟨by first | rfl | (simp [errW_none, errW_some] <;> rfl) | (simp only [← hji3, ← hji11]; first | rfl | (simp [errW_none, errW_some] <;> rfl)) | (simp [*, errW_none, errW_some] <;> rfl), by repeat (first | (with_reducible first | exact HB.out | apply below_alloc | apply pw_below_drewN | apply below_drew1) | exact HB.out)⟩
         ·
          rw [if_neg c17] at H
          have c17b0 : ((rd (rd_L1 t133 (ji11)) 0) == (rd (rd_L1 t139 (ji11)) 0)) = false := beq_eq_false_iff_ne.mpr c17
          have c17b1 : ((rd (rd_L1 t133 (ji11)) 0) != (rd (rd_L1 t139 (ji11)) 0)) = true := bne_iff_ne.mpr c17
          have H' := Aside0.mk H
          clear H
          go_wp2_with (first | (go_at_call 61; (with_reducible refine (merkle_filled.calls kj3 _ _ l0 _ _ l1 t130 _ ?side1 ?side2 ?side3 ?side4 A7.out).mono ?_); (case side1 => repeat (first | exact (Kd.C_below HR0.out HB.out) | (with_reducible refine Kd.C_alloc ?_ _) | (with_reducible refine Kd.C_drewN ?_ _) | (with_reducible refine Kd.C_drew ?_))); (case side2 => exact HC0.out); (case side3 => repeat (first | exact (Kd.C_below HR1.out HB.out) | (with_reducible refine Kd.C_alloc ?_ _) | (with_reducible refine Kd.C_drewN ?_ _) | (with_reducible refine Kd.C_drew ?_))); (case side4 => exact HC1.out); rintro e w26 ⟨v131, rfl, ho0, hb⟩; have n0_ := Aside0.mk (Kd.R_lower ho0 (below_size (by repeat (first | (with_reducible first | exact HB.out | apply below_alloc | apply pw_below_drewN | apply below_drew1) | exact HB.out)))); have n1_ := Aside0.mk (below_step (by repeat (first | (with_reducible first | exact HB.out | apply below_alloc | apply pw_below_drewN | apply below_drew1) | exact HB.out)) hb); clear HB; have HO132 := n0_; have HB := n1_; clear n0_ n1_; (try clear hb); (try clear hb2); (try clear hk); (try clear hi); (try clear ho0); obtain ⟨Ao27, co27, eo27⟩ := Kd.R_slice HO132.out; subst eo27) | (go_at_call 60; (with_reducible refine (merkle_levels.calls kj3 _ _ t130 t133 _ ?side1 ?side2 A8.out).mono ?_); (case side1 => repeat (first | exact (Kd.R_reads' HO132.out).2.2 | (with_reducible refine Kd.C_alloc ?_ _) | (with_reducible refine Kd.C_drewN ?_ _) | (with_reducible refine Kd.C_drew ?_))); (case side2 => exact (Kd.R_reads' HO132.out).2.1); rintro e w28 ⟨v134, rfl, ho0, hb⟩; have n0_ := Aside0.mk (Kd.R_below (by (with_reducible repeat (first | apply Kd.R_alloc | apply Kd.R_drewN | apply Kd.R_drew)); exact HO132.out) hb); have n1_ := Aside0.mk (Kd.N_lower (Kd.N_mono (ok' := fun k_ => some k_ ≠ (.slice Ao27 t130.length co27 : Value).ownBlock) ho0 (fun k_ hk_ => (Kd.fresh' (Kd.R_lt (by (with_reducible repeat (first | apply Kd.R_alloc | apply Kd.R_drewN | apply Kd.R_drew)); exact HO132.out)) k_ hk_))) (below_size (by repeat (first | (with_reducible first | exact HB.out | apply below_alloc | apply pw_below_drewN | apply below_drew1) | exact HB.out)))); have n2_ := Aside0.mk (below_step (by repeat (first | (with_reducible first | exact HB.out | apply below_alloc | apply pw_below_drewN | apply below_drew1) | exact HB.out)) hb); clear HO132; clear HB; have HO132 := n0_; have HO135 := n1_; have HB := n2_; clear n0_ n1_ n2_; (try clear hb); (try clear hb2); (try clear hk); (try clear hi); (try clear ho0)) | (go_at_call 61; (with_reducible refine (merkle_filled.calls kj3 _ _ l1 _ _ l0 t136 _ ?side1 ?side2 ?side3 ?side4 A9.out).mono ?_); (case side1 => repeat (first | exact (Kd.C_below HR1.out HB.out) | (with_reducible refine Kd.C_alloc ?_ _) | (with_reducible refine Kd.C_drewN ?_ _) | (with_reducible refine Kd.C_drew ?_))); (case side2 => exact HC1.out); (case side3 => repeat (first | exact (Kd.C_below HR0.out HB.out) | (with_reducible refine Kd.C_alloc ?_ _) | (with_reducible refine Kd.C_drewN ?_ _) | (with_reducible refine Kd.C_drew ?_))); (case side4 => exact HC0.out); rintro e w29 ⟨v137, rfl, ho0, hb⟩; have n0_ := Aside0.mk (Kd.R_elder' (by (with_reducible repeat (first | apply Kd.R_alloc | apply Kd.R_drewN | apply Kd.R_drew)); exact HO132.out) (Kd.R_base ho0) hb); have n1_ := Aside0.mk (Kd.N_elder' (by (with_reducible repeat (first | apply Kd.N_alloc | apply Kd.N_drewN | apply Kd.N_drew)); exact HO135.out) (Kd.R_base ho0) hb); have n2_ := Aside0.mk (Kd.R_lower (Kd.R_new' ho0 (Kd.R_lt (by (with_reducible repeat (first | apply Kd.R_alloc | apply Kd.R_drewN | apply Kd.R_drew)); exact HO132.out))) (below_size (by repeat (first | (with_reducible first | exact HB.out | apply below_alloc | apply pw_below_drewN | apply below_drew1) | exact HB.out)))); have n3_ := Aside0.mk (below_step (by repeat (first | (with_reducible first | exact HB.out | apply below_alloc | apply pw_below_drewN | apply below_drew1) | exact HB.out)) hb); clear HO132; clear HO135; clear HB; have HO132 := n0_; have HO135 := n1_; have HO138 := n2_; have HB := n3_; clear n0_ n1_ n2_ n3_; (try clear hb); (try clear hb2); (try clear hk); (try clear hi); (try clear ho0); obtain ⟨Ao30, co30, eo30⟩ := Kd.R_slice HO138.out; subst eo30) | (go_at_call 60; (with_reducible refine (merkle_levels.calls kj3 _ _ t136 t139 _ ?side1 ?side2 A10.out).mono ?_); (case side1 => repeat (first | exact (Kd.R_reads' HO138.out).2.2 | (with_reducible refine Kd.C_alloc ?_ _) | (with_reducible refine Kd.C_drewN ?_ _) | (with_reducible refine Kd.C_drew ?_))); (case side2 => exact (Kd.R_reads' HO138.out).2.1); rintro e w31 ⟨v140, rfl, ho0, hb⟩; have n0_ := Aside0.mk (Kd.R_below (by (with_reducible repeat (first | apply Kd.R_alloc | apply Kd.R_drewN | apply Kd.R_drew)); exact HO132.out) hb); have n1_ := Aside0.mk (Kd.N_elder' (by (with_reducible repeat (first | apply Kd.N_alloc | apply Kd.N_drewN | apply Kd.N_drew)); exact HO135.out) (Kd.N_base ho0) hb); have n2_ := Aside0.mk (Kd.R_below (by (with_reducible repeat (first | apply Kd.R_alloc | apply Kd.R_drewN | apply Kd.R_drew)); exact HO138.out) hb); have n3_ := Aside0.mk (Kd.N_lower (Kd.N_mono (ok' := fun k_ => some k_ ≠ (.slice Ao27 t130.length co27 : Value).ownBlock ∧ some k_ ≠ (v134 : Value).ownBlock ∧ some k_ ≠ (.slice Ao30 t136.length co30 : Value).ownBlock) ho0 (fun k_ hk_ => ⟨(Kd.fresh' (Kd.R_lt (by (with_reducible repeat (first | apply Kd.R_alloc | apply Kd.R_drewN | apply Kd.R_drew)); exact HO132.out)) k_ hk_), (Kd.fresh' (Kd.N_lt (by (with_reducible repeat (first | apply Kd.N_alloc | apply Kd.N_drewN | apply Kd.N_drew)); exact HO135.out)) k_ hk_), (Kd.fresh' (Kd.R_lt (by (with_reducible repeat (first | apply Kd.R_alloc | apply Kd.R_drewN | apply Kd.R_drew)); exact HO138.out)) k_ hk_)⟩)) (below_size (by repeat (first | (with_reducible first | exact HB.out | apply below_alloc | apply pw_below_drewN | apply below_drew1) | exact HB.out)))); have n4_ := Aside0.mk (below_step (by repeat (first | (with_reducible first | exact HB.out | apply below_alloc | apply pw_below_drewN | apply below_drew1) | exact HB.out)) hb); clear HO132; clear HO135; clear HO138; clear HB; have HO132 := n0_; have HO135 := n1_; have HO138 := n2_; have HO141 := n3_; have HB := n4_; clear n0_ n1_ n2_ n3_ n4_; (try clear hb); (try clear hb2); (try clear hk); (try clear hi); (try clear ho0); obtain ⟨Ao32, co32, eo32⟩ := Kd.N_slice HO135.out; subst eo32; have p142 : 0 ≤ ((ji11) : Int) := of_decide_eq_true (by first | (with_reducible assumption) | assumption); have q142 : (ji11) < (t133.length : Int) := of_decide_eq_true (by first | (with_reducible assumption) | assumption); obtain ⟨ad142, A142_0, c142_0, e142, hx142_0, hl142_0, hi142_0⟩ := at_L1 (Kd.N_reads' HO135.out).2.2 (ji11) p142 q142; cases e142; obtain ⟨ce142, hce142, hMe142, hcc142⟩ := Kd.N_get HO135.out [] (ji11) p142 (by first | exact q142 | exact of_decide_eq_true (by first | (with_reducible assumption) | assumption) | (have e_ := (Kd.N_reads' HO135.out).1; omega)); obtain ⟨ua142_0, uc142_0, rfl, ul142_0, ge142_0⟩ := Kd.FK_slice_open hMe142; have hv142_0 := hcc142 0 _ rfl; rw [Nat.add_zero, show ((Kd.slice 37 (Kd.int .u64))).sz = 1 from rfl, Nat.mul_one] at hv142_0; replace hv142_0 := Option.some.inj (hv142_0.symm.trans hx142_0); injection hv142_0 with hva_ hvn_ hvc_; rw [hva_] at ge142_0; rw [hvc_] at ul142_0; have HL142_0 := Aside0.mk (show Kd.V (Kd.int .u64) 37 _ w.heap.size _ _ (rd_L1 t133 (ji11)) from Kd.V_mk ul142_0 ge142_0); clear hva_ hvn_ hvc_ ge142_0 ul142_0; clear hcc142 hce142; have HR142_0 := Aside0.mk hi142_0; have HC142_0 := Aside0.mk hl142_0; clear hi142_0 hl142_0; replace p142 := eq_true p142; replace q142 := eq_true q142; have p143 : 0 ≤ (0 : Int) := (by omega); have q143 : 0 < ((rd_L1 t133 (ji11)).length : Int) := of_decide_eq_true (by first | (with_reducible assumption) | assumption); obtain ⟨ad143, e143, hx143_0⟩ := Kd.at_int (by repeat (first | (with_reducible exact HR142_0.out) | (with_reducible refine Kd.C_alloc ?_ _) | (with_reducible refine Kd.C_drewN ?_ _) | (with_reducible refine Kd.C_drew ?_) | exact HR142_0.out)) 0 p143 q143; cases e143; have qi143 : (0 < (rd_L1 t133 (ji11)).length) = True := eq_true (by omega); (try rw [show ((0 : Int)).toNat = 0 from rfl] at hx143_0); (try rw [Addr.add_zero'] at hx143_0); replace p143 := eq_true p143; replace q143 := eq_true q143; obtain ⟨Ao33, co33, eo33⟩ := Kd.N_slice HO141.out; subst eo33; have p144 : 0 ≤ ((ji11) : Int) := of_decide_eq_true (by first | (with_reducible assumption) | assumption); have q144 : (ji11) < (t139.length : Int) := of_decide_eq_true (by first | (with_reducible assumption) | assumption); obtain ⟨ad144, A144_0, c144_0, e144, hx144_0, hl144_0, hi144_0⟩ := at_L1 (Kd.N_reads' HO141.out).2.2 (ji11) p144 q144; cases e144; obtain ⟨ce144, hce144, hMe144, hcc144⟩ := Kd.N_get HO141.out [] (ji11) p144 (by first | exact q144 | exact of_decide_eq_true (by first | (with_reducible assumption) | assumption) | (have e_ := (Kd.N_reads' HO141.out).1; omega)); obtain ⟨ua144_0, uc144_0, rfl, ul144_0, ge144_0⟩ := Kd.FK_slice_open hMe144; have hv144_0 := hcc144 0 _ rfl; rw [Nat.add_zero, show ((Kd.slice 37 (Kd.int .u64))).sz = 1 from rfl, Nat.mul_one] at hv144_0; replace hv144_0 := Option.some.inj (hv144_0.symm.trans hx144_0); injection hv144_0 with hva_ hvn_ hvc_; rw [hva_] at ge144_0; rw [hvc_] at ul144_0; have HL144_0 := Aside0.mk (show Kd.V (Kd.int .u64) 37 _ w.heap.size _ _ (rd_L1 t139 (ji11)) from Kd.V_mk ul144_0 ge144_0); clear hva_ hvn_ hvc_ ge144_0 ul144_0; clear hcc144 hce144; have HR144_0 := Aside0.mk hi144_0; have HC144_0 := Aside0.mk hl144_0; clear hi144_0 hl144_0; replace p144 := eq_true p144; replace q144 := eq_true q144; have p145 : 0 ≤ (0 : Int) := (by omega); have q145 : 0 < ((rd_L1 t139 (ji11)).length : Int) := of_decide_eq_true (by first | (with_reducible assumption) | assumption); obtain ⟨ad145, e145, hx145_0⟩ := Kd.at_int (by repeat (first | (with_reducible exact HR144_0.out) | (with_reducible refine Kd.C_alloc ?_ _) | (with_reducible refine Kd.C_drewN ?_ _) | (with_reducible refine Kd.C_drew ?_) | exact HR144_0.out)) 0 p145 q145; cases e145; have qi145 : (0 < (rd_L1 t139 (ji11)).length) = True := eq_true (by omega); (try rw [show ((0 : Int)).toNat = 0 from rfl] at hx145_0); (try rw [Addr.add_zero'] at hx145_0); replace p145 := eq_true p145; replace q145 := eq_true q145))
          repeat (go_quiet (first | (go_at_call 61; (with_reducible refine (merkle_filled.calls kj3 _ _ l0 _ _ l1 t130 _ ?side1 ?side2 ?side3 ?side4 A7.out).mono ?_); (case side1 => repeat (first | exact (Kd.C_below HR0.out HB.out) | (with_reducible refine Kd.C_alloc ?_ _) | (with_reducible refine Kd.C_drewN ?_ _) | (with_reducible refine Kd.C_drew ?_))); (case side2 => exact HC0.out); (case side3 => repeat (first | exact (Kd.C_below HR1.out HB.out) | (with_reducible refine Kd.C_alloc ?_ _) | (with_reducible refine Kd.C_drewN ?_ _) | (with_reducible refine Kd.C_drew ?_))); (case side4 => exact HC1.out); rintro e w26 ⟨v131, rfl, ho0, hb⟩; have n0_ := Aside0.mk (Kd.R_lower ho0 (below_size (by repeat (first | (with_reducible first | exact HB.out | apply below_alloc | apply pw_below_drewN | apply below_drew1) | exact HB.out)))); have n1_ := Aside0.mk (below_step (by repeat (first | (with_reducible first | exact HB.out | apply below_alloc | apply pw_below_drewN | apply below_drew1) | exact HB.out)) hb); clear HB; have HO132 := n0_; have HB := n1_; clear n0_ n1_; (try clear hb); (try clear hb2); (try clear hk); (try clear hi); (try clear ho0); obtain ⟨Ao27, co27, eo27⟩ := Kd.R_slice HO132.out; subst eo27) | (go_at_call 60; (with_reducible refine (merkle_levels.calls kj3 _ _ t130 t133 _ ?side1 ?side2 A8.out).mono ?_); (case side1 => repeat (first | exact (Kd.R_reads' HO132.out).2.2 | (with_reducible refine Kd.C_alloc ?_ _) | (with_reducible refine Kd.C_drewN ?_ _) | (with_reducible refine Kd.C_drew ?_))); (case side2 => exact (Kd.R_reads' HO132.out).2.1); rintro e w28 ⟨v134, rfl, ho0, hb⟩; have n0_ := Aside0.mk (Kd.R_below (by (with_reducible repeat (first | apply Kd.R_alloc | apply Kd.R_drewN | apply Kd.R_drew)); exact HO132.out) hb); have n1_ := Aside0.mk (Kd.N_lower (Kd.N_mono (ok' := fun k_ => some k_ ≠ (.slice Ao27 t130.length co27 : Value).ownBlock) ho0 (fun k_ hk_ => (Kd.fresh' (Kd.R_lt (by (with_reducible repeat (first | apply Kd.R_alloc | apply Kd.R_drewN | apply Kd.R_drew)); exact HO132.out)) k_ hk_))) (below_size (by repeat (first | (with_reducible first | exact HB.out | apply below_alloc | apply pw_below_drewN | apply below_drew1) | exact HB.out)))); have n2_ := Aside0.mk (below_step (by repeat (first | (with_reducible first | exact HB.out | apply below_alloc | apply pw_below_drewN | apply below_drew1) | exact HB.out)) hb); clear HO132; clear HB; have HO132 := n0_; have HO135 := n1_; have HB := n2_; clear n0_ n1_ n2_; (try clear hb); (try clear hb2); (try clear hk); (try clear hi); (try clear ho0)) | (go_at_call 61; (with_reducible refine (merkle_filled.calls kj3 _ _ l1 _ _ l0 t136 _ ?side1 ?side2 ?side3 ?side4 A9.out).mono ?_); (case side1 => repeat (first | exact (Kd.C_below HR1.out HB.out) | (with_reducible refine Kd.C_alloc ?_ _) | (with_reducible refine Kd.C_drewN ?_ _) | (with_reducible refine Kd.C_drew ?_))); (case side2 => exact HC1.out); (case side3 => repeat (first | exact (Kd.C_below HR0.out HB.out) | (with_reducible refine Kd.C_alloc ?_ _) | (with_reducible refine Kd.C_drewN ?_ _) | (with_reducible refine Kd.C_drew ?_))); (case side4 => exact HC0.out); rintro e w29 ⟨v137, rfl, ho0, hb⟩; have n0_ := Aside0.mk (Kd.R_elder' (by (with_reducible repeat (first | apply Kd.R_alloc | apply Kd.R_drewN | apply Kd.R_drew)); exact HO132.out) (Kd.R_base ho0) hb); have n1_ := Aside0.mk (Kd.N_elder' (by (with_reducible repeat (first | apply Kd.N_alloc | apply Kd.N_drewN | apply Kd.N_drew)); exact HO135.out) (Kd.R_base ho0) hb); have n2_ := Aside0.mk (Kd.R_lower (Kd.R_new' ho0 (Kd.R_lt (by (with_reducible repeat (first | apply Kd.R_alloc | apply Kd.R_drewN | apply Kd.R_drew)); exact HO132.out))) (below_size (by repeat (first | (with_reducible first | exact HB.out | apply below_alloc | apply pw_below_drewN | apply below_drew1) | exact HB.out)))); have n3_ := Aside0.mk (below_step (by repeat (first | (with_reducible first | exact HB.out | apply below_alloc | apply pw_below_drewN | apply below_drew1) | exact HB.out)) hb); clear HO132; clear HO135; clear HB; have HO132 := n0_; have HO135 := n1_; have HO138 := n2_; have HB := n3_; clear n0_ n1_ n2_ n3_; (try clear hb); (try clear hb2); (try clear hk); (try clear hi); (try clear ho0); obtain ⟨Ao30, co30, eo30⟩ := Kd.R_slice HO138.out; subst eo30) | (go_at_call 60; (with_reducible refine (merkle_levels.calls kj3 _ _ t136 t139 _ ?side1 ?side2 A10.out).mono ?_); (case side1 => repeat (first | exact (Kd.R_reads' HO138.out).2.2 | (with_reducible refine Kd.C_alloc ?_ _) | (with_reducible refine Kd.C_drewN ?_ _) | (with_reducible refine Kd.C_drew ?_))); (case side2 => exact (Kd.R_reads' HO138.out).2.1); rintro e w31 ⟨v140, rfl, ho0, hb⟩; have n0_ := Aside0.mk (Kd.R_below (by (with_reducible repeat (first | apply Kd.R_alloc | apply Kd.R_drewN | apply Kd.R_drew)); exact HO132.out) hb); have n1_ := Aside0.mk (Kd.N_elder' (by (with_reducible repeat (first | apply Kd.N_alloc | apply Kd.N_drewN | apply Kd.N_drew)); exact HO135.out) (Kd.N_base ho0) hb); have n2_ := Aside0.mk (Kd.R_below (by (with_reducible repeat (first | apply Kd.R_alloc | apply Kd.R_drewN | apply Kd.R_drew)); exact HO138.out) hb); have n3_ := Aside0.mk (Kd.N_lower (Kd.N_mono (ok' := fun k_ => some k_ ≠ (.slice Ao27 t130.length co27 : Value).ownBlock ∧ some k_ ≠ (v134 : Value).ownBlock ∧ some k_ ≠ (.slice Ao30 t136.length co30 : Value).ownBlock) ho0 (fun k_ hk_ => ⟨(Kd.fresh' (Kd.R_lt (by (with_reducible repeat (first | apply Kd.R_alloc | apply Kd.R_drewN | apply Kd.R_drew)); exact HO132.out)) k_ hk_), (Kd.fresh' (Kd.N_lt (by (with_reducible repeat (first | apply Kd.N_alloc | apply Kd.N_drewN | apply Kd.N_drew)); exact HO135.out)) k_ hk_), (Kd.fresh' (Kd.R_lt (by (with_reducible repeat (first | apply Kd.R_alloc | apply Kd.R_drewN | apply Kd.R_drew)); exact HO138.out)) k_ hk_)⟩)) (below_size (by repeat (first | (with_reducible first | exact HB.out | apply below_alloc | apply pw_below_drewN | apply below_drew1) | exact HB.out)))); have n4_ := Aside0.mk (below_step (by repeat (first | (with_reducible first | exact HB.out | apply below_alloc | apply pw_below_drewN | apply below_drew1) | exact HB.out)) hb); clear HO132; clear HO135; clear HO138; clear HB; have HO132 := n0_; have HO135 := n1_; have HO138 := n2_; have HO141 := n3_; have HB := n4_; clear n0_ n1_ n2_ n3_ n4_; (try clear hb); (try clear hb2); (try clear hk); (try clear hi); (try clear ho0); obtain ⟨Ao32, co32, eo32⟩ := Kd.N_slice HO135.out; subst eo32; have p142 : 0 ≤ ((ji11) : Int) := of_decide_eq_true (by first | (with_reducible assumption) | assumption); have q142 : (ji11) < (t133.length : Int) := of_decide_eq_true (by first | (with_reducible assumption) | assumption); obtain ⟨ad142, A142_0, c142_0, e142, hx142_0, hl142_0, hi142_0⟩ := at_L1 (Kd.N_reads' HO135.out).2.2 (ji11) p142 q142; cases e142; obtain ⟨ce142, hce142, hMe142, hcc142⟩ := Kd.N_get HO135.out [] (ji11) p142 (by first | exact q142 | exact of_decide_eq_true (by first | (with_reducible assumption) | assumption) | (have e_ := (Kd.N_reads' HO135.out).1; omega)); obtain ⟨ua142_0, uc142_0, rfl, ul142_0, ge142_0⟩ := Kd.FK_slice_open hMe142; have hv142_0 := hcc142 0 _ rfl; rw [Nat.add_zero, show ((Kd.slice 37 (Kd.int .u64))).sz = 1 from rfl, Nat.mul_one] at hv142_0; replace hv142_0 := Option.some.inj (hv142_0.symm.trans hx142_0); injection hv142_0 with hva_ hvn_ hvc_; rw [hva_] at ge142_0; rw [hvc_] at ul142_0; have HL142_0 := Aside0.mk (show Kd.V (Kd.int .u64) 37 _ w.heap.size _ _ (rd_L1 t133 (ji11)) from Kd.V_mk ul142_0 ge142_0); clear hva_ hvn_ hvc_ ge142_0 ul142_0; clear hcc142 hce142; have HR142_0 := Aside0.mk hi142_0; have HC142_0 := Aside0.mk hl142_0; clear hi142_0 hl142_0; replace p142 := eq_true p142; replace q142 := eq_true q142; have p143 : 0 ≤ (0 : Int) := (by omega); have q143 : 0 < ((rd_L1 t133 (ji11)).length : Int) := of_decide_eq_true (by first | (with_reducible assumption) | assumption); obtain ⟨ad143, e143, hx143_0⟩ := Kd.at_int (by repeat (first | (with_reducible exact HR142_0.out) | (with_reducible refine Kd.C_alloc ?_ _) | (with_reducible refine Kd.C_drewN ?_ _) | (with_reducible refine Kd.C_drew ?_) | exact HR142_0.out)) 0 p143 q143; cases e143; have qi143 : (0 < (rd_L1 t133 (ji11)).length) = True := eq_true (by omega); (try rw [show ((0 : Int)).toNat = 0 from rfl] at hx143_0); (try rw [Addr.add_zero'] at hx143_0); replace p143 := eq_true p143; replace q143 := eq_true q143; obtain ⟨Ao33, co33, eo33⟩ := Kd.N_slice HO141.out; subst eo33; have p144 : 0 ≤ ((ji11) : Int) := of_decide_eq_true (by first | (with_reducible assumption) | assumption); have q144 : (ji11) < (t139.length : Int) := of_decide_eq_true (by first | (with_reducible assumption) | assumption); obtain ⟨ad144, A144_0, c144_0, e144, hx144_0, hl144_0, hi144_0⟩ := at_L1 (Kd.N_reads' HO141.out).2.2 (ji11) p144 q144; cases e144; obtain ⟨ce144, hce144, hMe144, hcc144⟩ := Kd.N_get HO141.out [] (ji11) p144 (by first | exact q144 | exact of_decide_eq_true (by first | (with_reducible assumption) | assumption) | (have e_ := (Kd.N_reads' HO141.out).1; omega)); obtain ⟨ua144_0, uc144_0, rfl, ul144_0, ge144_0⟩ := Kd.FK_slice_open hMe144; have hv144_0 := hcc144 0 _ rfl; rw [Nat.add_zero, show ((Kd.slice 37 (Kd.int .u64))).sz = 1 from rfl, Nat.mul_one] at hv144_0; replace hv144_0 := Option.some.inj (hv144_0.symm.trans hx144_0); injection hv144_0 with hva_ hvn_ hvc_; rw [hva_] at ge144_0; rw [hvc_] at ul144_0; have HL144_0 := Aside0.mk (show Kd.V (Kd.int .u64) 37 _ w.heap.size _ _ (rd_L1 t139 (ji11)) from Kd.V_mk ul144_0 ge144_0); clear hva_ hvn_ hvc_ ge144_0 ul144_0; clear hcc144 hce144; have HR144_0 := Aside0.mk hi144_0; have HC144_0 := Aside0.mk hl144_0; clear hi144_0 hl144_0; replace p144 := eq_true p144; replace q144 := eq_true q144; have p145 : 0 ≤ (0 : Int) := (by omega); have q145 : 0 < ((rd_L1 t139 (ji11)).length : Int) := of_decide_eq_true (by first | (with_reducible assumption) | assumption); obtain ⟨ad145, e145, hx145_0⟩ := Kd.at_int (by repeat (first | (with_reducible exact HR144_0.out) | (with_reducible refine Kd.C_alloc ?_ _) | (with_reducible refine Kd.C_drewN ?_ _) | (with_reducible refine Kd.C_drew ?_) | exact HR144_0.out)) 0 p145 q145; cases e145; have qi145 : (0 < (rd_L1 t139 (ji11)).length) = True := eq_true (by omega); (try rw [show ((0 : Int)).toNat = 0 from rfl] at hx145_0); (try rw [Addr.add_zero'] at hx145_0); replace p145 := eq_true p145; replace q145 := eq_true q145)); try go_wp2_with (first | (go_at_call 61; (with_reducible refine (merkle_filled.calls kj3 _ _ l0 _ _ l1 t130 _ ?side1 ?side2 ?side3 ?side4 A7.out).mono ?_); (case side1 => repeat (first | exact (Kd.C_below HR0.out HB.out) | (with_reducible refine Kd.C_alloc ?_ _) | (with_reducible refine Kd.C_drewN ?_ _) | (with_reducible refine Kd.C_drew ?_))); (case side2 => exact HC0.out); (case side3 => repeat (first | exact (Kd.C_below HR1.out HB.out) | (with_reducible refine Kd.C_alloc ?_ _) | (with_reducible refine Kd.C_drewN ?_ _) | (with_reducible refine Kd.C_drew ?_))); (case side4 => exact HC1.out); rintro e w26 ⟨v131, rfl, ho0, hb⟩; have n0_ := Aside0.mk (Kd.R_lower ho0 (below_size (by repeat (first | (with_reducible first | exact HB.out | apply below_alloc | apply pw_below_drewN | apply below_drew1) | exact HB.out)))); have n1_ := Aside0.mk (below_step (by repeat (first | (with_reducible first | exact HB.out | apply below_alloc | apply pw_below_drewN | apply below_drew1) | exact HB.out)) hb); clear HB; have HO132 := n0_; have HB := n1_; clear n0_ n1_; (try clear hb); (try clear hb2); (try clear hk); (try clear hi); (try clear ho0); obtain ⟨Ao27, co27, eo27⟩ := Kd.R_slice HO132.out; subst eo27) | (go_at_call 60; (with_reducible refine (merkle_levels.calls kj3 _ _ t130 t133 _ ?side1 ?side2 A8.out).mono ?_); (case side1 => repeat (first | exact (Kd.R_reads' HO132.out).2.2 | (with_reducible refine Kd.C_alloc ?_ _) | (with_reducible refine Kd.C_drewN ?_ _) | (with_reducible refine Kd.C_drew ?_))); (case side2 => exact (Kd.R_reads' HO132.out).2.1); rintro e w28 ⟨v134, rfl, ho0, hb⟩; have n0_ := Aside0.mk (Kd.R_below (by (with_reducible repeat (first | apply Kd.R_alloc | apply Kd.R_drewN | apply Kd.R_drew)); exact HO132.out) hb); have n1_ := Aside0.mk (Kd.N_lower (Kd.N_mono (ok' := fun k_ => some k_ ≠ (.slice Ao27 t130.length co27 : Value).ownBlock) ho0 (fun k_ hk_ => (Kd.fresh' (Kd.R_lt (by (with_reducible repeat (first | apply Kd.R_alloc | apply Kd.R_drewN | apply Kd.R_drew)); exact HO132.out)) k_ hk_))) (below_size (by repeat (first | (with_reducible first | exact HB.out | apply below_alloc | apply pw_below_drewN | apply below_drew1) | exact HB.out)))); have n2_ := Aside0.mk (below_step (by repeat (first | (with_reducible first | exact HB.out | apply below_alloc | apply pw_below_drewN | apply below_drew1) | exact HB.out)) hb); clear HO132; clear HB; have HO132 := n0_; have HO135 := n1_; have HB := n2_; clear n0_ n1_ n2_; (try clear hb); (try clear hb2); (try clear hk); (try clear hi); (try clear ho0)) | (go_at_call 61; (with_reducible refine (merkle_filled.calls kj3 _ _ l1 _ _ l0 t136 _ ?side1 ?side2 ?side3 ?side4 A9.out).mono ?_); (case side1 => repeat (first | exact (Kd.C_below HR1.out HB.out) | (with_reducible refine Kd.C_alloc ?_ _) | (with_reducible refine Kd.C_drewN ?_ _) | (with_reducible refine Kd.C_drew ?_))); (case side2 => exact HC1.out); (case side3 => repeat (first | exact (Kd.C_below HR0.out HB.out) | (with_reducible refine Kd.C_alloc ?_ _) | (with_reducible refine Kd.C_drewN ?_ _) | (with_reducible refine Kd.C_drew ?_))); (case side4 => exact HC0.out); rintro e w29 ⟨v137, rfl, ho0, hb⟩; have n0_ := Aside0.mk (Kd.R_elder' (by (with_reducible repeat (first | apply Kd.R_alloc | apply Kd.R_drewN | apply Kd.R_drew)); exact HO132.out) (Kd.R_base ho0) hb); have n1_ := Aside0.mk (Kd.N_elder' (by (with_reducible repeat (first | apply Kd.N_alloc | apply Kd.N_drewN | apply Kd.N_drew)); exact HO135.out) (Kd.R_base ho0) hb); have n2_ := Aside0.mk (Kd.R_lower (Kd.R_new' ho0 (Kd.R_lt (by (with_reducible repeat (first | apply Kd.R_alloc | apply Kd.R_drewN | apply Kd.R_drew)); exact HO132.out))) (below_size (by repeat (first | (with_reducible first | exact HB.out | apply below_alloc | apply pw_below_drewN | apply below_drew1) | exact HB.out)))); have n3_ := Aside0.mk (below_step (by repeat (first | (with_reducible first | exact HB.out | apply below_alloc | apply pw_below_drewN | apply below_drew1) | exact HB.out)) hb); clear HO132; clear HO135; clear HB; have HO132 := n0_; have HO135 := n1_; have HO138 := n2_; have HB := n3_; clear n0_ n1_ n2_ n3_; (try clear hb); (try clear hb2); (try clear hk); (try clear hi); (try clear ho0); obtain ⟨Ao30, co30, eo30⟩ := Kd.R_slice HO138.out; subst eo30) | (go_at_call 60; (with_reducible refine (merkle_levels.calls kj3 _ _ t136 t139 _ ?side1 ?side2 A10.out).mono ?_); (case side1 => repeat (first | exact (Kd.R_reads' HO138.out).2.2 | (with_reducible refine Kd.C_alloc ?_ _) | (with_reducible refine Kd.C_drewN ?_ _) | (with_reducible refine Kd.C_drew ?_))); (case side2 => exact (Kd.R_reads' HO138.out).2.1); rintro e w31 ⟨v140, rfl, ho0, hb⟩; have n0_ := Aside0.mk (Kd.R_below (by (with_reducible repeat (first | apply Kd.R_alloc | apply Kd.R_drewN | apply Kd.R_drew)); exact HO132.out) hb); have n1_ := Aside0.mk (Kd.N_elder' (by (with_reducible repeat (first | apply Kd.N_alloc | apply Kd.N_drewN | apply Kd.N_drew)); exact HO135.out) (Kd.N_base ho0) hb); have n2_ := Aside0.mk (Kd.R_below (by (with_reducible repeat (first | apply Kd.R_alloc | apply Kd.R_drewN | apply Kd.R_drew)); exact HO138.out) hb); have n3_ := Aside0.mk (Kd.N_lower (Kd.N_mono (ok' := fun k_ => some k_ ≠ (.slice Ao27 t130.length co27 : Value).ownBlock ∧ some k_ ≠ (v134 : Value).ownBlock ∧ some k_ ≠ (.slice Ao30 t136.length co30 : Value).ownBlock) ho0 (fun k_ hk_ => ⟨(Kd.fresh' (Kd.R_lt (by (with_reducible repeat (first | apply Kd.R_alloc | apply Kd.R_drewN | apply Kd.R_drew)); exact HO132.out)) k_ hk_), (Kd.fresh' (Kd.N_lt (by (with_reducible repeat (first | apply Kd.N_alloc | apply Kd.N_drewN | apply Kd.N_drew)); exact HO135.out)) k_ hk_), (Kd.fresh' (Kd.R_lt (by (with_reducible repeat (first | apply Kd.R_alloc | apply Kd.R_drewN | apply Kd.R_drew)); exact HO138.out)) k_ hk_)⟩)) (below_size (by repeat (first | (with_reducible first | exact HB.out | apply below_alloc | apply pw_below_drewN | apply below_drew1) | exact HB.out)))); have n4_ := Aside0.mk (below_step (by repeat (first | (with_reducible first | exact HB.out | apply below_alloc | apply pw_below_drewN | apply below_drew1) | exact HB.out)) hb); clear HO132; clear HO135; clear HO138; clear HB; have HO132 := n0_; have HO135 := n1_; have HO138 := n2_; have HO141 := n3_; have HB := n4_; clear n0_ n1_ n2_ n3_ n4_; (try clear hb); (try clear hb2); (try clear hk); (try clear hi); (try clear ho0); obtain ⟨Ao32, co32, eo32⟩ := Kd.N_slice HO135.out; subst eo32; have p142 : 0 ≤ ((ji11) : Int) := of_decide_eq_true (by first | (with_reducible assumption) | assumption); have q142 : (ji11) < (t133.length : Int) := of_decide_eq_true (by first | (with_reducible assumption) | assumption); obtain ⟨ad142, A142_0, c142_0, e142, hx142_0, hl142_0, hi142_0⟩ := at_L1 (Kd.N_reads' HO135.out).2.2 (ji11) p142 q142; cases e142; obtain ⟨ce142, hce142, hMe142, hcc142⟩ := Kd.N_get HO135.out [] (ji11) p142 (by first | exact q142 | exact of_decide_eq_true (by first | (with_reducible assumption) | assumption) | (have e_ := (Kd.N_reads' HO135.out).1; omega)); obtain ⟨ua142_0, uc142_0, rfl, ul142_0, ge142_0⟩ := Kd.FK_slice_open hMe142; have hv142_0 := hcc142 0 _ rfl; rw [Nat.add_zero, show ((Kd.slice 37 (Kd.int .u64))).sz = 1 from rfl, Nat.mul_one] at hv142_0; replace hv142_0 := Option.some.inj (hv142_0.symm.trans hx142_0); injection hv142_0 with hva_ hvn_ hvc_; rw [hva_] at ge142_0; rw [hvc_] at ul142_0; have HL142_0 := Aside0.mk (show Kd.V (Kd.int .u64) 37 _ w.heap.size _ _ (rd_L1 t133 (ji11)) from Kd.V_mk ul142_0 ge142_0); clear hva_ hvn_ hvc_ ge142_0 ul142_0; clear hcc142 hce142; have HR142_0 := Aside0.mk hi142_0; have HC142_0 := Aside0.mk hl142_0; clear hi142_0 hl142_0; replace p142 := eq_true p142; replace q142 := eq_true q142; have p143 : 0 ≤ (0 : Int) := (by omega); have q143 : 0 < ((rd_L1 t133 (ji11)).length : Int) := of_decide_eq_true (by first | (with_reducible assumption) | assumption); obtain ⟨ad143, e143, hx143_0⟩ := Kd.at_int (by repeat (first | (with_reducible exact HR142_0.out) | (with_reducible refine Kd.C_alloc ?_ _) | (with_reducible refine Kd.C_drewN ?_ _) | (with_reducible refine Kd.C_drew ?_) | exact HR142_0.out)) 0 p143 q143; cases e143; have qi143 : (0 < (rd_L1 t133 (ji11)).length) = True := eq_true (by omega); (try rw [show ((0 : Int)).toNat = 0 from rfl] at hx143_0); (try rw [Addr.add_zero'] at hx143_0); replace p143 := eq_true p143; replace q143 := eq_true q143; obtain ⟨Ao33, co33, eo33⟩ := Kd.N_slice HO141.out; subst eo33; have p144 : 0 ≤ ((ji11) : Int) := of_decide_eq_true (by first | (with_reducible assumption) | assumption); have q144 : (ji11) < (t139.length : Int) := of_decide_eq_true (by first | (with_reducible assumption) | assumption); obtain ⟨ad144, A144_0, c144_0, e144, hx144_0, hl144_0, hi144_0⟩ := at_L1 (Kd.N_reads' HO141.out).2.2 (ji11) p144 q144; cases e144; obtain ⟨ce144, hce144, hMe144, hcc144⟩ := Kd.N_get HO141.out [] (ji11) p144 (by first | exact q144 | exact of_decide_eq_true (by first | (with_reducible assumption) | assumption) | (have e_ := (Kd.N_reads' HO141.out).1; omega)); obtain ⟨ua144_0, uc144_0, rfl, ul144_0, ge144_0⟩ := Kd.FK_slice_open hMe144; have hv144_0 := hcc144 0 _ rfl; rw [Nat.add_zero, show ((Kd.slice 37 (Kd.int .u64))).sz = 1 from rfl, Nat.mul_one] at hv144_0; replace hv144_0 := Option.some.inj (hv144_0.symm.trans hx144_0); injection hv144_0 with hva_ hvn_ hvc_; rw [hva_] at ge144_0; rw [hvc_] at ul144_0; have HL144_0 := Aside0.mk (show Kd.V (Kd.int .u64) 37 _ w.heap.size _ _ (rd_L1 t139 (ji11)) from Kd.V_mk ul144_0 ge144_0); clear hva_ hvn_ hvc_ ge144_0 ul144_0; clear hcc144 hce144; have HR144_0 := Aside0.mk hi144_0; have HC144_0 := Aside0.mk hl144_0; clear hi144_0 hl144_0; replace p144 := eq_true p144; replace q144 := eq_true q144; have p145 : 0 ≤ (0 : Int) := (by omega); have q145 : 0 < ((rd_L1 t139 (ji11)).length : Int) := of_decide_eq_true (by first | (with_reducible assumption) | assumption); obtain ⟨ad145, e145, hx145_0⟩ := Kd.at_int (by repeat (first | (with_reducible exact HR144_0.out) | (with_reducible refine Kd.C_alloc ?_ _) | (with_reducible refine Kd.C_drewN ?_ _) | (with_reducible refine Kd.C_drew ?_) | exact HR144_0.out)) 0 p145 q145; cases e145; have qi145 : (0 < (rd_L1 t139 (ji11)).length) = True := eq_true (by omega); (try rw [show ((0 : Int)).toNat = 0 from rfl] at hx145_0); (try rw [Addr.add_zero'] at hx145_0); replace p145 := eq_true p145; replace q145 := eq_true q145)))
          go_loopg [10, 11, 12] kj3 (fun kq v10 v11 v12 w' => ∃ (x10_2 : Int) (x11_2 : Int) (x12_2 : Int), v10 = .int .i64 x10_2 ∧ v11 = .int .i64 x11_2 ∧ v12 = .int .i64 x12_2 ∧ Aside0 (merkle_Narrow.l0 kq t133 t139 x10_2 x11_2 x12_2 = some (r1, r2)) ∧ Aside0 (kq ≤ kj3) ∧ Aside0 (Kd.N (Kd.slice 37 (Kd.int .u64)) 35 w' w.heap.size (fun k_ => some k_ ≠ ((.slice (some ad144) t139.length co33) : Value).ownBlock) (.slice (some ad142) t133.length co32) t133) ∧ Aside0 (Kd.N (Kd.slice 37 (Kd.int .u64)) 35 w' w.heap.size (fun k_ => some k_ ≠ ((.slice (some ad142) t133.length co32) : Value).ownBlock) (.slice (some ad144) t139.length co33) t139) ∧ Aside0 (Kd.C (Kd.int .u64) w' (some ad143) (rd_L1 t133 (ji11)).length (rd_L1 t133 (ji11))) ∧ Aside0 (Kd.C (Kd.int .u64) w' (some ad145) (rd_L1 t139 (ji11)).length (rd_L1 t139 (ji11))) ∧ Aside0 (Below w.heap.size w w'))
          case atStart => exact ⟨(0), (1), (wrap64 ((ji11) - 1)), (by first | rfl | (simp; done) | (simp [*]; done)), (by first | rfl | (simp; done) | (simp [*]; done)), (by first | rfl | (simp; done) | (simp only [← hji11] <;> (first | rfl | simp)) | (simp [*]; done)), H', ⟨Nat.le_refl _⟩, ⟨by (with_reducible repeat (first | apply Kd.N_alloc | apply Kd.N_drewN | apply Kd.N_drew)); exact Kd.N_mono HO135.out (fun _ hk => hk.2)⟩, ⟨by (with_reducible repeat (first | apply Kd.N_alloc | apply Kd.N_drewN | apply Kd.N_drew)); exact Kd.N_mono HO141.out (fun _ hk => hk.2.1)⟩, ⟨by repeat (first | (with_reducible exact HR142_0.out) | (with_reducible refine Kd.C_alloc ?_ _) | (with_reducible refine Kd.C_drewN ?_ _) | (with_reducible refine Kd.C_drew ?_) | exact HR142_0.out)⟩, ⟨by repeat (first | (with_reducible exact HR144_0.out) | (with_reducible refine Kd.C_alloc ?_ _) | (with_reducible refine Kd.C_drewN ?_ _) | (with_reducible refine Kd.C_drew ?_) | exact HR144_0.out)⟩, ⟨by repeat (first | (with_reducible first | exact HB.out | apply below_alloc | apply pw_below_drewN | apply below_drew1) | exact HB.out)⟩⟩
          case round =>
           clear H'
           try clear c1
           try clear p1
           try clear q1
           try clear hx1
           try clear qi1
           try clear p2
           try clear c3
           try clear c5
           try clear c5b0
           try clear c5b1
           try clear c6
           try clear p6
           try clear c12
           try clear c12b0
           try clear c13
           try clear c13b0
           try clear c14
           try clear c14b0
           try clear c14b1
           try clear p14
           try clear q14
           try clear hx14
           try clear qi14
           try clear c15
           try clear c15b0
           try clear c16
           try clear c16b0
           try clear c16b1
           try clear c17
           try clear c17b0
           try clear c17b1
           try clear c32
           try clear hx142_0
           try clear hx143_0
           try clear hx144_0
           try clear hx145_0
           try clear p142
           try clear p143
           try clear p144
           try clear p145
           try clear p2
           try clear q142
           try clear q143
           try clear q144
           try clear q145
           obtain ⟨x10_2, x11_2, x12_2, rfl, rfl, rfl, HA, HK2, HO_7, HO_8, HR142_0, HR144_0, HB⟩ := hrel
           cases gk with
           | zero => exact absurd HA.out (by simp [merkle_Narrow.l0])
           | succ k2 =>
            have H := HA.out
            clear HA
            simp only [merkle_Narrow.l0] at H
            by_cases c34 : x12_2 ≥ 0
            ·
             rw [if_pos c34] at H
             have c34b0 : decide (0 ≤ x12_2) = true := decide_eq_true c34
             clear c34
             by_cases c35 : 0 ≤ x12_2
             ·
              rw [if_pos c35] at H
              have c35b0 : decide (0 ≤ x12_2) = true := decide_eq_true c35
              clear c35
              by_cases c36 : x12_2 < (t133.length : Int)
              ·
               rw [if_pos c36] at H
               have c36b0 : decide (x12_2 < (t133.length : Int)) = true := decide_eq_true c36
               clear c36
               by_cases c37 : (wrap64 ((wrap64 (x10_2 * 2)) + 1)) = ((rd_L1 t133 x12_2).length : Int)
               ·
                rw [if_pos c37] at H
                have c37b0 : ((wrap64 ((wrap64 (x10_2 * 2)) + 1)) == ((rd_L1 t133 x12_2).length : Int)) = true := beq_iff_eq.mpr c37
                have c37b1 : ((wrap64 ((wrap64 (x10_2 * 2)) + 1)) != ((rd_L1 t133 x12_2).length : Int)) = false := bne_eq_false_iff_eq.mpr c37
                clear c37
                have H' := Aside0.mk H
                clear H
                have p146 : 0 ≤ (x12_2 : Int) := of_decide_eq_true (by first | (with_reducible assumption) | assumption)
                have q146 : x12_2 < (t133.length : Int) := of_decide_eq_true (by first | (with_reducible assumption) | assumption)
                obtain ⟨ad146, A146_0, c146_0, e146, hx146_0, hl146_0, hi146_0⟩ := at_L1 (Kd.N_reads' HO_7.out).2.2 x12_2 p146 q146
                obtain rfl : ad142 = ad146 := (by injection e146)
                obtain ⟨ce146, hce146, hMe146, hcc146⟩ := Kd.N_get HO_7.out [] x12_2 p146 (by first | exact q146 | exact of_decide_eq_true (by first | (with_reducible assumption) | assumption) | (have e_ := (Kd.N_reads' HO_7.out).1; omega))
                obtain ⟨ua146_0, uc146_0, rfl, ul146_0, ge146_0⟩ := Kd.FK_slice_open hMe146
                have hv146_0 := hcc146 0 _ rfl
                rw [Nat.add_zero, show ((Kd.slice 37 (Kd.int .u64))).sz = 1 from rfl, Nat.mul_one] at hv146_0
                replace hv146_0 := Option.some.inj (hv146_0.symm.trans hx146_0)
                injection hv146_0 with hva_ hvn_ hvc_
                rw [hva_] at ge146_0
                rw [hvc_] at ul146_0
                have HL146_0 := Aside0.mk (show Kd.V (Kd.int .u64) 37 _ w.heap.size _ _ (rd_L1 t133 x12_2) from Kd.V_mk ul146_0 ge146_0)
                clear hva_ hvn_ hvc_ ge146_0 ul146_0
                clear hcc146 hce146
                have HR146_0 := Aside0.mk hi146_0
                have HC146_0 := Aside0.mk hl146_0
                clear hi146_0 hl146_0
                replace p146 := eq_true p146
                replace q146 := eq_true q146
                go_wp2
                repeat (go_quiet (fail); try go_wp2)
                go_roundg k2
                case measure => have := HJ3.out; have := HK2.out; omega
                case rel => exact ⟨(wrap64 (x10_2 * 2)), (x11_2), (wrap64 (x12_2 - 1)), (by first | rfl | (simp; done) | (simp [*]; done)), (by first | rfl | (simp; done) | (simp [*]; done)), (by first | rfl | (simp; done) | (simp [*]; done)), H', ⟨by have := HJ3.out; have := HK2.out; omega⟩, ⟨by (with_reducible repeat (first | apply Kd.N_alloc | apply Kd.N_drewN | apply Kd.N_drew)); exact HO_7.out⟩, ⟨by (with_reducible repeat (first | apply Kd.N_alloc | apply Kd.N_drewN | apply Kd.N_drew)); exact HO_8.out⟩, ⟨by repeat (first | (with_reducible exact HR142_0.out) | (with_reducible refine Kd.C_alloc ?_ _) | (with_reducible refine Kd.C_drewN ?_ _) | (with_reducible refine Kd.C_drew ?_) | exact HR142_0.out)⟩, ⟨by repeat (first | (with_reducible exact HR144_0.out) | (with_reducible refine Kd.C_alloc ?_ _) | (with_reducible refine Kd.C_drewN ?_ _) | (with_reducible refine Kd.C_drew ?_) | exact HR144_0.out)⟩, ⟨by repeat (first | (with_reducible first | exact HB.out | apply below_alloc | apply pw_below_drewN | apply below_drew1) | exact HB.out)⟩⟩
               ·
                rw [if_neg c37] at H
                have c37b0 : ((wrap64 ((wrap64 (x10_2 * 2)) + 1)) == ((rd_L1 t133 x12_2).length : Int)) = false := beq_eq_false_iff_ne.mpr c37
                have c37b1 : ((wrap64 ((wrap64 (x10_2 * 2)) + 1)) != ((rd_L1 t133 x12_2).length : Int)) = true := bne_iff_ne.mpr c37
                obtain ⟨ji38, hji38⟩ : ∃ j_ : Int, (wrap64 (x10_2 * 2)) = j_ := ⟨_, rfl⟩
                replace H : (if 0 ≤ (ji38) then (if (ji38) < ((rd_L1 t133 x12_2).length : Int) then (if x12_2 < (t139.length : Int) then (if (ji38) < ((rd_L1 t139 x12_2).length : Int) then (if (rd (rd_L1 t133 x12_2) (ji38)) = (rd (rd_L1 t139 x12_2) (ji38)) then (merkle_Narrow.l0 k2 t133 t139 (wrap64 ((ji38) + 1)) (wrap64 (x11_2 + 1)) (wrap64 (x12_2 - 1))) else (merkle_Narrow.l0 k2 t133 t139 ji38 (wrap64 (x11_2 + 1)) (wrap64 (x12_2 - 1)))) else (none)) else (none)) else (none)) else (none)) = some (r1, r2) := by first | (rw [hji38] at H; exact H) | (simp only [hji38] at H ⊢; exact H)
                (try rw [hji38] at c37b0)
                (try rw [hji38] at c37b1)
                have hji38w : (IntKind.i64.wrap (x10_2 * 2)) = ji38 := (i64_w _).trans hji38
                by_cases c39 : 0 ≤ (ji38)
                ·
                 rw [if_pos c39] at H
                 have c39b0 : decide (0 ≤ (ji38)) = true := decide_eq_true c39
                 clear c39
                 by_cases c40 : (ji38) < ((rd_L1 t133 x12_2).length : Int)
                 ·
                  rw [if_pos c40] at H
                  have c40b0 : decide ((ji38) < ((rd_L1 t133 x12_2).length : Int)) = true := decide_eq_true c40
                  clear c40
                  by_cases c41 : x12_2 < (t139.length : Int)
                  ·
                   rw [if_pos c41] at H
                   have c41b0 : decide (x12_2 < (t139.length : Int)) = true := decide_eq_true c41
                   clear c41
                   by_cases c42 : (ji38) < ((rd_L1 t139 x12_2).length : Int)
                   ·
                    rw [if_pos c42] at H
                    have c42b0 : decide ((ji38) < ((rd_L1 t139 x12_2).length : Int)) = true := decide_eq_true c42
                    clear c42
                    by_cases c43 : (rd (rd_L1 t133 x12_2) (ji38)) = (rd (rd_L1 t139 x12_2) (ji38))
                    ·
                     rw [if_pos c43] at H
                     have c43b0 : ((rd (rd_L1 t133 x12_2) (ji38)) == (rd (rd_L1 t139 x12_2) (ji38))) = true := beq_iff_eq.mpr c43
                     have c43b1 : ((rd (rd_L1 t133 x12_2) (ji38)) != (rd (rd_L1 t139 x12_2) (ji38))) = false := bne_eq_false_iff_eq.mpr c43
                     clear c43
                     have H' := Aside0.mk H
                     clear H
                     have p146 : 0 ≤ (x12_2 : Int) := of_decide_eq_true (by first | (with_reducible assumption) | assumption)
                     have q146 : x12_2 < (t133.length : Int) := of_decide_eq_true (by first | (with_reducible assumption) | assumption)
                     obtain ⟨ad146, A146_0, c146_0, e146, hx146_0, hl146_0, hi146_0⟩ := at_L1 (Kd.N_reads' HO_7.out).2.2 x12_2 p146 q146
                     obtain rfl : ad142 = ad146 := (by injection e146)
                     obtain ⟨ce146, hce146, hMe146, hcc146⟩ := Kd.N_get HO_7.out [] x12_2 p146 (by first | exact q146 | exact of_decide_eq_true (by first | (with_reducible assumption) | assumption) | (have e_ := (Kd.N_reads' HO_7.out).1; omega))
                     obtain ⟨ua146_0, uc146_0, rfl, ul146_0, ge146_0⟩ := Kd.FK_slice_open hMe146
                     have hv146_0 := hcc146 0 _ rfl
                     rw [Nat.add_zero, show ((Kd.slice 37 (Kd.int .u64))).sz = 1 from rfl, Nat.mul_one] at hv146_0
                     replace hv146_0 := Option.some.inj (hv146_0.symm.trans hx146_0)
                     injection hv146_0 with hva_ hvn_ hvc_
                     rw [hva_] at ge146_0
                     rw [hvc_] at ul146_0
                     have HL146_0 := Aside0.mk (show Kd.V (Kd.int .u64) 37 _ w.heap.size _ _ (rd_L1 t133 x12_2) from Kd.V_mk ul146_0 ge146_0)
                     clear hva_ hvn_ hvc_ ge146_0 ul146_0
                     clear hcc146 hce146
                     have HR146_0 := Aside0.mk hi146_0
                     have HC146_0 := Aside0.mk hl146_0
                     clear hi146_0 hl146_0
                     replace p146 := eq_true p146
                     replace q146 := eq_true q146
                     have p147 : 0 ≤ (x12_2 : Int) := of_decide_eq_true (by first | (with_reducible assumption) | assumption)
                     have q147 : x12_2 < (t133.length : Int) := of_decide_eq_true (by first | (with_reducible assumption) | assumption)
                     obtain ⟨ad147, A147_0, c147_0, e147, hx147_0, hl147_0, hi147_0⟩ := at_L1 (Kd.N_reads' HO_7.out).2.2 x12_2 p147 q147
                     obtain rfl : ad142 = ad147 := (by injection e147)
                     obtain ⟨ce147, hce147, hMe147, hcc147⟩ := Kd.N_get HO_7.out [] x12_2 p147 (by first | exact q147 | exact of_decide_eq_true (by first | (with_reducible assumption) | assumption) | (have e_ := (Kd.N_reads' HO_7.out).1; omega))
                     obtain ⟨ua147_0, uc147_0, rfl, ul147_0, ge147_0⟩ := Kd.FK_slice_open hMe147
                     have hv147_0 := hcc147 0 _ rfl
                     rw [Nat.add_zero, show ((Kd.slice 37 (Kd.int .u64))).sz = 1 from rfl, Nat.mul_one] at hv147_0
                     replace hv147_0 := Option.some.inj (hv147_0.symm.trans hx147_0)
                     injection hv147_0 with hva_ hvn_ hvc_
                     rw [hva_] at ge147_0
                     rw [hvc_] at ul147_0
                     have HL147_0 := Aside0.mk (show Kd.V (Kd.int .u64) 37 _ w.heap.size _ _ (rd_L1 t133 x12_2) from Kd.V_mk ul147_0 ge147_0)
                     clear hva_ hvn_ hvc_ ge147_0 ul147_0
                     clear hcc147 hce147
                     have HR147_0 := Aside0.mk hi147_0
                     have HC147_0 := Aside0.mk hl147_0
                     clear hi147_0 hl147_0
                     replace p147 := eq_true p147
                     replace q147 := eq_true q147
                     have ea_ := Option.some.inj (hx146_0.symm.trans hx147_0)
                     injection ea_ with ea_ en_ ec_
                     subst ea_
                     subst ec_
                     clear en_
                     have p148 : 0 ≤ ((ji38) : Int) := of_decide_eq_true (by first | (with_reducible assumption) | assumption)
                     have q148 : (ji38) < ((rd_L1 t133 x12_2).length : Int) := of_decide_eq_true (by first | (with_reducible assumption) | assumption)
                     obtain ⟨ad148, e148, hx148_0⟩ := Kd.at_int (by repeat (first | (with_reducible exact HR147_0.out) | (with_reducible refine Kd.C_alloc ?_ _) | (with_reducible refine Kd.C_drewN ?_ _) | (with_reducible refine Kd.C_drew ?_) | exact HR147_0.out)) (ji38) p148 q148
                     cases e148
                     replace p148 := eq_true p148
                     replace q148 := eq_true q148
                     have p149 : 0 ≤ (x12_2 : Int) := of_decide_eq_true (by first | (with_reducible assumption) | assumption)
                     have q149 : x12_2 < (t139.length : Int) := of_decide_eq_true (by first | (with_reducible assumption) | assumption)
                     obtain ⟨ad149, A149_0, c149_0, e149, hx149_0, hl149_0, hi149_0⟩ := at_L1 (Kd.N_reads' HO_8.out).2.2 x12_2 p149 q149
                     obtain rfl : ad144 = ad149 := (by injection e149)
                     obtain ⟨ce149, hce149, hMe149, hcc149⟩ := Kd.N_get HO_8.out [] x12_2 p149 (by first | exact q149 | exact of_decide_eq_true (by first | (with_reducible assumption) | assumption) | (have e_ := (Kd.N_reads' HO_8.out).1; omega))
                     obtain ⟨ua149_0, uc149_0, rfl, ul149_0, ge149_0⟩ := Kd.FK_slice_open hMe149
                     have hv149_0 := hcc149 0 _ rfl
                     rw [Nat.add_zero, show ((Kd.slice 37 (Kd.int .u64))).sz = 1 from rfl, Nat.mul_one] at hv149_0
                     replace hv149_0 := Option.some.inj (hv149_0.symm.trans hx149_0)
                     injection hv149_0 with hva_ hvn_ hvc_
                     rw [hva_] at ge149_0
                     rw [hvc_] at ul149_0
                     have HL149_0 := Aside0.mk (show Kd.V (Kd.int .u64) 37 _ w.heap.size _ _ (rd_L1 t139 x12_2) from Kd.V_mk ul149_0 ge149_0)
                     clear hva_ hvn_ hvc_ ge149_0 ul149_0
                     clear hcc149 hce149
                     have HR149_0 := Aside0.mk hi149_0
                     have HC149_0 := Aside0.mk hl149_0
                     clear hi149_0 hl149_0
                     replace p149 := eq_true p149
                     replace q149 := eq_true q149
                     have p150 : 0 ≤ ((ji38) : Int) := of_decide_eq_true (by first | (with_reducible assumption) | assumption)
                     have q150 : (ji38) < ((rd_L1 t139 x12_2).length : Int) := of_decide_eq_true (by first | (with_reducible assumption) | assumption)
                     obtain ⟨ad150, e150, hx150_0⟩ := Kd.at_int (by repeat (first | (with_reducible exact HR149_0.out) | (with_reducible refine Kd.C_alloc ?_ _) | (with_reducible refine Kd.C_drewN ?_ _) | (with_reducible refine Kd.C_drew ?_) | exact HR149_0.out)) (ji38) p150 q150
                     cases e150
                     replace p150 := eq_true p150
                     replace q150 := eq_true q150
                     go_wp2
                     repeat (go_quiet (fail); try go_wp2)
                     go_roundg k2
                     case measure => have := HJ3.out; have := HK2.out; omega
                     case rel => exact ⟨(wrap64 ((ji38) + 1)), (wrap64 (x11_2 + 1)), (wrap64 (x12_2 - 1)), (by first | rfl | (simp; done) | (simp only [← hji38] <;> (first | rfl | simp)) | (simp [*]; done)), (by first | rfl | (simp; done) | (simp [*]; done)), (by first | rfl | (simp; done) | (simp [*]; done)), H', ⟨by have := HJ3.out; have := HK2.out; omega⟩, ⟨by (with_reducible repeat (first | apply Kd.N_alloc | apply Kd.N_drewN | apply Kd.N_drew)); exact HO_7.out⟩, ⟨by (with_reducible repeat (first | apply Kd.N_alloc | apply Kd.N_drewN | apply Kd.N_drew)); exact HO_8.out⟩, ⟨by repeat (first | (with_reducible exact HR142_0.out) | (with_reducible refine Kd.C_alloc ?_ _) | (with_reducible refine Kd.C_drewN ?_ _) | (with_reducible refine Kd.C_drew ?_) | exact HR142_0.out)⟩, ⟨by repeat (first | (with_reducible exact HR144_0.out) | (with_reducible refine Kd.C_alloc ?_ _) | (with_reducible refine Kd.C_drewN ?_ _) | (with_reducible refine Kd.C_drew ?_) | exact HR144_0.out)⟩, ⟨by repeat (first | (with_reducible first | exact HB.out | apply below_alloc | apply pw_below_drewN | apply below_drew1) | exact HB.out)⟩⟩
                    ·
                     rw [if_neg c43] at H
                     have c43b0 : ((rd (rd_L1 t133 x12_2) (ji38)) == (rd (rd_L1 t139 x12_2) (ji38))) = false := beq_eq_false_iff_ne.mpr c43
                     have c43b1 : ((rd (rd_L1 t133 x12_2) (ji38)) != (rd (rd_L1 t139 x12_2) (ji38))) = true := bne_iff_ne.mpr c43
                     have H' := Aside0.mk H
                     clear H
                     have p146 : 0 ≤ (x12_2 : Int) := of_decide_eq_true (by first | (with_reducible assumption) | assumption)
                     have q146 : x12_2 < (t133.length : Int) := of_decide_eq_true (by first | (with_reducible assumption) | assumption)
                     obtain ⟨ad146, A146_0, c146_0, e146, hx146_0, hl146_0, hi146_0⟩ := at_L1 (Kd.N_reads' HO_7.out).2.2 x12_2 p146 q146
                     obtain rfl : ad142 = ad146 := (by injection e146)
                     obtain ⟨ce146, hce146, hMe146, hcc146⟩ := Kd.N_get HO_7.out [] x12_2 p146 (by first | exact q146 | exact of_decide_eq_true (by first | (with_reducible assumption) | assumption) | (have e_ := (Kd.N_reads' HO_7.out).1; omega))
                     obtain ⟨ua146_0, uc146_0, rfl, ul146_0, ge146_0⟩ := Kd.FK_slice_open hMe146
                     have hv146_0 := hcc146 0 _ rfl
                     rw [Nat.add_zero, show ((Kd.slice 37 (Kd.int .u64))).sz = 1 from rfl, Nat.mul_one] at hv146_0
                     replace hv146_0 := Option.some.inj (hv146_0.symm.trans hx146_0)
                     injection hv146_0 with hva_ hvn_ hvc_
                     rw [hva_] at ge146_0
                     rw [hvc_] at ul146_0
                     have HL146_0 := Aside0.mk (show Kd.V (Kd.int .u64) 37 _ w.heap.size _ _ (rd_L1 t133 x12_2) from Kd.V_mk ul146_0 ge146_0)
                     clear hva_ hvn_ hvc_ ge146_0 ul146_0
                     clear hcc146 hce146
                     have HR146_0 := Aside0.mk hi146_0
                     have HC146_0 := Aside0.mk hl146_0
                     clear hi146_0 hl146_0
                     replace p146 := eq_true p146
                     replace q146 := eq_true q146
                     have p147 : 0 ≤ (x12_2 : Int) := of_decide_eq_true (by first | (with_reducible assumption) | assumption)
                     have q147 : x12_2 < (t133.length : Int) := of_decide_eq_true (by first | (with_reducible assumption) | assumption)
                     obtain ⟨ad147, A147_0, c147_0, e147, hx147_0, hl147_0, hi147_0⟩ := at_L1 (Kd.N_reads' HO_7.out).2.2 x12_2 p147 q147
                     obtain rfl : ad142 = ad147 := (by injection e147)
                     obtain ⟨ce147, hce147, hMe147, hcc147⟩ := Kd.N_get HO_7.out [] x12_2 p147 (by first | exact q147 | exact of_decide_eq_true (by first | (with_reducible assumption) | assumption) | (have e_ := (Kd.N_reads' HO_7.out).1; omega))
                     obtain ⟨ua147_0, uc147_0, rfl, ul147_0, ge147_0⟩ := Kd.FK_slice_open hMe147
                     have hv147_0 := hcc147 0 _ rfl
                     rw [Nat.add_zero, show ((Kd.slice 37 (Kd.int .u64))).sz = 1 from rfl, Nat.mul_one] at hv147_0
                     replace hv147_0 := Option.some.inj (hv147_0.symm.trans hx147_0)
                     injection hv147_0 with hva_ hvn_ hvc_
                     rw [hva_] at ge147_0
                     rw [hvc_] at ul147_0
                     have HL147_0 := Aside0.mk (show Kd.V (Kd.int .u64) 37 _ w.heap.size _ _ (rd_L1 t133 x12_2) from Kd.V_mk ul147_0 ge147_0)
                     clear hva_ hvn_ hvc_ ge147_0 ul147_0
                     clear hcc147 hce147
                     have HR147_0 := Aside0.mk hi147_0
                     have HC147_0 := Aside0.mk hl147_0
                     clear hi147_0 hl147_0
                     replace p147 := eq_true p147
                     replace q147 := eq_true q147
                     have ea_ := Option.some.inj (hx146_0.symm.trans hx147_0)
                     injection ea_ with ea_ en_ ec_
                     subst ea_
                     subst ec_
                     clear en_
                     have p148 : 0 ≤ ((ji38) : Int) := of_decide_eq_true (by first | (with_reducible assumption) | assumption)
                     have q148 : (ji38) < ((rd_L1 t133 x12_2).length : Int) := of_decide_eq_true (by first | (with_reducible assumption) | assumption)
                     obtain ⟨ad148, e148, hx148_0⟩ := Kd.at_int (by repeat (first | (with_reducible exact HR147_0.out) | (with_reducible refine Kd.C_alloc ?_ _) | (with_reducible refine Kd.C_drewN ?_ _) | (with_reducible refine Kd.C_drew ?_) | exact HR147_0.out)) (ji38) p148 q148
                     cases e148
                     replace p148 := eq_true p148
                     replace q148 := eq_true q148
                     have p149 : 0 ≤ (x12_2 : Int) := of_decide_eq_true (by first | (with_reducible assumption) | assumption)
                     have q149 : x12_2 < (t139.length : Int) := of_decide_eq_true (by first | (with_reducible assumption) | assumption)
                     obtain ⟨ad149, A149_0, c149_0, e149, hx149_0, hl149_0, hi149_0⟩ := at_L1 (Kd.N_reads' HO_8.out).2.2 x12_2 p149 q149
                     obtain rfl : ad144 = ad149 := (by injection e149)
                     obtain ⟨ce149, hce149, hMe149, hcc149⟩ := Kd.N_get HO_8.out [] x12_2 p149 (by first | exact q149 | exact of_decide_eq_true (by first | (with_reducible assumption) | assumption) | (have e_ := (Kd.N_reads' HO_8.out).1; omega))
                     obtain ⟨ua149_0, uc149_0, rfl, ul149_0, ge149_0⟩ := Kd.FK_slice_open hMe149
                     have hv149_0 := hcc149 0 _ rfl
                     rw [Nat.add_zero, show ((Kd.slice 37 (Kd.int .u64))).sz = 1 from rfl, Nat.mul_one] at hv149_0
                     replace hv149_0 := Option.some.inj (hv149_0.symm.trans hx149_0)
                     injection hv149_0 with hva_ hvn_ hvc_
                     rw [hva_] at ge149_0
                     rw [hvc_] at ul149_0
                     have HL149_0 := Aside0.mk (show Kd.V (Kd.int .u64) 37 _ w.heap.size _ _ (rd_L1 t139 x12_2) from Kd.V_mk ul149_0 ge149_0)
                     clear hva_ hvn_ hvc_ ge149_0 ul149_0
                     clear hcc149 hce149
                     have HR149_0 := Aside0.mk hi149_0
                     have HC149_0 := Aside0.mk hl149_0
                     clear hi149_0 hl149_0
                     replace p149 := eq_true p149
                     replace q149 := eq_true q149
                     have p150 : 0 ≤ ((ji38) : Int) := of_decide_eq_true (by first | (with_reducible assumption) | assumption)
                     have q150 : (ji38) < ((rd_L1 t139 x12_2).length : Int) := of_decide_eq_true (by first | (with_reducible assumption) | assumption)
                     obtain ⟨ad150, e150, hx150_0⟩ := Kd.at_int (by repeat (first | (with_reducible exact HR149_0.out) | (with_reducible refine Kd.C_alloc ?_ _) | (with_reducible refine Kd.C_drewN ?_ _) | (with_reducible refine Kd.C_drew ?_) | exact HR149_0.out)) (ji38) p150 q150
                     cases e150
                     replace p150 := eq_true p150
                     replace q150 := eq_true q150
                     go_wp2
                     repeat (go_quiet (fail); try go_wp2)
                     go_roundg k2
                     case measure => have := HJ3.out; have := HK2.out; omega
                     case rel => exact ⟨(ji38), (wrap64 (x11_2 + 1)), (wrap64 (x12_2 - 1)), (by first | rfl | (simp; done) | (simp only [← hji38] <;> (first | rfl | simp)) | (simp [*]; done)), (by first | rfl | (simp; done) | (simp [*]; done)), (by first | rfl | (simp; done) | (simp [*]; done)), H', ⟨by have := HJ3.out; have := HK2.out; omega⟩, ⟨by (with_reducible repeat (first | apply Kd.N_alloc | apply Kd.N_drewN | apply Kd.N_drew)); exact HO_7.out⟩, ⟨by (with_reducible repeat (first | apply Kd.N_alloc | apply Kd.N_drewN | apply Kd.N_drew)); exact HO_8.out⟩, ⟨by repeat (first | (with_reducible exact HR142_0.out) | (with_reducible refine Kd.C_alloc ?_ _) | (with_reducible refine Kd.C_drewN ?_ _) | (with_reducible refine Kd.C_drew ?_) | exact HR142_0.out)⟩, ⟨by repeat (first | (with_reducible exact HR144_0.out) | (with_reducible refine Kd.C_alloc ?_ _) | (with_reducible refine Kd.C_drewN ?_ _) | (with_reducible refine Kd.C_drew ?_) | exact HR144_0.out)⟩, ⟨by repeat (first | (with_reducible first | exact HB.out | apply below_alloc | apply pw_below_drewN | apply below_drew1) | exact HB.out)⟩⟩
                   ·
                    rw [if_neg c42] at H
                    exact absurd H (by simp)
                  ·
                   rw [if_neg c41] at H
                   exact absurd H (by simp)
                 ·
                  rw [if_neg c40] at H
                  exact absurd H (by simp)
                ·
                 rw [if_neg c39] at H
                 exact absurd H (by simp)
              ·
               rw [if_neg c36] at H
               exact absurd H (by simp)
             ·
              rw [if_neg c35] at H
              exact absurd H (by simp)
            ·
             rw [if_neg c34] at H
             have c34b0 : decide (0 ≤ x12_2) = false := decide_eq_false c34
             clear c34
             simp only [Option.some.injEq, Prod.mk.injEq] at H
             obtain ⟨rfl, rfl⟩ := H
             go_wp2
             repeat (go_quiet (fail); try go_wp2)
             go_ret2
             exact ⟨by first | rfl | (simp [errW_none, errW_some] <;> rfl) | (simp only [← hji3, ← hji11]; first | rfl | (simp [errW_none, errW_some] <;> rfl)) | (simp [*, errW_none, errW_some] <;> rfl), by repeat (first | (with_reducible first | exact HB.out | apply below_alloc | apply pw_below_drewN | apply below_drew1) | exact HB.out)⟩
        ·
         rw [if_neg c16] at H
         exact absurd H (by simp)
       ·
        rw [if_neg c15] at H
        exact absurd H (by simp)
      ·
       rw [if_neg c14] at H
       exact absurd H (by simp)
     ·
      rw [if_neg c13] at H
      exact absurd H (by simp)
    ·
     rw [if_neg c12] at H
     exact absurd H (by simp)

end Go.Proofs.Ytknmlikjmnhgkaa.P
