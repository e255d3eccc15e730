/- Functions of this seat in plain Lean and their contracts, written by a turned copy of the kit's print (turns: wip/pr/make.py of this session). No condition. -/
import Derived.Test.YtggfiacnkbcjbaaPAllx0
import Derived.Test.YtggfiacnkbcjbaaPAllx5
import Derived.Test.YtggfiacnkbcjbaaPAllx8
import Derived.Test.YtggfiacnkbcjbaaPAllx10
import Derived.Test.YtggfiacnkbcjbaaPAllx11
namespace Go.Proofs.Ytggfiacnkbcjbaa.P
open Go.RowKit Go.Proofs.YtggfiacnkbcjbaaW.PrintWords Go.Proofs.YtggfiacnkbcjbaaW.PrintLast Go.Proofs.YtggfiacnkbcjbaaW.PrintMore
attribute [local go_sem] max2_int min2_int max_two min_two max_three min_three max_four min_four   -- for this text's walks alone
attribute [local go_sem] fld25_1
set_option linter.unusedVariables false
set_option linter.unusedSimpArgs false

/-! ### tourkeep1_QuantBounds: function 7 -/
mutual
def tourkeep1_QuantBounds.j0 : Nat → Int → Int → Int → Int → Int → Option (Bool)
  | 0, _, _, _, _, _ => none
  | k + 1, x2, x3, x4, x202000, x202001 => (tourmake_Below.f x2 32).bind fun t202 => (if x202000 = x202001 then ((quant_Bound.f x202000 x202001 (wrap64 (1 + t202))).bind fun bt203 => (some (bt203.2 == 1))) else ((quant_Bound.f x202000 x202001 (wrap64 (1 + t202))).bind fun bt205 => ((quant_Coarse.f k x202000 x202001 (wrap64 (1 + t202)) (mn (mx x3 x202000) x202001)).bind fun bt207 => ((quant_Fine.f k x202000 x202001 (wrap64 (1 + t202)) bt207.1).bind fun bt209 => ((quant_Coarse.f k x202000 x202001 (wrap64 (1 + t202)) (mn (mx x4 x202000) x202001)).bind fun bt211 => ((quant_Fine.f k x202000 x202001 (wrap64 (1 + t202)) 0).bind fun bt213 => (if 0 ≤ (wrap64 (1 + t202)) then ((quant_Fine.f k x202000 x202001 (wrap64 (1 + t202)) (wrap64 ((shl .i64 1 (wrap64 (1 + t202))) - 1))).bind fun bt215 => ((some (([bt205.2, bt207.2, bt209.2, bt211.2, bt213.2, bt215.2] : List Int) : List Int)).bind fun y217 => (tourkeep1_QuantBounds.l0 k (mn (mx x3 x202000) x202001) (mn (mx x4 x202000) x202001) bt205.1 bt207.1 bt209.1 bt211.1 bt213.1 bt215.1 y217 (y217.length : Int) 0 x202000 x202001))) else (none))))))))
def tourkeep1_QuantBounds.l0 : Nat → Int → Int → Int → Int → Int → Int → Int → Int → List Int → Int → Int → Int → Int → Option (Bool)
  | 0, _, _, _, _, _, _, _, _, _, _, _, _, _ => none
  | k + 1, x3, x4, x14, x16, x18, x20, x22, x24, x124, x125, x126, x202000, x202001 => if x126 < x125 then (if 0 ≤ x126 then (if x126 < (x124.length : Int) then (if (rd x124 x126) = 0 then (tourkeep1_QuantBounds.l0 k x3 x4 x14 x16 x18 x20 x22 x24 x124 x125 (wrap64 (x126 + 1)) x202000 x202001) else (some false)) else (none)) else (none)) else ((tourkeep1_near.f x18 x3 x14).bind fun t221 => (if t221 = true then (if x22 = x202000 then (if x24 = x202001 then (if x4 < x3 then (if x4 > x3 then ((fix_Clamp.f x18).bind fun t222 => (some (x18 == t222))) else (if x20 ≤ x16 then ((fix_Clamp.f x18).bind fun t223 => (some (x18 == t223))) else (some false))) else (if x20 ≥ x16 then (if x4 > x3 then ((fix_Clamp.f x18).bind fun t224 => (some (x18 == t224))) else (if x20 ≤ x16 then ((fix_Clamp.f x18).bind fun t225 => (some (x18 == t225))) else (some false))) else (some false))) else (some false)) else (some false)) else (some false)))
end
def tourkeep1_QuantBounds.f (k : Nat) (a0 : Int) (a1 : Int) (a2 : Int) (a3 : Int) (a4 : Int) : Option (Bool) := (tourkeep1_quantBegun.f).bind fun t198 => (if t198 = true then ((tourkeep1_number.f a0 1099511627776).bind fun t199 => ((tourkeep1_number.f a1 1099511627776).bind fun t200 => (if t199 > t200 then (tourkeep1_QuantBounds.j0 k a2 a3 a4 t200 t199) else (tourkeep1_QuantBounds.j0 k a2 a3 a4 t199 t200)))) else (some false))
theorem tourkeep1_QuantBounds.mono_l : ∀ k, (∀ y0 y1 y2 y3 y4, LeO (tourkeep1_QuantBounds.j0 k y0 y1 y2 y3 y4) (tourkeep1_QuantBounds.j0 (k + 1) y0 y1 y2 y3 y4)) ∧ (∀ y0 y1 y2 y3 y4 y5 y6 y7 y8 y9 y10 y11 y12, LeO (tourkeep1_QuantBounds.l0 k y0 y1 y2 y3 y4 y5 y6 y7 y8 y9 y10 y11 y12) (tourkeep1_QuantBounds.l0 (k + 1) y0 y1 y2 y3 y4 y5 y6 y7 y8 y9 y10 y11 y12))
  | 0 => ⟨fun _ _ _ _ _ r h => by simp [tourkeep1_QuantBounds.j0] at h, fun _ _ _ _ _ _ _ _ _ _ _ _ _ r h => by simp [tourkeep1_QuantBounds.l0] at h⟩
  | k + 1 => by
    obtain ⟨ih0, ih1⟩ := tourkeep1_QuantBounds.mono_l k
    refine ⟨?_, ?_⟩
    · intro y0 y1 y2 y3 y4
      unfold tourkeep1_QuantBounds.j0
      repeat' first
      | (with_reducible exact ih0 _ _ _ _ _)
      | (with_reducible exact ih1 _ _ _ _ _ _ _ _ _ _ _ _ _)
      | (with_reducible exact quant_Coarse.mono _ _ _ _ _)
      | (with_reducible exact quant_Fine.mono _ _ _ _ _)
      | (with_reducible exact LeO.refl _)
      | (with_reducible exact LeO.none _)
      | (with_reducible refine LeO.ite ?_ ?_)
      | (with_reducible refine LeO.bind ?_ (fun _ => ?_))
      | exact ih0 _ _ _ _ _
      | exact ih1 _ _ _ _ _ _ _ _ _ _ _ _ _
      | exact quant_Coarse.mono _ _ _ _ _
      | exact quant_Fine.mono _ _ _ _ _
      | exact LeO.none _
      | refine LeO.ite ?_ ?_
      | refine LeO.bind ?_ (fun _ => ?_)
    · intro y0 y1 y2 y3 y4 y5 y6 y7 y8 y9 y10 y11 y12
      unfold tourkeep1_QuantBounds.l0
      repeat' first
      | (with_reducible exact ih0 _ _ _ _ _)
      | (with_reducible exact ih1 _ _ _ _ _ _ _ _ _ _ _ _ _)
      | (with_reducible exact quant_Coarse.mono _ _ _ _ _)
      | (with_reducible exact quant_Fine.mono _ _ _ _ _)
      | (with_reducible exact LeO.refl _)
      | (with_reducible exact LeO.none _)
      | (with_reducible refine LeO.ite ?_ ?_)
      | (with_reducible refine LeO.bind ?_ (fun _ => ?_))
      | exact ih0 _ _ _ _ _
      | exact ih1 _ _ _ _ _ _ _ _ _ _ _ _ _
      | exact quant_Coarse.mono _ _ _ _ _
      | exact quant_Fine.mono _ _ _ _ _
      | exact LeO.none _
      | refine LeO.ite ?_ ?_
      | refine LeO.bind ?_ (fun _ => ?_)
theorem tourkeep1_QuantBounds.mono : ∀ a0 a1 a2 a3 a4 k, LeO (tourkeep1_QuantBounds.f k a0 a1 a2 a3 a4) (tourkeep1_QuantBounds.f (k + 1) a0 a1 a2 a3 a4) := by
  intro a0 a1 a2 a3 a4 k
  obtain ⟨ih0, ih1⟩ := tourkeep1_QuantBounds.mono_l k
  unfold tourkeep1_QuantBounds.f
  repeat' first
      | (with_reducible exact ih0 _ _ _ _ _)
      | (with_reducible exact ih1 _ _ _ _ _ _ _ _ _ _ _ _ _)
      | (with_reducible exact quant_Coarse.mono _ _ _ _ _)
      | (with_reducible exact quant_Fine.mono _ _ _ _ _)
      | (with_reducible exact LeO.refl _)
      | (with_reducible exact LeO.none _)
      | (with_reducible refine LeO.ite ?_ ?_)
      | (with_reducible refine LeO.bind ?_ (fun _ => ?_))
      | exact ih0 _ _ _ _ _
      | exact ih1 _ _ _ _ _ _ _ _ _ _ _ _ _
      | exact quant_Coarse.mono _ _ _ _ _
      | exact quant_Fine.mono _ _ _ _ _
      | exact LeO.none _
      | refine LeO.ite ?_ ?_
      | refine LeO.bind ?_ (fun _ => ?_)
def tourkeep1_QuantBounds.T10 : Bool × List (List Nat × List Nat) := (true, [([], []), ([], []), ([1], [1]), ([0, 2], [0, 2]), ([], []), ([4], [4]), ([3, 5], [3, 5]), ([], []), ([], []), ([8], [8]), ([7, 9], [7, 9]), ([], []), ([11], [11]), ([10, 12], [10, 12]), ([6, 0, 1, 2, 3, 4, 5, 6], [0, 6]), ([13, 14, 0, 1, 2, 3, 4, 5, 6, 7, 8, 9, 10, 11, 12, 13, 14], [7, 13])])
def tourkeep1_QuantBounds.B10 : List Nat := [0, 0, 2, 7, 0, 16, 63, 0, 0, 256, 896, 0, 2048, 8064, 127, 32767]
theorem tourkeep1_QuantBounds.tab10 : rtab .any (opsOf Try.f7 10) = tourkeep1_QuantBounds.T10 := by kernel_rfl
theorem tourkeep1_QuantBounds.bits10 : waitsOk tourkeep1_QuantBounds.T10.2 tourkeep1_QuantBounds.B10 = true := by kernel_rfl
def tourkeep1_QuantBounds.T16 : Bool × List (List Nat × List Nat) := (true, [([], []), ([], []), ([], []), ([2], [2]), ([3], [3]), ([0, 1, 4], [0, 1, 4]), ([5], [5]), ([6], [6]), ([6], [6]), ([7, 5, 0, 1, 2, 3, 4, 5, 6, 7], [7]), ([8, 9, 0, 1, 2, 3, 4, 5, 6, 7, 8, 9], [8])])
def tourkeep1_QuantBounds.B16 : List Nat := [0, 0, 0, 4, 12, 31, 63, 127, 127, 255, 1023]
theorem tourkeep1_QuantBounds.tab16 : rtab .any (opsOf Try.f7 16) = tourkeep1_QuantBounds.T16 := by kernel_rfl
theorem tourkeep1_QuantBounds.bits16 : waitsOk tourkeep1_QuantBounds.T16.2 tourkeep1_QuantBounds.B16 = true := by kernel_rfl
set_option maxHeartbeats 8000000 in
set_option maxRecDepth 100000 in
theorem tourkeep1_QuantBounds.calls (k : Nat) (a0 : Int) (a1 : Int) (a2 : Int) (a3 : Int) (a4 : Int) (r : Bool) (w : World) (h : tourkeep1_QuantBounds.f k a0 a1 a2 a3 a4 = some r) :
    Calls Try.prog 7 #[.int .i64 a0, .int .i64 a1, .int .i64 a2, .int .i64 a3, .int .i64 a4] w fun e w' => e = .returned (.bool r) ∧ Below w.heap.size w w' := by
  have hu52 := Try.underlying52
  have HB := Aside0.mk (Below.refl w.heap.size w)
  have H : ((tourkeep1_quantBegun.f).bind fun t198 => (if t198 = true then ((tourkeep1_number.f a0 1099511627776).bind fun t199 => ((tourkeep1_number.f a1 1099511627776).bind fun t200 => (if t199 > t200 then (tourkeep1_QuantBounds.j0 k a2 a3 a4 t200 t199) else (tourkeep1_QuantBounds.j0 k a2 a3 a4 t199 t200)))) else (some false))) = some r := h
  clear h
  replace H := Option.bind_eq_some_iff.mp H
  obtain ⟨t198, A60, H⟩ := H
  replace H : (if t198 = true then ((tourkeep1_number.f a0 1099511627776).bind fun t199 => ((tourkeep1_number.f a1 1099511627776).bind fun t200 => (if t199 > t200 then (tourkeep1_QuantBounds.j0 k a2 a3 a4 t200 t199) else (tourkeep1_QuantBounds.j0 k a2 a3 a4 t199 t200)))) else (some false)) = some r := H
  have A6 := Aside0.mk A60
  clear A60
  by_cases c7 : t198 = true
  · subst c7
    have H1 : ((tourkeep1_number.f a0 1099511627776).bind fun t199 => ((tourkeep1_number.f a1 1099511627776).bind fun t200 => (if t199 > t200 then (tourkeep1_QuantBounds.j0 k a2 a3 a4 t200 t199) else (tourkeep1_QuantBounds.j0 k a2 a3 a4 t199 t200)))) = some r := by rw [if_pos rfl] at H; exact H
    clear H
    have H := H1
    clear H1
    replace H := Option.bind_eq_some_iff.mp H
    obtain ⟨t199, A80, H⟩ := H
    replace H : ((tourkeep1_number.f a1 1099511627776).bind fun t200 => (if t199 > t200 then (tourkeep1_QuantBounds.j0 k a2 a3 a4 t200 t199) else (tourkeep1_QuantBounds.j0 k a2 a3 a4 t199 t200))) = some r := H
    have A8 := Aside0.mk A80
    clear A80
    replace H := Option.bind_eq_some_iff.mp H
    obtain ⟨t200, A90, H⟩ := H
    replace H : (if t199 > t200 then (tourkeep1_QuantBounds.j0 k a2 a3 a4 t200 t199) else (tourkeep1_QuantBounds.j0 k a2 a3 a4 t199 t200)) = some r := H
    have A9 := Aside0.mk A90
    clear A90
    have HC10 := Aside0.mk H
    clear H
    go_enter Try.func7, Try.ntmps7
    go_upto_if 39 with (first | ((with_reducible refine gate_callee (f := 28) rfl ?_); refine goesL_ (some 28) rfl rfl Try.func28 (by kernel_rfl) rfl #[] rfl (by (try simp only [List.map_toArray, List.map_cons, List.map_nil]); first | done | rfl | (simp only [List.length_drop, List.length_take]; rfl)) ?_; (with_reducible refine (tourkeep1_quantBegun.calls  true _ A6.out).mono ?_); rintro e w11 ⟨rfl, hb⟩; refine ⟨_, rfl, ?_⟩; have n0_ := Aside0.mk (below_step (by repeat (first | (with_reducible first | exact HB.out | apply below_alloc | apply pw_below_drewN | apply below_drew1) | exact HB.out)) hb); clear HB; have HB := n0_; clear n0_; (try clear hb); (try clear hb2); (try clear hk); (try clear hi)) | ((with_reducible refine gate_callee (f := 29) rfl ?_); refine goesL_ (some 31) rfl rfl Try.func29 (by kernel_rfl) rfl #[.int .i64 a0, .int .i64 1099511627776] rfl (by (try simp only [List.map_toArray, List.map_cons, List.map_nil]); first | done | rfl | (simp only [List.length_drop, List.length_take]; rfl)) ?_; (with_reducible refine (tourkeep1_number.calls a0 1099511627776 t199 _ A8.out).mono ?_); rintro e w' ⟨rfl, ⟨nd, rfl⟩⟩; refine ⟨_, rfl, ?_⟩; (try (rw [drewN_self w11]; generalize hq_ : World.drewN w11 _ = w11; have n0_ : Aside0 (Below w.heap.size w w11) := ⟨by rw [← hq_]; exact (by repeat (first | (with_reducible first | exact HB.out | apply below_alloc | apply pw_below_drewN | apply below_drew1) | exact HB.out))⟩; clear HB hq_; have HB := n0_; clear n0_))) | ((with_reducible refine gate_callee (f := 29) rfl ?_); refine goesL_ (some 33) rfl rfl Try.func29 (by kernel_rfl) rfl #[.int .i64 a1, .int .i64 1099511627776] rfl (by (try simp only [List.map_toArray, List.map_cons, List.map_nil]); first | done | rfl | (simp only [List.length_drop, List.length_take]; rfl)) ?_; (with_reducible refine (tourkeep1_number.calls a1 1099511627776 t200 _ A9.out).mono ?_); rintro e w' ⟨rfl, ⟨nd, rfl⟩⟩; refine ⟨_, rfl, ?_⟩; (try (rw [drewN_self w11]; generalize hq_ : World.drewN w11 _ = w11; have n0_ : Aside0 (Below w.heap.size w w11) := ⟨by rw [← hq_]; exact (by repeat (first | (with_reducible first | exact HB.out | apply below_alloc | apply pw_below_drewN | apply below_drew1) | exact HB.out))⟩; clear HB hq_; have HB := n0_; clear n0_))) | ((with_reducible refine gate_dst (N := 11) rfl ?_); refine box_event ?hg (N := 11) ?hd (cs := #[.int .i64 0, .int .i64 0]) (t := 52) ?hr ?_; (case hd => rfl); (case hg => rfl); (case hr => first | (go_simp; done) | (go_simp; rfl)); intro gb201 hg w12 hbox hb; have n0_ := Aside0.mk (below_step (by repeat (first | (with_reducible first | exact HB.out | apply below_alloc | apply pw_below_drewN | apply below_drew1) | exact HB.out)) hb); have n1_ := Aside0.mk (hbox); have n2_ := Aside0.mk ((by rw [hg]; exact (below_size (by repeat (first | (with_reducible first | exact HB.out | apply below_alloc | apply pw_below_drewN | apply below_drew1) | exact HB.out))) : w.heap.size ≤ gb201)); have n3_ := Aside0.mk ((by rw [hg]; exact (below_size (by repeat (first | (with_reducible first | exact HB.out | apply below_alloc | apply pw_below_drewN | apply below_drew1) | exact HB.out))) : w.heap.size ≤ gb201)); clear HB; have HB := n0_; have BK201 := n1_; have GW201 := n2_; have GE201 := n3_; clear n0_ n1_ n2_ n3_; clear hb hbox hg; have hcz13_0 : w12.cell? ⟨gb201, 0, none⟩ = some (.int .i64 0) := (blk_cell BK201.out 0).trans rfl; have hcz13_1 : w12.cell? ⟨gb201, 1, none⟩ = some (.int .i64 0) := (blk_cell BK201.out 1).trans rfl; have hfz13_0 := blk_frozen BK201.out 0; have hfz13_1 := blk_frozen BK201.out 1))
    (try simp only [Act.put, List.setIfInBounds_toArray, List.set_cons_zero, List.set_cons_succ])
    go_cut [] (fun wc => ∃ (kq : Nat) (x202000_9 : Int) (x202001_9 : Int), Aside0 (tourkeep1_QuantBounds.j0 kq a2 a3 a4 x202000_9 x202001_9 = some r) ∧ Aside0 (kq ≤ k) ∧ Aside0 (wc.heap[gb201]? = some (.cells #[.int .i64 x202000_9, .int .i64 x202001_9] 52 (0, 0))) ∧ Aside0 (Below w.heap.size w wc))
    case first =>
      have H := HC10.out
      clear HC10
      by_cases c14 : t199 > t200
      · rw [if_pos c14] at H
        have c14b0 : decide (t200 < t199) = true := decide_eq_true c14
        clear c14
        (first | rw [c14b0] | (simp only [i64_w, i32_w]; rw [c14b0]) | skip)
        have H' := Aside0.mk H
        clear H
        have hcz15_0 : w12.cell? ⟨gb201, 0, none⟩ = some (.int .i64 0) := (blk_cell BK201.out 0).trans rfl
        have hcz15_1 : w12.cell? ⟨gb201, 1, none⟩ = some (.int .i64 0) := (blk_cell BK201.out 1).trans rfl
        have hfz15_0 := blk_frozen BK201.out 0
        have hfz15_1 := blk_frozen BK201.out 1
        go_wp2
        go_meet
        case rel => exact ⟨_, (t200), (t199), H', ⟨by first | omega | exact Nat.le_refl _⟩, ⟨by (with_reducible repeat (first | refine blk_drewN ?_ _ | refine blk_drew ?_ | refine blk_alloc ?_ _)); refine blk_put (cs := #[.int .i64 t200, .int .i64 t200]) ?_ 1 _ rfl; (with_reducible repeat (first | refine blk_drewN ?_ _ | refine blk_drew ?_ | refine blk_alloc ?_ _)); refine blk_put (cs := #[.int .i64 t199, .int .i64 t200]) ?_ 0 _ rfl; (with_reducible repeat (first | refine blk_drewN ?_ _ | refine blk_drew ?_ | refine blk_alloc ?_ _)); refine blk_put (cs := #[.int .i64 t199, .int .i64 0]) ?_ 1 _ rfl; (with_reducible repeat (first | refine blk_drewN ?_ _ | refine blk_drew ?_ | refine blk_alloc ?_ _)); refine blk_put (cs := #[.int .i64 0, .int .i64 0]) ?_ 0 _ rfl; (with_reducible repeat (first | refine blk_drewN ?_ _ | refine blk_drew ?_ | refine blk_alloc ?_ _)); exact BK201.out⟩, ⟨by repeat (first | (with_reducible first | exact HB.out | apply below_alloc | apply pw_below_drewN | apply below_drew1 | refine below_set ?_ GE201.out) | exact HB.out)⟩⟩
      · rw [if_neg c14] at H
        have c14b0 : decide (t200 < t199) = false := decide_eq_false c14
        clear c14
        (first | rw [c14b0] | (simp only [i64_w, i32_w]; rw [c14b0]) | skip)
        have H' := Aside0.mk H
        clear H
        go_wp2
        go_meet
        case rel => exact ⟨_, (t199), (t200), H', ⟨by first | omega | exact Nat.le_refl _⟩, ⟨by (with_reducible repeat (first | refine blk_drewN ?_ _ | refine blk_drew ?_ | refine blk_alloc ?_ _)); refine blk_put (cs := #[.int .i64 t199, .int .i64 0]) ?_ 1 _ rfl; (with_reducible repeat (first | refine blk_drewN ?_ _ | refine blk_drew ?_ | refine blk_alloc ?_ _)); refine blk_put (cs := #[.int .i64 0, .int .i64 0]) ?_ 0 _ rfl; (with_reducible repeat (first | refine blk_drewN ?_ _ | refine blk_drew ?_ | refine blk_alloc ?_ _)); exact BK201.out⟩, ⟨by repeat (first | (with_reducible first | exact HB.out | apply below_alloc | apply pw_below_drewN | apply below_drew1 | refine below_set ?_ GE201.out) | exact HB.out)⟩⟩
    case rest =>
      clear HC10
      try clear c1
      try clear p1
      try clear c2
      try clear p2
      try clear c7
      try clear c14
      try clear c14b0
      try clear hcz13_0
      try clear hcz13_1
      try clear hcz15_0
      try clear hcz15_1
      try clear hfz13_0
      try clear hfz13_1
      try clear hfz15_0
      try clear hfz15_1
      obtain ⟨kq, x202000_9, x202001_9, HA, HJ9, BK201, HB⟩ := hcut
      cases kq with
      | zero => exact absurd HA.out (by simp [tourkeep1_QuantBounds.j0])
      | succ kj9 =>
        have H := HA.out
        clear HA
        simp only [tourkeep1_QuantBounds.j0] at H
        replace H := Option.bind_eq_some_iff.mp H
        obtain ⟨t202, A160, H⟩ := H
        replace H : (if x202000_9 = x202001_9 then ((quant_Bound.f x202000_9 x202001_9 (wrap64 (1 + t202))).bind fun bt203 => (some (bt203.2 == 1))) else ((quant_Bound.f x202000_9 x202001_9 (wrap64 (1 + t202))).bind fun bt205 => ((quant_Coarse.f kj9 x202000_9 x202001_9 (wrap64 (1 + t202)) (mn (mx a3 x202000_9) x202001_9)).bind fun bt207 => ((quant_Fine.f kj9 x202000_9 x202001_9 (wrap64 (1 + t202)) bt207.1).bind fun bt209 => ((quant_Coarse.f kj9 x202000_9 x202001_9 (wrap64 (1 + t202)) (mn (mx a4 x202000_9) x202001_9)).bind fun bt211 => ((quant_Fine.f kj9 x202000_9 x202001_9 (wrap64 (1 + t202)) 0).bind fun bt213 => (if 0 ≤ (wrap64 (1 + t202)) then ((quant_Fine.f kj9 x202000_9 x202001_9 (wrap64 (1 + t202)) (wrap64 ((shl .i64 1 (wrap64 (1 + t202))) - 1))).bind fun bt215 => ((some (([bt205.2, bt207.2, bt209.2, bt211.2, bt213.2, bt215.2] : List Int) : List Int)).bind fun y217 => (tourkeep1_QuantBounds.l0 kj9 (mn (mx a3 x202000_9) x202001_9) (mn (mx a4 x202000_9) x202001_9) bt205.1 bt207.1 bt209.1 bt211.1 bt213.1 bt215.1 y217 (y217.length : Int) 0 x202000_9 x202001_9))) else (none)))))))) = some r := H
        have A16 := Aside0.mk A160
        clear A160
        by_cases c17 : x202000_9 = x202001_9
        · rw [if_pos c17] at H
          have c17b0 : (x202000_9 == x202001_9) = true := beq_iff_eq.mpr c17
          have c17b1 : (x202000_9 != x202001_9) = false := bne_eq_false_iff_eq.mpr c17
          clear c17
          replace H := Option.bind_eq_some_iff.mp H
          obtain ⟨⟨t203, t204⟩, A180, H⟩ := H
          replace H : (some (t204 == 1)) = some r := H
          have A18 := Aside0.mk A180
          clear A180
          obtain rfl := Option.some.inj H
          go_wp2_with (first | ((with_reducible refine gate_callee (f := 16) rfl ?_); refine goesL_ (some 47) rfl rfl Try.func16 (by kernel_rfl) rfl #[.int .i64 a2, .int .i64 32] rfl (by (try simp only [List.map_toArray, List.map_cons, List.map_nil]); first | done | rfl | (simp only [List.length_drop, List.length_take]; rfl)) ?_; (with_reducible refine (tourmake_Below.calls a2 32 t202 _ A16.out).mono ?_); rintro e w' ⟨rfl, ⟨nd, rfl⟩⟩; refine ⟨_, rfl, ?_⟩; have hcz19_0 : wc.cell? ⟨gb201, 0, none⟩ = some (.int .i64 x202000_9) := (blk_cell BK201.out 0).trans rfl; have hcz19_1 : wc.cell? ⟨gb201, 1, none⟩ = some (.int .i64 x202001_9) := (blk_cell BK201.out 1).trans rfl; have hfz19_0 := blk_frozen BK201.out 0; have hfz19_1 := blk_frozen BK201.out 1) | ((with_reducible refine gate_callee (f := 30) rfl ?_); refine goesL_ (some 57) rfl rfl Try.func30 (by kernel_rfl) rfl #[.agg #[.int .i64 x202000_9, .int .i64 x202001_9], .int .i64 (wrap64 (1 + t202))] rfl (by (try simp only [List.map_toArray, List.map_cons, List.map_nil]); first | done | rfl | (simp only [List.length_drop, List.length_take]; rfl)) ?_; (with_reducible refine (quant_Bound.calls x202000_9 x202001_9 (wrap64 (1 + t202)) t203 t204 _ A18.out).mono ?_); rintro e w20 ⟨rfl, hb⟩; refine ⟨_, rfl, ?_⟩; have n0_ := Aside0.mk (blk_below (g := gb201) (o := .cells #[.int .i64 x202000_9, .int .i64 x202001_9] 52 (0, 0)) (by (with_reducible repeat (first | refine blk_drewN ?_ _ | refine blk_drew ?_ | refine blk_alloc ?_ _)); exact BK201.out) hb); have n1_ := Aside0.mk (below_step (by repeat (first | (with_reducible first | exact HB.out | apply below_alloc | apply pw_below_drewN | apply below_drew1 | refine below_set ?_ GE201.out) | exact HB.out)) hb); clear BK201; clear HB; have BK201 := n0_; have HB := n1_; clear n0_ n1_; (try clear hb); (try clear hb2); (try clear hk); (try clear hi)))
          go_ret
          exact ⟨by first | rfl | (simp [errW_none, errW_some] <;> rfl) | (simp [*, errW_none, errW_some] <;> rfl), by repeat (first | (with_reducible first | exact HB.out | apply below_alloc | apply pw_below_drewN | apply below_drew1 | refine below_set ?_ GE201.out) | exact HB.out)⟩
        · rw [if_neg c17] at H
          have c17b0 : (x202000_9 == x202001_9) = false := beq_eq_false_iff_ne.mpr c17
          have c17b1 : (x202000_9 != x202001_9) = true := bne_iff_ne.mpr c17
          obtain ⟨ji21, hji21⟩ : ∃ j_ : Int, (mx a3 x202000_9) = j_ := ⟨_, rfl⟩
          replace H : ((quant_Bound.f x202000_9 x202001_9 (wrap64 (1 + t202))).bind fun bt205 => ((quant_Coarse.f kj9 x202000_9 x202001_9 (wrap64 (1 + t202)) (mn (ji21) x202001_9)).bind fun bt207 => ((quant_Fine.f kj9 x202000_9 x202001_9 (wrap64 (1 + t202)) bt207.1).bind fun bt209 => ((quant_Coarse.f kj9 x202000_9 x202001_9 (wrap64 (1 + t202)) (mn (mx a4 x202000_9) x202001_9)).bind fun bt211 => ((quant_Fine.f kj9 x202000_9 x202001_9 (wrap64 (1 + t202)) 0).bind fun bt213 => (if 0 ≤ (wrap64 (1 + t202)) then ((quant_Fine.f kj9 x202000_9 x202001_9 (wrap64 (1 + t202)) (wrap64 ((shl .i64 1 (wrap64 (1 + t202))) - 1))).bind fun bt215 => ((some (([bt205.2, bt207.2, bt209.2, bt211.2, bt213.2, bt215.2] : List Int) : List Int)).bind fun y217 => (tourkeep1_QuantBounds.l0 kj9 (mn (ji21) x202001_9) (mn (mx a4 x202000_9) x202001_9) bt205.1 bt207.1 bt209.1 bt211.1 bt213.1 bt215.1 y217 (y217.length : Int) 0 x202000_9 x202001_9))) else (none))))))) = some r := by first | (rw [hji21] at H; exact H) | (simp only [hji21] at H ⊢; exact H)
          (try rw [hji21] at A16)
          have hji21_ : (if a3 < x202000_9 then x202000_9 else a3) = ji21 := hji21
          obtain ⟨ji22, hji22⟩ : ∃ j_ : Int, (mn (ji21) x202001_9) = j_ := ⟨_, rfl⟩
          replace H : ((quant_Bound.f x202000_9 x202001_9 (wrap64 (1 + t202))).bind fun bt205 => ((quant_Coarse.f kj9 x202000_9 x202001_9 (wrap64 (1 + t202)) (ji22)).bind fun bt207 => ((quant_Fine.f kj9 x202000_9 x202001_9 (wrap64 (1 + t202)) bt207.1).bind fun bt209 => ((quant_Coarse.f kj9 x202000_9 x202001_9 (wrap64 (1 + t202)) (mn (mx a4 x202000_9) x202001_9)).bind fun bt211 => ((quant_Fine.f kj9 x202000_9 x202001_9 (wrap64 (1 + t202)) 0).bind fun bt213 => (if 0 ≤ (wrap64 (1 + t202)) then ((quant_Fine.f kj9 x202000_9 x202001_9 (wrap64 (1 + t202)) (wrap64 ((shl .i64 1 (wrap64 (1 + t202))) - 1))).bind fun bt215 => ((some (([bt205.2, bt207.2, bt209.2, bt211.2, bt213.2, bt215.2] : List Int) : List Int)).bind fun y217 => (tourkeep1_QuantBounds.l0 kj9 ji22 (mn (mx a4 x202000_9) x202001_9) bt205.1 bt207.1 bt209.1 bt211.1 bt213.1 bt215.1 y217 (y217.length : Int) 0 x202000_9 x202001_9))) else (none))))))) = some r := by first | (rw [hji22] at H; exact H) | (simp only [hji22] at H ⊢; exact H)
          (try rw [hji22] at A16)
          have hji22_ : (if x202001_9 < (ji21) then x202001_9 else (ji21)) = ji22 := hji22
          obtain ⟨ji23, hji23⟩ : ∃ j_ : Int, (mx a4 x202000_9) = j_ := ⟨_, rfl⟩
          replace H : ((quant_Bound.f x202000_9 x202001_9 (wrap64 (1 + t202))).bind fun bt205 => ((quant_Coarse.f kj9 x202000_9 x202001_9 (wrap64 (1 + t202)) (ji22)).bind fun bt207 => ((quant_Fine.f kj9 x202000_9 x202001_9 (wrap64 (1 + t202)) bt207.1).bind fun bt209 => ((quant_Coarse.f kj9 x202000_9 x202001_9 (wrap64 (1 + t202)) (mn (ji23) x202001_9)).bind fun bt211 => ((quant_Fine.f kj9 x202000_9 x202001_9 (wrap64 (1 + t202)) 0).bind fun bt213 => (if 0 ≤ (wrap64 (1 + t202)) then ((quant_Fine.f kj9 x202000_9 x202001_9 (wrap64 (1 + t202)) (wrap64 ((shl .i64 1 (wrap64 (1 + t202))) - 1))).bind fun bt215 => ((some (([bt205.2, bt207.2, bt209.2, bt211.2, bt213.2, bt215.2] : List Int) : List Int)).bind fun y217 => (tourkeep1_QuantBounds.l0 kj9 ji22 (mn (ji23) x202001_9) bt205.1 bt207.1 bt209.1 bt211.1 bt213.1 bt215.1 y217 (y217.length : Int) 0 x202000_9 x202001_9))) else (none))))))) = some r := by first | (rw [hji23] at H; exact H) | (simp only [hji23] at H ⊢; exact H)
          (try rw [hji23] at A16)
          have hji23_ : (if a4 < x202000_9 then x202000_9 else a4) = ji23 := hji23
          obtain ⟨ji24, hji24⟩ : ∃ j_ : Int, (mn (ji23) x202001_9) = j_ := ⟨_, rfl⟩
          replace H : ((quant_Bound.f x202000_9 x202001_9 (wrap64 (1 + t202))).bind fun bt205 => ((quant_Coarse.f kj9 x202000_9 x202001_9 (wrap64 (1 + t202)) (ji22)).bind fun bt207 => ((quant_Fine.f kj9 x202000_9 x202001_9 (wrap64 (1 + t202)) bt207.1).bind fun bt209 => ((quant_Coarse.f kj9 x202000_9 x202001_9 (wrap64 (1 + t202)) (ji24)).bind fun bt211 => ((quant_Fine.f kj9 x202000_9 x202001_9 (wrap64 (1 + t202)) 0).bind fun bt213 => (if 0 ≤ (wrap64 (1 + t202)) then ((quant_Fine.f kj9 x202000_9 x202001_9 (wrap64 (1 + t202)) (wrap64 ((shl .i64 1 (wrap64 (1 + t202))) - 1))).bind fun bt215 => ((some (([bt205.2, bt207.2, bt209.2, bt211.2, bt213.2, bt215.2] : List Int) : List Int)).bind fun y217 => (tourkeep1_QuantBounds.l0 kj9 ji22 ji24 bt205.1 bt207.1 bt209.1 bt211.1 bt213.1 bt215.1 y217 (y217.length : Int) 0 x202000_9 x202001_9))) else (none))))))) = some r := by first | (rw [hji24] at H; exact H) | (simp only [hji24] at H ⊢; exact H)
          (try rw [hji24] at A16)
          have hji24_ : (if x202001_9 < (ji23) then x202001_9 else (ji23)) = ji24 := hji24
          replace H := Option.bind_eq_some_iff.mp H
          obtain ⟨⟨t205, t206⟩, A250, H⟩ := H
          replace H : ((quant_Coarse.f kj9 x202000_9 x202001_9 (wrap64 (1 + t202)) (ji22)).bind fun bt207 => ((quant_Fine.f kj9 x202000_9 x202001_9 (wrap64 (1 + t202)) bt207.1).bind fun bt209 => ((quant_Coarse.f kj9 x202000_9 x202001_9 (wrap64 (1 + t202)) (ji24)).bind fun bt211 => ((quant_Fine.f kj9 x202000_9 x202001_9 (wrap64 (1 + t202)) 0).bind fun bt213 => (if 0 ≤ (wrap64 (1 + t202)) then ((quant_Fine.f kj9 x202000_9 x202001_9 (wrap64 (1 + t202)) (wrap64 ((shl .i64 1 (wrap64 (1 + t202))) - 1))).bind fun bt215 => ((some (([t206, bt207.2, bt209.2, bt211.2, bt213.2, bt215.2] : List Int) : List Int)).bind fun y217 => (tourkeep1_QuantBounds.l0 kj9 ji22 ji24 t205 bt207.1 bt209.1 bt211.1 bt213.1 bt215.1 y217 (y217.length : Int) 0 x202000_9 x202001_9))) else (none)))))) = some r := H
          have A25 := Aside0.mk A250
          clear A250
          replace H := Option.bind_eq_some_iff.mp H
          obtain ⟨⟨t207, t208⟩, A260, H⟩ := H
          replace H : ((quant_Fine.f kj9 x202000_9 x202001_9 (wrap64 (1 + t202)) t207).bind fun bt209 => ((quant_Coarse.f kj9 x202000_9 x202001_9 (wrap64 (1 + t202)) (ji24)).bind fun bt211 => ((quant_Fine.f kj9 x202000_9 x202001_9 (wrap64 (1 + t202)) 0).bind fun bt213 => (if 0 ≤ (wrap64 (1 + t202)) then ((quant_Fine.f kj9 x202000_9 x202001_9 (wrap64 (1 + t202)) (wrap64 ((shl .i64 1 (wrap64 (1 + t202))) - 1))).bind fun bt215 => ((some (([t206, t208, bt209.2, bt211.2, bt213.2, bt215.2] : List Int) : List Int)).bind fun y217 => (tourkeep1_QuantBounds.l0 kj9 ji22 ji24 t205 t207 bt209.1 bt211.1 bt213.1 bt215.1 y217 (y217.length : Int) 0 x202000_9 x202001_9))) else (none))))) = some r := H
          have A26 := Aside0.mk A260
          clear A260
          replace H := Option.bind_eq_some_iff.mp H
          obtain ⟨⟨t209, t210⟩, A270, H⟩ := H
          replace H : ((quant_Coarse.f kj9 x202000_9 x202001_9 (wrap64 (1 + t202)) (ji24)).bind fun bt211 => ((quant_Fine.f kj9 x202000_9 x202001_9 (wrap64 (1 + t202)) 0).bind fun bt213 => (if 0 ≤ (wrap64 (1 + t202)) then ((quant_Fine.f kj9 x202000_9 x202001_9 (wrap64 (1 + t202)) (wrap64 ((shl .i64 1 (wrap64 (1 + t202))) - 1))).bind fun bt215 => ((some (([t206, t208, t210, bt211.2, bt213.2, bt215.2] : List Int) : List Int)).bind fun y217 => (tourkeep1_QuantBounds.l0 kj9 ji22 ji24 t205 t207 t209 bt211.1 bt213.1 bt215.1 y217 (y217.length : Int) 0 x202000_9 x202001_9))) else (none)))) = some r := H
          have A27 := Aside0.mk A270
          clear A270
          replace H := Option.bind_eq_some_iff.mp H
          obtain ⟨⟨t211, t212⟩, A280, H⟩ := H
          replace H : ((quant_Fine.f kj9 x202000_9 x202001_9 (wrap64 (1 + t202)) 0).bind fun bt213 => (if 0 ≤ (wrap64 (1 + t202)) then ((quant_Fine.f kj9 x202000_9 x202001_9 (wrap64 (1 + t202)) (wrap64 ((shl .i64 1 (wrap64 (1 + t202))) - 1))).bind fun bt215 => ((some (([t206, t208, t210, t212, bt213.2, bt215.2] : List Int) : List Int)).bind fun y217 => (tourkeep1_QuantBounds.l0 kj9 ji22 ji24 t205 t207 t209 t211 bt213.1 bt215.1 y217 (y217.length : Int) 0 x202000_9 x202001_9))) else (none))) = some r := H
          have A28 := Aside0.mk A280
          clear A280
          replace H := Option.bind_eq_some_iff.mp H
          obtain ⟨⟨t213, t214⟩, A290, H⟩ := H
          replace H : (if 0 ≤ (wrap64 (1 + t202)) then ((quant_Fine.f kj9 x202000_9 x202001_9 (wrap64 (1 + t202)) (wrap64 ((shl .i64 1 (wrap64 (1 + t202))) - 1))).bind fun bt215 => ((some (([t206, t208, t210, t212, t214, bt215.2] : List Int) : List Int)).bind fun y217 => (tourkeep1_QuantBounds.l0 kj9 ji22 ji24 t205 t207 t209 t211 t213 bt215.1 y217 (y217.length : Int) 0 x202000_9 x202001_9))) else (none)) = some r := H
          have A29 := Aside0.mk A290
          clear A290
          obtain ⟨ji30, hji30⟩ : ∃ j_ : Int, (wrap64 (1 + t202)) = j_ := ⟨_, rfl⟩
          replace H : (if 0 ≤ (ji30) then ((quant_Fine.f kj9 x202000_9 x202001_9 (ji30) (wrap64 ((shl .i64 1 (ji30)) - 1))).bind fun bt215 => ((some (([t206, t208, t210, t212, t214, bt215.2] : List Int) : List Int)).bind fun y217 => (tourkeep1_QuantBounds.l0 kj9 ji22 ji24 t205 t207 t209 t211 t213 bt215.1 y217 (y217.length : Int) 0 x202000_9 x202001_9))) else (none)) = some r := by first | (rw [hji30] at H; exact H) | (simp only [hji30] at H ⊢; exact H)
          (try rw [hji30] at A16)
          (try rw [hji30] at A25)
          (try rw [hji30] at A26)
          (try rw [hji30] at A27)
          (try rw [hji30] at A28)
          (try rw [hji30] at A29)
          have hji30w : (IntKind.i64.wrap (1 + t202)) = ji30 := (i64_w _).trans hji30
          by_cases c31 : 0 ≤ (ji30)
          · rw [if_pos c31] at H
            have c31b0 := eq_true c31
            have c31b1 : decide (0 ≤ (ji30)) = true := decide_eq_true c31
            clear c31
            obtain ⟨ji32, hji32⟩ : ∃ j_ : Int, (shl .i64 1 (ji30)) = j_ := ⟨_, rfl⟩
            replace H : ((quant_Fine.f kj9 x202000_9 x202001_9 (ji30) (wrap64 ((ji32) - 1))).bind fun bt215 => ((some (([t206, t208, t210, t212, t214, bt215.2] : List Int) : List Int)).bind fun y217 => (tourkeep1_QuantBounds.l0 kj9 ji22 ji24 t205 t207 t209 t211 t213 bt215.1 y217 (y217.length : Int) 0 x202000_9 x202001_9))) = some r := by first | (rw [hji32] at H; exact H) | (simp only [hji32] at H ⊢; exact H)
            (try rw [hji32] at A16)
            (try rw [hji32] at A25)
            (try rw [hji32] at A26)
            (try rw [hji32] at A27)
            (try rw [hji32] at A28)
            (try rw [hji32] at A29)
            have hji32_ : (IntKind.i64.wrap (1 * 2 ^ min (ji30).toNat 64)) = ji32 := hji32
            have hji32z : (ji30) ≤ 64 → (IntKind.i64.wrap (1 * 2 ^ (ji30).toNat)) = ji32 := shl_small hji32
            have hji32u : (IntKind.i64.wrap (2 ^ min (ji30).toNat 64)) = ji32 := by have h_ := hji32_; rw [Int.one_mul] at h_; exact h_
            have hji32v : (ji30) ≤ 64 → (IntKind.i64.wrap (2 ^ (ji30).toNat)) = ji32 := fun hle_ => by have h_ := hji32z hle_; rw [Int.one_mul] at h_; exact h_
            have hji32y : (wrap64 (1 * 2 ^ min (ji30).toNat 64)) = ji32 := (i64_w _).symm.trans hji32_
            have hji32x : (ji30) ≤ 64 → (wrap64 (1 * 2 ^ (ji30).toNat)) = ji32 := fun h_ => (i64_w _).symm.trans (hji32z h_)
            replace H := Option.bind_eq_some_iff.mp H
            obtain ⟨⟨t215, t216⟩, A330, H⟩ := H
            replace H : ((some (([t206, t208, t210, t212, t214, t216] : List Int) : List Int)).bind fun y217 => (tourkeep1_QuantBounds.l0 kj9 ji22 ji24 t205 t207 t209 t211 t213 t215 y217 (y217.length : Int) 0 x202000_9 x202001_9)) = some r := H
            have A33 := Aside0.mk A330
            clear A330
            obtain ⟨y217, hy217⟩ : ∃ y_ : List Int, y_ = (([t206, t208, t210, t212, t214, t216] : List Int)) := ⟨_, rfl⟩
            replace H : (tourkeep1_QuantBounds.l0 kj9 ji22 ji24 t205 t207 t209 t211 t213 t215 y217 (y217.length : Int) 0 x202000_9 x202001_9) = some r := by first | (rw [hy217]; with_reducible exact H) | (have H2_ := (Option.bind_some _ _).symm.trans H; rw [hy217]; with_reducible exact H2_) | (have H2_ := (Option.bind_some _ _).symm.trans H; with_reducible exact H2_) | with_reducible exact H | (rw [hy217]; exact H) | exact H
            have Ny217 := Aside0.mk hy217
            clear hy217
            have H' := Aside0.mk H
            clear H
            try go_wp2_with (first | ((with_reducible refine gate_callee (f := 16) rfl ?_); refine goesL_ (some 47) rfl rfl Try.func16 (by kernel_rfl) rfl #[.int .i64 a2, .int .i64 32] rfl (by (try simp only [List.map_toArray, List.map_cons, List.map_nil]); first | done | rfl | (simp only [List.length_drop, List.length_take]; rfl)) ?_; (with_reducible refine (tourmake_Below.calls a2 32 t202 _ A16.out).mono ?_); rintro e w' ⟨rfl, ⟨nd, rfl⟩⟩; refine ⟨_, rfl, ?_⟩; have hcz34_0 : wc.cell? ⟨gb201, 0, none⟩ = some (.int .i64 x202000_9) := (blk_cell BK201.out 0).trans rfl; have hcz34_1 : wc.cell? ⟨gb201, 1, none⟩ = some (.int .i64 x202001_9) := (blk_cell BK201.out 1).trans rfl; have hfz34_0 := blk_frozen BK201.out 0; have hfz34_1 := blk_frozen BK201.out 1))
            (try (rw [drewN_self wc]; generalize hq_ : World.drewN wc _ = wc; have n0_ : Aside0 (wc.heap[gb201]? = some (.cells #[.int .i64 x202000_9, .int .i64 x202001_9] 52 (0, 0))) := ⟨by rw [← hq_]; exact (by (with_reducible repeat (first | refine blk_drewN ?_ _ | refine blk_drew ?_ | refine blk_alloc ?_ _)); exact BK201.out)⟩; have n1_ : Aside0 (Below w.heap.size w wc) := ⟨by rw [← hq_]; exact (by repeat (first | (with_reducible first | exact HB.out | apply below_alloc | apply pw_below_drewN | apply below_drew1 | refine below_set ?_ GE201.out) | exact HB.out))⟩; clear BK201 HB hq_; have BK201 := n0_; have HB := n1_; clear n0_ n1_))
            have n0_ := Aside0.mk (blk_drew BK201.out)
            have n1_ := Aside0.mk (below_drew1 HB.out)
            clear BK201
            clear HB
            have BK201 := n0_
            have HB := n1_
            clear n0_ n1_
            refine start_ (n := 16) (S := fun w' => w'.cell? ⟨gb201, 0, none⟩ = some (.int .i64 x202000_9) ∧ w'.cell? ⟨gb201, 1, none⟩ = some (.int .i64 x202001_9)) (ds := []) #[false, false, false, false, false, false, false, false, false, false, false, false, false, false, false, false] (by kernel_rfl) rfl rfl ⟨(blk_cell BK201.out 0).trans rfl, (blk_cell BK201.out 1).trans rfl⟩ (fun hHeld => ?_); refine with_tabW tourkeep1_QuantBounds.tab10 tourkeep1_QuantBounds.bits10 (fun HT_ HW_ => ?_)
            generalize wc.drew = w35 at BK201 HB hHeld ⊢
            refine pure_ (i := 0) (N := some 62) (v := ?_) (a' := ?_) #[true, false, false, false, false, false, false, false, false, false, false, false, false, false, false, false] rfl rfl (any_of HT_.out (by kernel_rfl)) (fun _ _ _ h => h) (Or.inl ⟨by rfl, ?_⟩) ?_ ?_
            rotate_left
            · intro w'
              go_simp
              with_reducible rfl
            rotate_left
            · simp only [Act.put, List.setIfInBounds_toArray, List.set_cons_zero, List.set_cons_succ, i64_w, i32_w]
              rfl
            refine pure_ (i := 1) (N := some 63) (v := ?_) (a' := ?_) #[true, true, false, false, false, false, false, false, false, false, false, false, false, false, false, false] rfl rfl (any_of HT_.out (by kernel_rfl)) (fun _ _ _ h => h) (Or.inl ⟨by rfl, ?_⟩) ?_ ?_
            rotate_left
            · intro w'
              go_simp
              with_reducible rfl
            rotate_left
            · simp only [Act.put, List.setIfInBounds_toArray, List.set_cons_zero, List.set_cons_succ, i64_w, i32_w]
              rfl
            refine pure_ (i := 4) (N := some 66) (v := ?_) (a' := ?_) #[true, true, false, false, true, false, false, false, false, false, false, false, false, false, false, false] rfl rfl (any_of HT_.out (by kernel_rfl)) (fun _ _ _ h => h) (Or.inl ⟨by rfl, ?_⟩) ?_ ?_
            rotate_left
            · intro w'
              go_simp
              with_reducible rfl
            rotate_left
            · simp only [Act.put, List.setIfInBounds_toArray, List.set_cons_zero, List.set_cons_succ, i64_w, i32_w]
              rfl
            refine pure_ (i := 7) (N := some 69) (v := ?_) (a' := ?_) #[true, true, false, false, true, false, false, true, false, false, false, false, false, false, false, false] rfl rfl (any_of HT_.out (by kernel_rfl)) (fun _ _ _ h => h) (Or.inl ⟨by rfl, ?_⟩) ?_ ?_
            rotate_left
            · intro w'
              go_simp
              with_reducible rfl
            rotate_left
            · simp only [Act.put, List.setIfInBounds_toArray, List.set_cons_zero, List.set_cons_succ, i64_w, i32_w]
              rfl
            refine pure_ (i := 8) (N := some 70) (v := ?_) (a' := ?_) #[true, true, false, false, true, false, false, true, true, false, false, false, false, false, false, false] rfl rfl (any_of HT_.out (by kernel_rfl)) (fun _ _ _ h => h) (Or.inl ⟨by rfl, ?_⟩) ?_ ?_
            rotate_left
            · intro w'
              go_simp
              with_reducible rfl
            rotate_left
            · simp only [Act.put, List.setIfInBounds_toArray, List.set_cons_zero, List.set_cons_succ, i64_w, i32_w]
              rfl
            refine pure_ (i := 11) (N := some 73) (v := ?_) (a' := ?_) #[true, true, false, false, true, false, false, true, true, false, false, true, false, false, false, false] rfl rfl (any_of HT_.out (by kernel_rfl)) (fun _ _ _ h => h) (Or.inl ⟨by rfl, ?_⟩) ?_ ?_
            rotate_left
            · intro w'
              go_simp
              with_reducible rfl
            rotate_left
            · simp only [Act.put, List.setIfInBounds_toArray, List.set_cons_zero, List.set_cons_succ, i64_w, i32_w]
              rfl
            refine take_ (i := 2) (N := some 64) (v := ?_) (a' := ?_) #[true, true, true, false, true, false, false, true, true, false, false, true, false, false, false, false] rfl rfl (take_ofW HT_.out HW_.out (by kernel_rfl)) (fun _ _ _ h => h) (Or.inl ⟨by rfl, ?_⟩) hHeld ?_ ?_
            rotate_left
            · rintro w' ⟨s0, s1⟩
              go_simp
              with_reducible rfl
            rotate_left
            · simp only [Act.put, List.setIfInBounds_toArray, List.set_cons_zero, List.set_cons_succ, i64_w, i32_w]
              rfl
            refine pure_ (i := 3) (N := some 65) (v := ?_) (a' := ?_) #[true, true, true, true, true, false, false, true, true, false, false, true, false, false, false, false] rfl rfl (any_of HT_.out (by kernel_rfl)) (fun _ _ _ h => h) (Or.inl ⟨by rfl, ?_⟩) ?_ ?_
            rotate_left
            · intro w'
              go_simp
              with_reducible rfl
            rotate_left
            · simp only [Act.put, List.setIfInBounds_toArray, List.set_cons_zero, List.set_cons_succ, i64_w, i32_w]
              rfl
            refine take_ (i := 5) (N := some 67) (v := ?_) (a' := ?_) #[true, true, true, true, true, true, false, true, true, false, false, true, false, false, false, false] rfl rfl (take_ofW HT_.out HW_.out (by kernel_rfl)) (fun _ _ _ h => h) (Or.inl ⟨by rfl, ?_⟩) hHeld ?_ ?_
            rotate_left
            · rintro w' ⟨s0, s1⟩
              go_simp
              with_reducible rfl
            rotate_left
            · simp only [Act.put, List.setIfInBounds_toArray, List.set_cons_zero, List.set_cons_succ, i64_w, i32_w]
              rfl
            refine pure_ (i := 6) (N := some 68) (v := ?_) (a' := ?_) #[true, true, true, true, true, true, true, true, true, false, false, true, false, false, false, false] rfl rfl (any_of HT_.out (by kernel_rfl)) (fun _ _ _ h => h) (Or.inl ⟨by rfl, ?_⟩) ?_ ?_
            rotate_left
            · intro w'
              go_simp
              with_reducible rfl
            rotate_left
            · simp only [Act.put, List.setIfInBounds_toArray, List.set_cons_zero, List.set_cons_succ, i64_w, i32_w]
              rfl
            refine pure_ (i := 14) (N := some 3) (v := ?_) (a' := ?_) #[true, true, true, true, true, true, true, true, true, false, false, true, false, false, true, false] rfl rfl (any_of HT_.out (by kernel_rfl)) (fun _ _ _ h => h) (Or.inl ⟨by rfl, ?_⟩) ?_ ?_
            rotate_left
            · intro w'
              go_simp
              with_reducible rfl
            rotate_left
            · simp only [Act.put, List.setIfInBounds_toArray, List.set_cons_zero, List.set_cons_succ, i64_w, i32_w]
              rfl
            refine take_ (i := 9) (N := some 71) (v := ?_) (a' := ?_) #[true, true, true, true, true, true, true, true, true, true, false, true, false, false, true, false] rfl rfl (take_ofW HT_.out HW_.out (by kernel_rfl)) (fun _ _ _ h => h) (Or.inl ⟨by rfl, ?_⟩) hHeld ?_ ?_
            rotate_left
            · rintro w' ⟨s0, s1⟩
              go_simp
              with_reducible rfl
            rotate_left
            · simp only [Act.put, List.setIfInBounds_toArray, List.set_cons_zero, List.set_cons_succ, i64_w, i32_w]
              rfl
            refine pure_ (i := 10) (N := some 72) (v := ?_) (a' := ?_) #[true, true, true, true, true, true, true, true, true, true, true, true, false, false, true, false] rfl rfl (any_of HT_.out (by kernel_rfl)) (fun _ _ _ h => h) (Or.inl ⟨by rfl, ?_⟩) ?_ ?_
            rotate_left
            · intro w'
              go_simp
              with_reducible rfl
            rotate_left
            · simp only [Act.put, List.setIfInBounds_toArray, List.set_cons_zero, List.set_cons_succ, i64_w, i32_w]
              rfl
            refine take_ (i := 12) (N := some 74) (v := ?_) (a' := ?_) #[true, true, true, true, true, true, true, true, true, true, true, true, true, false, true, false] rfl rfl (take_ofW HT_.out HW_.out (by kernel_rfl)) (fun _ _ _ h => h) (Or.inl ⟨by rfl, ?_⟩) hHeld ?_ ?_
            rotate_left
            · rintro w' ⟨s0, s1⟩
              go_simp
              with_reducible rfl
            rotate_left
            · simp only [Act.put, List.setIfInBounds_toArray, List.set_cons_zero, List.set_cons_succ, i64_w, i32_w]
              rfl
            refine pure_ (i := 13) (N := some 75) (v := ?_) (a' := ?_) #[true, true, true, true, true, true, true, true, true, true, true, true, true, true, true, false] rfl rfl (any_of HT_.out (by kernel_rfl)) (fun _ _ _ h => h) (Or.inl ⟨by rfl, ?_⟩) ?_ ?_
            rotate_left
            · intro w'
              go_simp
              with_reducible rfl
            rotate_left
            · simp only [Act.put, List.setIfInBounds_toArray, List.set_cons_zero, List.set_cons_succ, i64_w, i32_w]
              rfl
            refine pure_ (i := 15) (N := some 4) (v := ?_) (a' := ?_) #[true, true, true, true, true, true, true, true, true, true, true, true, true, true, true, true] rfl rfl (any_of HT_.out (by kernel_rfl)) (fun _ _ _ h => h) (Or.inl ⟨by rfl, ?_⟩) ?_ ?_
            rotate_left
            · intro w'
              go_simp
              with_reducible rfl
            rotate_left
            · simp only [Act.put, List.setIfInBounds_toArray, List.set_cons_zero, List.set_cons_succ, i64_w, i32_w]
              rfl
            refine done_ (done_of HT_.out (by kernel_rfl)) ?_
            have hcz36_0 : w35.cell? ⟨gb201, 0, none⟩ = some (.int .i64 x202000_9) := (blk_cell BK201.out 0).trans rfl
            have hcz36_1 : w35.cell? ⟨gb201, 1, none⟩ = some (.int .i64 x202001_9) := (blk_cell BK201.out 1).trans rfl
            have hfz36_0 := blk_frozen BK201.out 0
            have hfz36_1 := blk_frozen BK201.out 1
            try go_wp2_with (first | ((with_reducible refine gate_callee (f := 30) rfl ?_); refine goesL_ (some 79) rfl rfl Try.func30 (by kernel_rfl) rfl #[.agg #[.int .i64 x202000_9, .int .i64 x202001_9], .int .i64 ji30] rfl (by (try simp only [List.map_toArray, List.map_cons, List.map_nil]); first | done | (simp only [hji30]; rfl) | rfl | (simp only [List.length_drop, List.length_take]; rfl)) ?_; (with_reducible refine (quant_Bound.calls x202000_9 x202001_9 ji30 t205 t206 _ A25.out).mono ?_); rintro e w37 ⟨rfl, hb⟩; refine ⟨_, rfl, ?_⟩; have n0_ := Aside0.mk (blk_below (g := gb201) (o := .cells #[.int .i64 x202000_9, .int .i64 x202001_9] 52 (0, 0)) (by (with_reducible repeat (first | refine blk_drewN ?_ _ | refine blk_drew ?_ | refine blk_alloc ?_ _)); exact BK201.out) hb); have n1_ := Aside0.mk (below_step (by repeat (first | (with_reducible first | exact HB.out | apply below_alloc | apply pw_below_drewN | apply below_drew1 | refine below_set ?_ GE201.out) | exact HB.out)) hb); clear BK201; clear HB; have BK201 := n0_; have HB := n1_; clear n0_ n1_; (try clear hb); (try clear hb2); (try clear hk); (try clear hi); have hcz38_0 : w37.cell? ⟨gb201, 0, none⟩ = some (.int .i64 x202000_9) := (blk_cell BK201.out 0).trans rfl; have hcz38_1 : w37.cell? ⟨gb201, 1, none⟩ = some (.int .i64 x202001_9) := (blk_cell BK201.out 1).trans rfl; have hfz38_0 := blk_frozen BK201.out 0; have hfz38_1 := blk_frozen BK201.out 1) | ((with_reducible refine gate_callee (f := 31) rfl ?_); refine goesL_ (some 86) rfl rfl Try.func31 (by kernel_rfl) rfl #[.agg #[.int .i64 x202000_9, .int .i64 x202001_9], .int .i64 ji30, .int .i64 ji22] rfl (by (try simp only [List.map_toArray, List.map_cons, List.map_nil]); first | done | (simp only [hji22, hji30]; rfl) | rfl | (simp only [List.length_drop, List.length_take]; rfl)) ?_; (with_reducible refine (quant_Coarse.calls kj9 x202000_9 x202001_9 ji30 ji22 t207 t208 _ A26.out).mono ?_); rintro e w39 ⟨rfl, hb⟩; refine ⟨_, rfl, ?_⟩; have n0_ := Aside0.mk (blk_below (g := gb201) (o := .cells #[.int .i64 x202000_9, .int .i64 x202001_9] 52 (0, 0)) (by (with_reducible repeat (first | refine blk_drewN ?_ _ | refine blk_drew ?_ | refine blk_alloc ?_ _)); exact BK201.out) hb); have n1_ := Aside0.mk (below_step (by repeat (first | (with_reducible first | exact HB.out | apply below_alloc | apply pw_below_drewN | apply below_drew1 | refine below_set ?_ GE201.out) | exact HB.out)) hb); clear BK201; clear HB; have BK201 := n0_; have HB := n1_; clear n0_ n1_; (try clear hb); (try clear hb2); (try clear hk); (try clear hi); have hcz40_0 : w39.cell? ⟨gb201, 0, none⟩ = some (.int .i64 x202000_9) := (blk_cell BK201.out 0).trans rfl; have hcz40_1 : w39.cell? ⟨gb201, 1, none⟩ = some (.int .i64 x202001_9) := (blk_cell BK201.out 1).trans rfl; have hfz40_0 := blk_frozen BK201.out 0; have hfz40_1 := blk_frozen BK201.out 1) | ((with_reducible refine gate_callee (f := 32) rfl ?_); refine goesL_ (some 93) rfl rfl Try.func32 (by kernel_rfl) rfl #[.agg #[.int .i64 x202000_9, .int .i64 x202001_9], .int .i64 ji30, .int .i64 t207] rfl (by (try simp only [List.map_toArray, List.map_cons, List.map_nil]); first | done | (simp only [hji30]; rfl) | rfl | (simp only [List.length_drop, List.length_take]; rfl)) ?_; (with_reducible refine (quant_Fine.calls kj9 x202000_9 x202001_9 ji30 t207 t209 t210 _ A27.out).mono ?_); rintro e w41 ⟨rfl, hb⟩; refine ⟨_, rfl, ?_⟩; have n0_ := Aside0.mk (blk_below (g := gb201) (o := .cells #[.int .i64 x202000_9, .int .i64 x202001_9] 52 (0, 0)) (by (with_reducible repeat (first | refine blk_drewN ?_ _ | refine blk_drew ?_ | refine blk_alloc ?_ _)); exact BK201.out) hb); have n1_ := Aside0.mk (below_step (by repeat (first | (with_reducible first | exact HB.out | apply below_alloc | apply pw_below_drewN | apply below_drew1 | refine below_set ?_ GE201.out) | exact HB.out)) hb); clear BK201; clear HB; have BK201 := n0_; have HB := n1_; clear n0_ n1_; (try clear hb); (try clear hb2); (try clear hk); (try clear hi); have hcz42_0 : w41.cell? ⟨gb201, 0, none⟩ = some (.int .i64 x202000_9) := (blk_cell BK201.out 0).trans rfl; have hcz42_1 : w41.cell? ⟨gb201, 1, none⟩ = some (.int .i64 x202001_9) := (blk_cell BK201.out 1).trans rfl; have hfz42_0 := blk_frozen BK201.out 0; have hfz42_1 := blk_frozen BK201.out 1) | ((with_reducible refine gate_callee (f := 31) rfl ?_); refine goesL_ (some 100) rfl rfl Try.func31 (by kernel_rfl) rfl #[.agg #[.int .i64 x202000_9, .int .i64 x202001_9], .int .i64 ji30, .int .i64 ji24] rfl (by (try simp only [List.map_toArray, List.map_cons, List.map_nil]); first | done | (simp only [hji24, hji30]; rfl) | rfl | (simp only [List.length_drop, List.length_take]; rfl)) ?_; (with_reducible refine (quant_Coarse.calls kj9 x202000_9 x202001_9 ji30 ji24 t211 t212 _ A28.out).mono ?_); rintro e w43 ⟨rfl, hb⟩; refine ⟨_, rfl, ?_⟩; have n0_ := Aside0.mk (blk_below (g := gb201) (o := .cells #[.int .i64 x202000_9, .int .i64 x202001_9] 52 (0, 0)) (by (with_reducible repeat (first | refine blk_drewN ?_ _ | refine blk_drew ?_ | refine blk_alloc ?_ _)); exact BK201.out) hb); have n1_ := Aside0.mk (below_step (by repeat (first | (with_reducible first | exact HB.out | apply below_alloc | apply pw_below_drewN | apply below_drew1 | refine below_set ?_ GE201.out) | exact HB.out)) hb); clear BK201; clear HB; have BK201 := n0_; have HB := n1_; clear n0_ n1_; (try clear hb); (try clear hb2); (try clear hk); (try clear hi); have hcz44_0 : w43.cell? ⟨gb201, 0, none⟩ = some (.int .i64 x202000_9) := (blk_cell BK201.out 0).trans rfl; have hcz44_1 : w43.cell? ⟨gb201, 1, none⟩ = some (.int .i64 x202001_9) := (blk_cell BK201.out 1).trans rfl; have hfz44_0 := blk_frozen BK201.out 0; have hfz44_1 := blk_frozen BK201.out 1) | ((with_reducible refine gate_callee (f := 32) rfl ?_); refine goesL_ (some 106) rfl rfl Try.func32 (by kernel_rfl) rfl #[.agg #[.int .i64 x202000_9, .int .i64 x202001_9], .int .i64 ji30, .int .i64 0] rfl (by (try simp only [List.map_toArray, List.map_cons, List.map_nil]); first | done | (simp only [hji30]; rfl) | rfl | (simp only [List.length_drop, List.length_take]; rfl)) ?_; (with_reducible refine (quant_Fine.calls kj9 x202000_9 x202001_9 ji30 0 t213 t214 _ A29.out).mono ?_); rintro e w45 ⟨rfl, hb⟩; refine ⟨_, rfl, ?_⟩; have n0_ := Aside0.mk (blk_below (g := gb201) (o := .cells #[.int .i64 x202000_9, .int .i64 x202001_9] 52 (0, 0)) (by (with_reducible repeat (first | refine blk_drewN ?_ _ | refine blk_drew ?_ | refine blk_alloc ?_ _)); exact BK201.out) hb); have n1_ := Aside0.mk (below_step (by repeat (first | (with_reducible first | exact HB.out | apply below_alloc | apply pw_below_drewN | apply below_drew1 | refine below_set ?_ GE201.out) | exact HB.out)) hb); clear BK201; clear HB; have BK201 := n0_; have HB := n1_; clear n0_ n1_; (try clear hb); (try clear hb2); (try clear hk); (try clear hi)))
            have n0_ := Aside0.mk (blk_drew BK201.out)
            have n1_ := Aside0.mk (below_drew1 HB.out)
            clear BK201
            clear HB
            have BK201 := n0_
            have HB := n1_
            clear n0_ n1_
            refine start_ (n := 11) (S := fun w' => w'.cell? ⟨gb201, 0, none⟩ = some (.int .i64 x202000_9) ∧ w'.cell? ⟨gb201, 1, none⟩ = some (.int .i64 x202001_9)) (ds := []) #[false, false, false, false, false, false, false, false, false, false, false] (by kernel_rfl) rfl rfl ⟨(blk_cell BK201.out 0).trans rfl, (blk_cell BK201.out 1).trans rfl⟩ (fun hHeld => ?_); refine with_tabW tourkeep1_QuantBounds.tab16 tourkeep1_QuantBounds.bits16 (fun HT_ HW_ => ?_)
            generalize w45.drew = w46 at BK201 HB hHeld ⊢
            refine pure_ (i := 1) (N := some 111) (v := ?_) (a' := ?_) #[false, true, false, false, false, false, false, false, false, false, false] rfl rfl (any_of HT_.out (by kernel_rfl)) (fun _ _ _ h => h) (Or.inl ⟨by rfl, ?_⟩) ?_ ?_
            rotate_left
            · intro w'
              go_simp
              with_reducible rfl
            rotate_left
            · simp only [Act.put, List.setIfInBounds_toArray, List.set_cons_zero, List.set_cons_succ, i64_w, i32_w]
              rfl
            refine pure_ (i := 2) (N := some 112) (v := ?_) (a' := ?_) #[false, true, true, false, false, false, false, false, false, false, false] rfl rfl (any_of HT_.out (by kernel_rfl)) (fun _ _ _ h => h) (Or.inl ⟨by rfl, ?_⟩) ?_ ?_
            rotate_left
            · intro w'
              go_simp
              with_reducible rfl
            rotate_left
            · simp only [Act.put, List.setIfInBounds_toArray, List.set_cons_zero, List.set_cons_succ, i64_w, i32_w]
              rfl
            refine pure_ (i := 3) (N := some 113) (v := ?_) (a' := ?_) #[false, true, true, true, false, false, false, false, false, false, false] rfl rfl (any_of HT_.out (by kernel_rfl)) (fun _ _ _ h => h) (Or.inl ⟨by rfl, ?_⟩) ?_ ?_
            rotate_left
            · intro w'
              go_simp
              with_reducible rfl
            rotate_left
            · simp only [Act.put, List.setIfInBounds_toArray, List.set_cons_zero, List.set_cons_succ, i64_w, i32_w]
              rfl
            refine pure_ (i := 4) (N := some 114) (v := ?_) (a' := ?_) #[false, true, true, true, true, false, false, false, false, false, false] rfl rfl (any_of HT_.out (by kernel_rfl)) (fun _ _ _ h => h) (Or.inl ⟨by rfl, ?_⟩) ?_ ?_
            rotate_left
            · intro w'
              go_simp
              with_reducible rfl
            rotate_left
            · simp only [Act.put, List.setIfInBounds_toArray, List.set_cons_zero, List.set_cons_succ, i64_w, i32_w]
              rfl
            refine take_ (i := 0) (N := some 110) (v := ?_) (a' := ?_) #[true, true, true, true, true, false, false, false, false, false, false] rfl rfl (take_ofW HT_.out HW_.out (by kernel_rfl)) (fun _ _ _ h => h) (Or.inl ⟨by rfl, ?_⟩) hHeld ?_ ?_
            rotate_left
            · rintro w' ⟨s0, s1⟩
              go_simp
              with_reducible rfl
            rotate_left
            · simp only [Act.put, List.setIfInBounds_toArray, List.set_cons_zero, List.set_cons_succ, i64_w, i32_w]
              rfl
            refine one_ (i := 5) (N := some 115) #[true, true, true, true, true, true, false, false, false, false, false] rfl rfl (one_of HT_.out (by kernel_rfl)) (by decide) (fun K hK => ?_)
            refine goes_ Try.func32 (by kernel_rfl) rfl #[.agg #[.int .i64 x202000_9, .int .i64 x202001_9], .int .i64 ji30, .int .i64 (wrap64 ((ji32) - 1))] (by rfl) rfl rfl (by (try simp only [List.map_toArray, List.map_cons, List.map_nil]); first | done | (simp only [hji30, hji32]; rfl) | rfl | (simp only [List.length_drop, List.length_take]; rfl)) ?_
            with_reducible refine (quant_Fine.calls kj9 x202000_9 x202001_9 ji30 (wrap64 ((ji32) - 1)) t215 t216 _ A33.out).mono ?_
            rintro e w47 ⟨rfl, hb⟩
            refine ⟨_, rfl, ?_⟩
            have n0_ := Aside0.mk (blk_below (g := gb201) (o := .cells #[.int .i64 x202000_9, .int .i64 x202001_9] 52 (0, 0)) (by (with_reducible repeat (first | refine blk_drewN ?_ _ | refine blk_drew ?_ | refine blk_alloc ?_ _)); exact BK201.out) hb)
            have n1_ := Aside0.mk (below_step (by repeat (first | (with_reducible first | exact HB.out | apply below_alloc | apply pw_below_drewN | apply below_drew1 | refine below_set ?_ GE201.out) | exact HB.out)) hb)
            clear BK201
            clear HB
            have BK201 := n0_
            have HB := n1_
            clear n0_ n1_
            (try clear hb)
            (try clear hb2)
            (try clear hk)
            (try clear hi)
            refine hK.out _ _ ⟨(blk_cell BK201.out 0).trans rfl, (blk_cell BK201.out 1).trans rfl⟩ (fun hHeld => ?_)
            clear hK K
            refine norm_ (a' := ?_) ?_ ?_
            rotate_left
            · show Act.put _ (some 115) _ = _
              simp only [Act.put, List.setIfInBounds_toArray, List.set_cons_zero, List.set_cons_succ, i64_w, i32_w]
              rfl
            refine pure_ (i := 6) (N := some 109) (v := ?_) (a' := ?_) #[true, true, true, true, true, true, true, false, false, false, false] rfl rfl (any_of HT_.out (by kernel_rfl)) (fun _ _ _ h => h) (Or.inl ⟨by rfl, ?_⟩) ?_ ?_
            rotate_left
            · intro w'
              go_simp
              with_reducible rfl
            rotate_left
            · simp only [Act.put, List.setIfInBounds_toArray, List.set_cons_zero, List.set_cons_succ, i64_w, i32_w]
              rfl
            refine pure_ (i := 7) (N := some 116) (v := ?_) (a' := ?_) #[true, true, true, true, true, true, true, true, false, false, false] rfl rfl (any_of HT_.out (by kernel_rfl)) (fun _ _ _ h => h) (Or.inl ⟨by rfl, ?_⟩) ?_ ?_
            rotate_left
            · intro w'
              go_simp
              with_reducible rfl
            rotate_left
            · simp only [Act.put, List.setIfInBounds_toArray, List.set_cons_zero, List.set_cons_succ, i64_w, i32_w]
              rfl
            refine pure_ (i := 8) (N := some 117) (v := ?_) (a' := ?_) #[true, true, true, true, true, true, true, true, true, false, false] rfl rfl (any_of HT_.out (by kernel_rfl)) (fun _ _ _ h => h) (Or.inl ⟨by rfl, ?_⟩) ?_ ?_
            rotate_left
            · intro w'
              go_simp
              with_reducible rfl
            rotate_left
            · simp only [Act.put, List.setIfInBounds_toArray, List.set_cons_zero, List.set_cons_succ, i64_w, i32_w]
              rfl
            refine pure_ (i := 9) (N := some 24) (v := ?_) (a' := ?_) #[true, true, true, true, true, true, true, true, true, true, false] rfl rfl (any_of HT_.out (by kernel_rfl)) (fun _ _ _ h => h) (Or.inl ⟨by rfl, ?_⟩) ?_ ?_
            rotate_left
            · intro w'
              go_simp
              with_reducible rfl
            rotate_left
            · simp only [Act.put, List.setIfInBounds_toArray, List.set_cons_zero, List.set_cons_succ, i64_w, i32_w]
              rfl
            refine pure_ (i := 10) (N := some 25) (v := ?_) (a' := ?_) #[true, true, true, true, true, true, true, true, true, true, true] rfl rfl (any_of HT_.out (by kernel_rfl)) (fun _ _ _ h => h) (Or.inl ⟨by rfl, ?_⟩) ?_ ?_
            rotate_left
            · intro w'
              go_simp
              with_reducible rfl
            rotate_left
            · simp only [Act.put, List.setIfInBounds_toArray, List.set_cons_zero, List.set_cons_succ, i64_w, i32_w]
              rfl
            refine done_ (done_of HT_.out (by kernel_rfl)) ?_
            try go_wp2_with (first | ((with_reducible refine gate_dst (N := 124) rfl ?_); refine Kd.R_lit (Kd.int .i64) _ 34 ?hg (N := 124) ?hd (xs := ([t206, t208, t210, t212, t214, t216] : List Int)) (inner := [.int .i64 t206, .int .i64 t208, .int .i64 t210, .int .i64 t212, .int .i64 t214, .int .i64 t216]) (ok := fun _ => True) (okp := fun _ => True) ?hr ?hp (fun _ hk => hk) trivial (Below.refl _ _) (Nat.le_refl _) (by simp) ?_; (case hd => rfl); (case hg => rfl); (case hr => first | (go_simp; done) | (go_simp; rfl)); (case hp => exact (Reps.one (show Kd.M (Kd.int .i64) _ _ _ t206 [.int .i64 t206] from rfl) (Reps.one (show Kd.M (Kd.int .i64) _ _ _ t208 [.int .i64 t208] from rfl) (Reps.one (show Kd.M (Kd.int .i64) _ _ _ t210 [.int .i64 t210] from rfl) (Reps.one (show Kd.M (Kd.int .i64) _ _ _ t212 [.int .i64 t212] from rfl) (Reps.one (show Kd.M (Kd.int .i64) _ _ _ t214 [.int .i64 t214] from rfl) (Reps.one (show Kd.M (Kd.int .i64) _ _ _ t216 [.int .i64 t216] from rfl) (Reps.none _ _)))))))); intro v218 w48 ho49 hb hg_ hnew_; clear hg_ hnew_; (first | rw [← Ny217.out] at ho49 | (simp only [Int.reduceToNat] at ho49; rw [← Ny217.out] at ho49)); have n0_ := Aside0.mk (Kd.R_lower ho49 (below_size (by repeat (first | (with_reducible first | exact HB.out | apply below_alloc | apply pw_below_drewN | apply below_drew1 | refine below_set ?_ GE201.out) | exact HB.out)))); have n1_ := Aside0.mk (blk_below (g := gb201) (o := .cells #[.int .i64 x202000_9, .int .i64 x202001_9] 52 (0, 0)) (by (with_reducible repeat (first | refine blk_drewN ?_ _ | refine blk_drew ?_ | refine blk_alloc ?_ _)); exact BK201.out) hb); have n2_ := Aside0.mk (below_step (by repeat (first | (with_reducible first | exact HB.out | apply below_alloc | apply pw_below_drewN | apply below_drew1 | refine below_set ?_ GE201.out) | exact HB.out)) hb); clear BK201; clear HB; have HO219 := n0_; have BK201 := n1_; have HB := n2_; clear n0_ n1_ n2_; clear hb ho49; obtain ⟨Ao50, co50, eo50⟩ := Kd.R_slice HO219.out; subst eo50))
            go_loopg [126] kj9 (fun kq v126 w' => ∃ (x126_2 : Int), v126 = .int .i64 x126_2 ∧ Aside0 (tourkeep1_QuantBounds.l0 kq ji22 ji24 t205 t207 t209 t211 t213 t215 y217 (y217.length : Int) x126_2 x202000_9 x202001_9 = some r) ∧ Aside0 (kq ≤ kj9) ∧ Aside0 (Kd.R (Kd.int .i64) 34 w' w.heap.size (fun _ => True) (.slice Ao50 y217.length co50) y217) ∧ Aside0 (w'.heap[gb201]? = some (.cells #[.int .i64 x202000_9, .int .i64 x202001_9] 52 (0, 0))) ∧ Aside0 (Below w.heap.size w w'))
            case atStart => exact ⟨(0), (by first | rfl | (simp; done) | (simp [*]; done)), H', ⟨Nat.le_refl _⟩, ⟨by (with_reducible repeat (first | apply Kd.R_alloc | apply Kd.R_drewN | apply Kd.R_drew)); exact HO219.out⟩, ⟨by (with_reducible repeat (first | refine blk_drewN ?_ _ | refine blk_drew ?_ | refine blk_alloc ?_ _)); exact BK201.out⟩, ⟨by repeat (first | (with_reducible first | exact HB.out | apply below_alloc | apply pw_below_drewN | apply below_drew1 | refine below_set ?_ GE201.out) | exact HB.out)⟩⟩
            case round =>
              clear H'
              try clear c1
              try clear p1
              try clear c2
              try clear p2
              try clear c3
              try clear p6
              try clear c7
              try clear c14
              try clear c14b0
              try clear c16
              try clear c17
              try clear c17b0
              try clear c17b1
              try clear c28
              try clear c29
              try clear c30
              try clear c31
              try clear c31b0
              try clear c31b1
              try clear c32
              try clear hcz13_0
              try clear hcz13_1
              try clear hcz15_0
              try clear hcz15_1
              try clear hcz19_0
              try clear hcz19_1
              try clear hcz34_0
              try clear hcz34_1
              try clear hcz36_0
              try clear hcz36_1
              try clear hcz38_0
              try clear hcz38_1
              try clear hcz40_0
              try clear hcz40_1
              try clear hcz42_0
              try clear hcz42_1
              try clear hcz44_0
              try clear hcz44_1
              try clear hfz13_0
              try clear hfz13_1
              try clear hfz15_0
              try clear hfz15_1
              try clear hfz19_0
              try clear hfz19_1
              try clear hfz34_0
              try clear hfz34_1
              try clear hfz36_0
              try clear hfz36_1
              try clear hfz38_0
              try clear hfz38_1
              try clear hfz40_0
              try clear hfz40_1
              try clear hfz42_0
              try clear hfz42_1
              try clear hfz44_0
              try clear hfz44_1
              try clear p1
              try clear p2
              obtain ⟨x126_2, rfl, HA, HK2, HO_124, BK201, HB⟩ := hrel
              cases gk with
              | zero => exact absurd HA.out (by simp [tourkeep1_QuantBounds.l0])
              | succ k2 =>
                have H := HA.out
                clear HA
                simp only [tourkeep1_QuantBounds.l0] at H
                by_cases c51 : x126_2 < (y217.length : Int)
                · rw [if_pos c51] at H
                  have c51b0 : decide (x126_2 < (y217.length : Int)) = true := decide_eq_true c51
                  clear c51
                  by_cases c52 : 0 ≤ x126_2
                  · rw [if_pos c52] at H
                    have c52b0 : decide (0 ≤ x126_2) = true := decide_eq_true c52
                    clear c52
                    by_cases c53 : x126_2 < (y217.length : Int)
                    · rw [if_pos c53] at H
                      have c53b0 : decide (x126_2 < (y217.length : Int)) = true := decide_eq_true c53
                      clear c53
                      by_cases c54 : (rd y217 x126_2) = 0
                      · rw [if_pos c54] at H
                        have c54b0 : ((rd y217 x126_2) == 0) = true := beq_iff_eq.mpr c54
                        have c54b1 : ((rd y217 x126_2) != 0) = false := bne_eq_false_iff_eq.mpr c54
                        clear c54
                        have H' := Aside0.mk H
                        clear H
                        have p220 : 0 ≤ (x126_2 : Int) := of_decide_eq_true (by first | (with_reducible assumption) | assumption)
                        have q220 : x126_2 < (y217.length : Int) := of_decide_eq_true (by first | (with_reducible assumption) | assumption)
                        obtain ⟨ad220, e220, hx220_0⟩ := Kd.at_int (Kd.R_reads' HO_124.out).2.2 x126_2 p220 q220
                        cases e220
                        replace p220 := eq_true p220
                        replace q220 := eq_true q220
                        go_wp2
                        go_roundg k2
                        case measure => have := HJ9.out; have := HK2.out; omega
                        case rel => exact ⟨(wrap64 (x126_2 + 1)), (by first | rfl | (simp; done) | (simp [*]; done)), H', ⟨by have := HJ9.out; have := HK2.out; omega⟩, ⟨by (with_reducible repeat (first | apply Kd.R_alloc | apply Kd.R_drewN | apply Kd.R_drew)); exact HO_124.out⟩, ⟨by (with_reducible repeat (first | refine blk_drewN ?_ _ | refine blk_drew ?_ | refine blk_alloc ?_ _)); exact BK201.out⟩, ⟨by repeat (first | (with_reducible first | exact HB.out | apply below_alloc | apply pw_below_drewN | apply below_drew1 | refine below_set ?_ GE201.out) | exact HB.out)⟩⟩
                      · rw [if_neg c54] at H
                        have c54b0 : ((rd y217 x126_2) == 0) = false := beq_eq_false_iff_ne.mpr c54
                        have c54b1 : ((rd y217 x126_2) != 0) = true := bne_iff_ne.mpr c54
                        obtain rfl := Option.some.inj H
                        have p220 : 0 ≤ (x126_2 : Int) := of_decide_eq_true (by first | (with_reducible assumption) | assumption)
                        have q220 : x126_2 < (y217.length : Int) := of_decide_eq_true (by first | (with_reducible assumption) | assumption)
                        obtain ⟨ad220, e220, hx220_0⟩ := Kd.at_int (Kd.R_reads' HO_124.out).2.2 x126_2 p220 q220
                        cases e220
                        replace p220 := eq_true p220
                        replace q220 := eq_true q220
                        go_wp2
                        go_ret
                        exact ⟨by first | rfl | (simp [errW_none, errW_some] <;> rfl) | (simp only [← hji21, ← hji22, ← hji23, ← hji24, ← hji30, ← hji32]; first | rfl | (simp [errW_none, errW_some] <;> rfl)) | (simp [*, errW_none, errW_some] <;> rfl), by repeat (first | (with_reducible first | exact HB.out | apply below_alloc | apply pw_below_drewN | apply below_drew1 | refine below_set ?_ GE201.out) | exact HB.out)⟩
                    · rw [if_neg c53] at H
                      exact absurd H (by simp)
                  · rw [if_neg c52] at H
                    exact absurd H (by simp)
                · rw [if_neg c51] at H
                  have c51b0 : decide (x126_2 < (y217.length : Int)) = false := decide_eq_false c51
                  clear c51
                  replace H := Option.bind_eq_some_iff.mp H
                  obtain ⟨t221, A550, H⟩ := H
                  replace H : (if t221 = true then (if t213 = x202000_9 then (if t215 = x202001_9 then (if ji24 < ji22 then (if ji24 > ji22 then ((fix_Clamp.f t209).bind fun t222 => (some (t209 == t222))) else (if t211 ≤ t207 then ((fix_Clamp.f t209).bind fun t223 => (some (t209 == t223))) else (some false))) else (if t211 ≥ t207 then (if ji24 > ji22 then ((fix_Clamp.f t209).bind fun t224 => (some (t209 == t224))) else (if t211 ≤ t207 then ((fix_Clamp.f t209).bind fun t225 => (some (t209 == t225))) else (some false))) else (some false))) else (some false)) else (some false)) else (some false)) = some r := H
                  have A55 := Aside0.mk A550
                  clear A550
                  by_cases c56 : t221 = true
                  · subst c56
                    have H1 : (if t213 = x202000_9 then (if t215 = x202001_9 then (if ji24 < ji22 then (if ji24 > ji22 then ((fix_Clamp.f t209).bind fun t222 => (some (t209 == t222))) else (if t211 ≤ t207 then ((fix_Clamp.f t209).bind fun t223 => (some (t209 == t223))) else (some false))) else (if t211 ≥ t207 then (if ji24 > ji22 then ((fix_Clamp.f t209).bind fun t224 => (some (t209 == t224))) else (if t211 ≤ t207 then ((fix_Clamp.f t209).bind fun t225 => (some (t209 == t225))) else (some false))) else (some false))) else (some false)) else (some false)) = some r := by rw [if_pos rfl] at H; exact H
                    clear H
                    have H := H1
                    clear H1
                    by_cases c57 : t213 = x202000_9
                    · rw [if_pos c57] at H
                      have c57b0 : (t213 == x202000_9) = true := beq_iff_eq.mpr c57
                      have c57b1 : (t213 != x202000_9) = false := bne_eq_false_iff_eq.mpr c57
                      clear c57
                      by_cases c58 : t215 = x202001_9
                      · rw [if_pos c58] at H
                        have c58b0 : (t215 == x202001_9) = true := beq_iff_eq.mpr c58
                        have c58b1 : (t215 != x202001_9) = false := bne_eq_false_iff_eq.mpr c58
                        clear c58
                        by_cases c59 : ji24 < ji22
                        · rw [if_pos c59] at H
                          have c59b0 : decide (ji24 < ji22) = true := decide_eq_true c59
                          clear c59
                          by_cases c60 : ji24 > ji22
                          · rw [if_pos c60] at H
                            have c60b0 : decide (ji22 < ji24) = true := decide_eq_true c60
                            clear c60
                            replace H := Option.bind_eq_some_iff.mp H
                            obtain ⟨t222, A610, H⟩ := H
                            replace H : (some (t209 == t222)) = some r := H
                            have A61 := Aside0.mk A610
                            clear A610
                            obtain rfl := Option.some.inj H
                            go_wp2_with (first | ((with_reducible refine gate_callee (f := 33) rfl ?_); refine goesL_ (some 136) rfl rfl Try.func33 (by kernel_rfl) rfl #[.int .i64 t209, .int .i64 ji22, .int .i64 t205] rfl (by (try simp only [List.map_toArray, List.map_cons, List.map_nil]); first | done | (simp only [hji22]; rfl) | rfl | (simp only [List.length_drop, List.length_take]; rfl)) ?_; (with_reducible refine (tourkeep1_near.calls t209 ji22 t205 true _ A55.out).mono ?_); rintro e w' ⟨rfl, ⟨nd, rfl⟩⟩; refine ⟨_, rfl, ?_⟩; have hcz62_0 : wr.cell? ⟨gb201, 0, none⟩ = some (.int .i64 x202000_9) := (blk_cell BK201.out 0).trans rfl; have hcz62_1 : wr.cell? ⟨gb201, 1, none⟩ = some (.int .i64 x202001_9) := (blk_cell BK201.out 1).trans rfl; have hfz62_0 := blk_frozen BK201.out 0; have hfz62_1 := blk_frozen BK201.out 1) | (go_at_call 34; (with_reducible refine (fix_Clamp.calls t209 t222 _ A61.out).mono ?_); rintro e w63 ⟨rfl, hb⟩; have n0_ := Aside0.mk (Kd.R_below (by (with_reducible repeat (first | apply Kd.R_alloc | apply Kd.R_drewN | apply Kd.R_drew)); exact HO_124.out) hb); have n1_ := Aside0.mk (blk_below (g := gb201) (o := .cells #[.int .i64 x202000_9, .int .i64 x202001_9] 52 (0, 0)) (by (with_reducible repeat (first | refine blk_drewN ?_ _ | refine blk_drew ?_ | refine blk_alloc ?_ _)); exact BK201.out) hb); have n2_ := Aside0.mk (below_step (by repeat (first | (with_reducible first | exact HB.out | apply below_alloc | apply pw_below_drewN | apply below_drew1 | refine below_set ?_ GE201.out) | exact HB.out)) hb); clear HO_124; clear BK201; clear HB; have HO_124 := n0_; have BK201 := n1_; have HB := n2_; clear n0_ n1_ n2_; (try clear hb); (try clear hb2); (try clear hk); (try clear hi)))
                            go_ret
                            exact ⟨by first | rfl | (simp [errW_none, errW_some] <;> rfl) | (simp only [← hji21, ← hji22, ← hji23, ← hji24, ← hji30, ← hji32]; first | rfl | (simp [errW_none, errW_some] <;> rfl)) | (simp [*, errW_none, errW_some] <;> rfl), by repeat (first | (with_reducible first | exact HB.out | apply below_alloc | apply pw_below_drewN | apply below_drew1 | refine below_set ?_ GE201.out) | exact HB.out)⟩
                          · rw [if_neg c60] at H
                            have c60b0 : decide (ji22 < ji24) = false := decide_eq_false c60
                            clear c60
                            by_cases c64 : t211 ≤ t207
                            · rw [if_pos c64] at H
                              have c64b0 : decide (t211 ≤ t207) = true := decide_eq_true c64
                              clear c64
                              replace H := Option.bind_eq_some_iff.mp H
                              obtain ⟨t223, A650, H⟩ := H
                              replace H : (some (t209 == t223)) = some r := H
                              have A65 := Aside0.mk A650
                              clear A650
                              obtain rfl := Option.some.inj H
                              go_wp2_with (first | ((with_reducible refine gate_callee (f := 33) rfl ?_); refine goesL_ (some 136) rfl rfl Try.func33 (by kernel_rfl) rfl #[.int .i64 t209, .int .i64 ji22, .int .i64 t205] rfl (by (try simp only [List.map_toArray, List.map_cons, List.map_nil]); first | done | (simp only [hji22]; rfl) | rfl | (simp only [List.length_drop, List.length_take]; rfl)) ?_; (with_reducible refine (tourkeep1_near.calls t209 ji22 t205 true _ A55.out).mono ?_); rintro e w' ⟨rfl, ⟨nd, rfl⟩⟩; refine ⟨_, rfl, ?_⟩; have hcz66_0 : wr.cell? ⟨gb201, 0, none⟩ = some (.int .i64 x202000_9) := (blk_cell BK201.out 0).trans rfl; have hcz66_1 : wr.cell? ⟨gb201, 1, none⟩ = some (.int .i64 x202001_9) := (blk_cell BK201.out 1).trans rfl; have hfz66_0 := blk_frozen BK201.out 0; have hfz66_1 := blk_frozen BK201.out 1) | (go_at_call 34; (with_reducible refine (fix_Clamp.calls t209 t223 _ A65.out).mono ?_); rintro e w67 ⟨rfl, hb⟩; have n0_ := Aside0.mk (Kd.R_below (by (with_reducible repeat (first | apply Kd.R_alloc | apply Kd.R_drewN | apply Kd.R_drew)); exact HO_124.out) hb); have n1_ := Aside0.mk (blk_below (g := gb201) (o := .cells #[.int .i64 x202000_9, .int .i64 x202001_9] 52 (0, 0)) (by (with_reducible repeat (first | refine blk_drewN ?_ _ | refine blk_drew ?_ | refine blk_alloc ?_ _)); exact BK201.out) hb); have n2_ := Aside0.mk (below_step (by repeat (first | (with_reducible first | exact HB.out | apply below_alloc | apply pw_below_drewN | apply below_drew1 | refine below_set ?_ GE201.out) | exact HB.out)) hb); clear HO_124; clear BK201; clear HB; have HO_124 := n0_; have BK201 := n1_; have HB := n2_; clear n0_ n1_ n2_; (try clear hb); (try clear hb2); (try clear hk); (try clear hi)))
                              go_ret
                              exact ⟨by first | rfl | (simp [errW_none, errW_some] <;> rfl) | (simp only [← hji21, ← hji22, ← hji23, ← hji24, ← hji30, ← hji32]; first | rfl | (simp [errW_none, errW_some] <;> rfl)) | (simp [*, errW_none, errW_some] <;> rfl), by repeat (first | (with_reducible first | exact HB.out | apply below_alloc | apply pw_below_drewN | apply below_drew1 | refine below_set ?_ GE201.out) | exact HB.out)⟩
                            · rw [if_neg c64] at H
                              have c64b0 : decide (t211 ≤ t207) = false := decide_eq_false c64
                              clear c64
                              obtain rfl := Option.some.inj H
                              go_wp2_with (first | ((with_reducible refine gate_callee (f := 33) rfl ?_); refine goesL_ (some 136) rfl rfl Try.func33 (by kernel_rfl) rfl #[.int .i64 t209, .int .i64 ji22, .int .i64 t205] rfl (by (try simp only [List.map_toArray, List.map_cons, List.map_nil]); first | done | (simp only [hji22]; rfl) | rfl | (simp only [List.length_drop, List.length_take]; rfl)) ?_; (with_reducible refine (tourkeep1_near.calls t209 ji22 t205 true _ A55.out).mono ?_); rintro e w' ⟨rfl, ⟨nd, rfl⟩⟩; refine ⟨_, rfl, ?_⟩; have hcz68_0 : wr.cell? ⟨gb201, 0, none⟩ = some (.int .i64 x202000_9) := (blk_cell BK201.out 0).trans rfl; have hcz68_1 : wr.cell? ⟨gb201, 1, none⟩ = some (.int .i64 x202001_9) := (blk_cell BK201.out 1).trans rfl; have hfz68_0 := blk_frozen BK201.out 0; have hfz68_1 := blk_frozen BK201.out 1))
                              go_ret
                              exact ⟨by first | rfl | (simp [errW_none, errW_some] <;> rfl) | (simp only [← hji21, ← hji22, ← hji23, ← hji24, ← hji30, ← hji32]; first | rfl | (simp [errW_none, errW_some] <;> rfl)) | (simp [*, errW_none, errW_some] <;> rfl), by repeat (first | (with_reducible first | exact HB.out | apply below_alloc | apply pw_below_drewN | apply below_drew1 | refine below_set ?_ GE201.out) | exact HB.out)⟩
                        · rw [if_neg c59] at H
                          have c59b0 : decide (ji24 < ji22) = false := decide_eq_false c59
                          clear c59
                          by_cases c69 : t211 ≥ t207
                          · rw [if_pos c69] at H
                            have c69b0 : decide (t207 ≤ t211) = true := decide_eq_true c69
                            clear c69
                            by_cases c70 : ji24 > ji22
                            · rw [if_pos c70] at H
                              have c70b0 : decide (ji22 < ji24) = true := decide_eq_true c70
                              clear c70
                              replace H := Option.bind_eq_some_iff.mp H
                              obtain ⟨t224, A710, H⟩ := H
                              replace H : (some (t209 == t224)) = some r := H
                              have A71 := Aside0.mk A710
                              clear A710
                              obtain rfl := Option.some.inj H
                              go_wp2_with (first | ((with_reducible refine gate_callee (f := 33) rfl ?_); refine goesL_ (some 136) rfl rfl Try.func33 (by kernel_rfl) rfl #[.int .i64 t209, .int .i64 ji22, .int .i64 t205] rfl (by (try simp only [List.map_toArray, List.map_cons, List.map_nil]); first | done | (simp only [hji22]; rfl) | rfl | (simp only [List.length_drop, List.length_take]; rfl)) ?_; (with_reducible refine (tourkeep1_near.calls t209 ji22 t205 true _ A55.out).mono ?_); rintro e w' ⟨rfl, ⟨nd, rfl⟩⟩; refine ⟨_, rfl, ?_⟩; have hcz72_0 : wr.cell? ⟨gb201, 0, none⟩ = some (.int .i64 x202000_9) := (blk_cell BK201.out 0).trans rfl; have hcz72_1 : wr.cell? ⟨gb201, 1, none⟩ = some (.int .i64 x202001_9) := (blk_cell BK201.out 1).trans rfl; have hfz72_0 := blk_frozen BK201.out 0; have hfz72_1 := blk_frozen BK201.out 1) | (go_at_call 34; (with_reducible refine (fix_Clamp.calls t209 t224 _ A71.out).mono ?_); rintro e w73 ⟨rfl, hb⟩; have n0_ := Aside0.mk (Kd.R_below (by (with_reducible repeat (first | apply Kd.R_alloc | apply Kd.R_drewN | apply Kd.R_drew)); exact HO_124.out) hb); have n1_ := Aside0.mk (blk_below (g := gb201) (o := .cells #[.int .i64 x202000_9, .int .i64 x202001_9] 52 (0, 0)) (by (with_reducible repeat (first | refine blk_drewN ?_ _ | refine blk_drew ?_ | refine blk_alloc ?_ _)); exact BK201.out) hb); have n2_ := Aside0.mk (below_step (by repeat (first | (with_reducible first | exact HB.out | apply below_alloc | apply pw_below_drewN | apply below_drew1 | refine below_set ?_ GE201.out) | exact HB.out)) hb); clear HO_124; clear BK201; clear HB; have HO_124 := n0_; have BK201 := n1_; have HB := n2_; clear n0_ n1_ n2_; (try clear hb); (try clear hb2); (try clear hk); (try clear hi)))
                              go_ret
                              exact ⟨by first | rfl | (simp [errW_none, errW_some] <;> rfl) | (simp only [← hji21, ← hji22, ← hji23, ← hji24, ← hji30, ← hji32]; first | rfl | (simp [errW_none, errW_some] <;> rfl)) | (simp [*, errW_none, errW_some] <;> rfl), by repeat (first | (with_reducible first | exact HB.out | apply below_alloc | apply pw_below_drewN | apply below_drew1 | refine below_set ?_ GE201.out) | exact HB.out)⟩
                            · rw [if_neg c70] at H
                              have c70b0 : decide (ji22 < ji24) = false := decide_eq_false c70
                              clear c70
                              by_cases c74 : t211 ≤ t207
                              · rw [if_pos c74] at H
                                have c74b0 : decide (t211 ≤ t207) = true := decide_eq_true c74
                                clear c74
                                replace H := Option.bind_eq_some_iff.mp H
                                obtain ⟨t225, A750, H⟩ := H
                                replace H : (some (t209 == t225)) = some r := H
                                have A75 := Aside0.mk A750
                                clear A750
                                obtain rfl := Option.some.inj H
                                go_wp2_with (first | ((with_reducible refine gate_callee (f := 33) rfl ?_); refine goesL_ (some 136) rfl rfl Try.func33 (by kernel_rfl) rfl #[.int .i64 t209, .int .i64 ji22, .int .i64 t205] rfl (by (try simp only [List.map_toArray, List.map_cons, List.map_nil]); first | done | (simp only [hji22]; rfl) | rfl | (simp only [List.length_drop, List.length_take]; rfl)) ?_; (with_reducible refine (tourkeep1_near.calls t209 ji22 t205 true _ A55.out).mono ?_); rintro e w' ⟨rfl, ⟨nd, rfl⟩⟩; refine ⟨_, rfl, ?_⟩; have hcz76_0 : wr.cell? ⟨gb201, 0, none⟩ = some (.int .i64 x202000_9) := (blk_cell BK201.out 0).trans rfl; have hcz76_1 : wr.cell? ⟨gb201, 1, none⟩ = some (.int .i64 x202001_9) := (blk_cell BK201.out 1).trans rfl; have hfz76_0 := blk_frozen BK201.out 0; have hfz76_1 := blk_frozen BK201.out 1) | (go_at_call 34; (with_reducible refine (fix_Clamp.calls t209 t225 _ A75.out).mono ?_); rintro e w77 ⟨rfl, hb⟩; have n0_ := Aside0.mk (Kd.R_below (by (with_reducible repeat (first | apply Kd.R_alloc | apply Kd.R_drewN | apply Kd.R_drew)); exact HO_124.out) hb); have n1_ := Aside0.mk (blk_below (g := gb201) (o := .cells #[.int .i64 x202000_9, .int .i64 x202001_9] 52 (0, 0)) (by (with_reducible repeat (first | refine blk_drewN ?_ _ | refine blk_drew ?_ | refine blk_alloc ?_ _)); exact BK201.out) hb); have n2_ := Aside0.mk (below_step (by repeat (first | (with_reducible first | exact HB.out | apply below_alloc | apply pw_below_drewN | apply below_drew1 | refine below_set ?_ GE201.out) | exact HB.out)) hb); clear HO_124; clear BK201; clear HB; have HO_124 := n0_; have BK201 := n1_; have HB := n2_; clear n0_ n1_ n2_; (try clear hb); (try clear hb2); (try clear hk); (try clear hi)))
                                go_ret
                                exact ⟨by first | rfl | (simp [errW_none, errW_some] <;> rfl) | (simp only [← hji21, ← hji22, ← hji23, ← hji24, ← hji30, ← hji32]; first | rfl | (simp [errW_none, errW_some] <;> rfl)) | (simp [*, errW_none, errW_some] <;> rfl), by repeat (first | (with_reducible first | exact HB.out | apply below_alloc | apply pw_below_drewN | apply below_drew1 | refine below_set ?_ GE201.out) | exact HB.out)⟩
                              · rw [if_neg c74] at H
                                have c74b0 : decide (t211 ≤ t207) = false := decide_eq_false c74
                                clear c74
                                obtain rfl := Option.some.inj H
                                go_wp2_with (first | ((with_reducible refine gate_callee (f := 33) rfl ?_); refine goesL_ (some 136) rfl rfl Try.func33 (by kernel_rfl) rfl #[.int .i64 t209, .int .i64 ji22, .int .i64 t205] rfl (by (try simp only [List.map_toArray, List.map_cons, List.map_nil]); first | done | (simp only [hji22]; rfl) | rfl | (simp only [List.length_drop, List.length_take]; rfl)) ?_; (with_reducible refine (tourkeep1_near.calls t209 ji22 t205 true _ A55.out).mono ?_); rintro e w' ⟨rfl, ⟨nd, rfl⟩⟩; refine ⟨_, rfl, ?_⟩; have hcz78_0 : wr.cell? ⟨gb201, 0, none⟩ = some (.int .i64 x202000_9) := (blk_cell BK201.out 0).trans rfl; have hcz78_1 : wr.cell? ⟨gb201, 1, none⟩ = some (.int .i64 x202001_9) := (blk_cell BK201.out 1).trans rfl; have hfz78_0 := blk_frozen BK201.out 0; have hfz78_1 := blk_frozen BK201.out 1))
                                go_ret
                                exact ⟨by first | rfl | (simp [errW_none, errW_some] <;> rfl) | (simp only [← hji21, ← hji22, ← hji23, ← hji24, ← hji30, ← hji32]; first | rfl | (simp [errW_none, errW_some] <;> rfl)) | (simp [*, errW_none, errW_some] <;> rfl), by repeat (first | (with_reducible first | exact HB.out | apply below_alloc | apply pw_below_drewN | apply below_drew1 | refine below_set ?_ GE201.out) | exact HB.out)⟩
                          · rw [if_neg c69] at H
                            have c69b0 : decide (t207 ≤ t211) = false := decide_eq_false c69
                            clear c69
                            obtain rfl := Option.some.inj H
                            go_wp2_with (first | ((with_reducible refine gate_callee (f := 33) rfl ?_); refine goesL_ (some 136) rfl rfl Try.func33 (by kernel_rfl) rfl #[.int .i64 t209, .int .i64 ji22, .int .i64 t205] rfl (by (try simp only [List.map_toArray, List.map_cons, List.map_nil]); first | done | (simp only [hji22]; rfl) | rfl | (simp only [List.length_drop, List.length_take]; rfl)) ?_; (with_reducible refine (tourkeep1_near.calls t209 ji22 t205 true _ A55.out).mono ?_); rintro e w' ⟨rfl, ⟨nd, rfl⟩⟩; refine ⟨_, rfl, ?_⟩; have hcz79_0 : wr.cell? ⟨gb201, 0, none⟩ = some (.int .i64 x202000_9) := (blk_cell BK201.out 0).trans rfl; have hcz79_1 : wr.cell? ⟨gb201, 1, none⟩ = some (.int .i64 x202001_9) := (blk_cell BK201.out 1).trans rfl; have hfz79_0 := blk_frozen BK201.out 0; have hfz79_1 := blk_frozen BK201.out 1))
                            go_ret
                            exact ⟨by first | rfl | (simp [errW_none, errW_some] <;> rfl) | (simp only [← hji21, ← hji22, ← hji23, ← hji24, ← hji30, ← hji32]; first | rfl | (simp [errW_none, errW_some] <;> rfl)) | (simp [*, errW_none, errW_some] <;> rfl), by repeat (first | (with_reducible first | exact HB.out | apply below_alloc | apply pw_below_drewN | apply below_drew1 | refine below_set ?_ GE201.out) | exact HB.out)⟩
                      · rw [if_neg c58] at H
                        have c58b0 : (t215 == x202001_9) = false := beq_eq_false_iff_ne.mpr c58
                        have c58b1 : (t215 != x202001_9) = true := bne_iff_ne.mpr c58
                        obtain rfl := Option.some.inj H
                        go_wp2_with (first | ((with_reducible refine gate_callee (f := 33) rfl ?_); refine goesL_ (some 136) rfl rfl Try.func33 (by kernel_rfl) rfl #[.int .i64 t209, .int .i64 ji22, .int .i64 t205] rfl (by (try simp only [List.map_toArray, List.map_cons, List.map_nil]); first | done | (simp only [hji22]; rfl) | rfl | (simp only [List.length_drop, List.length_take]; rfl)) ?_; (with_reducible refine (tourkeep1_near.calls t209 ji22 t205 true _ A55.out).mono ?_); rintro e w' ⟨rfl, ⟨nd, rfl⟩⟩; refine ⟨_, rfl, ?_⟩; have hcz80_0 : wr.cell? ⟨gb201, 0, none⟩ = some (.int .i64 x202000_9) := (blk_cell BK201.out 0).trans rfl; have hcz80_1 : wr.cell? ⟨gb201, 1, none⟩ = some (.int .i64 x202001_9) := (blk_cell BK201.out 1).trans rfl; have hfz80_0 := blk_frozen BK201.out 0; have hfz80_1 := blk_frozen BK201.out 1))
                        go_ret
                        exact ⟨by first | rfl | (simp [errW_none, errW_some] <;> rfl) | (simp only [← hji21, ← hji22, ← hji23, ← hji24, ← hji30, ← hji32]; first | rfl | (simp [errW_none, errW_some] <;> rfl)) | (simp [*, errW_none, errW_some] <;> rfl), by repeat (first | (with_reducible first | exact HB.out | apply below_alloc | apply pw_below_drewN | apply below_drew1 | refine below_set ?_ GE201.out) | exact HB.out)⟩
                    · rw [if_neg c57] at H
                      have c57b0 : (t213 == x202000_9) = false := beq_eq_false_iff_ne.mpr c57
                      have c57b1 : (t213 != x202000_9) = true := bne_iff_ne.mpr c57
                      obtain rfl := Option.some.inj H
                      go_wp2_with (first | ((with_reducible refine gate_callee (f := 33) rfl ?_); refine goesL_ (some 136) rfl rfl Try.func33 (by kernel_rfl) rfl #[.int .i64 t209, .int .i64 ji22, .int .i64 t205] rfl (by (try simp only [List.map_toArray, List.map_cons, List.map_nil]); first | done | (simp only [hji22]; rfl) | rfl | (simp only [List.length_drop, List.length_take]; rfl)) ?_; (with_reducible refine (tourkeep1_near.calls t209 ji22 t205 true _ A55.out).mono ?_); rintro e w' ⟨rfl, ⟨nd, rfl⟩⟩; refine ⟨_, rfl, ?_⟩; have hcz81_0 : wr.cell? ⟨gb201, 0, none⟩ = some (.int .i64 x202000_9) := (blk_cell BK201.out 0).trans rfl; have hcz81_1 : wr.cell? ⟨gb201, 1, none⟩ = some (.int .i64 x202001_9) := (blk_cell BK201.out 1).trans rfl; have hfz81_0 := blk_frozen BK201.out 0; have hfz81_1 := blk_frozen BK201.out 1))
                      go_ret
                      exact ⟨by first | rfl | (simp [errW_none, errW_some] <;> rfl) | (simp only [← hji21, ← hji22, ← hji23, ← hji24, ← hji30, ← hji32]; first | rfl | (simp [errW_none, errW_some] <;> rfl)) | (simp [*, errW_none, errW_some] <;> rfl), by repeat (first | (with_reducible first | exact HB.out | apply below_alloc | apply pw_below_drewN | apply below_drew1 | refine below_set ?_ GE201.out) | exact HB.out)⟩
                  · replace c56 := Bool.eq_false_iff.mpr c56
                    subst c56
                    have H1 : (some false) = some r := by rw [if_neg (show ¬ (false = true) by decide)] at H; exact H
                    clear H
                    have H := H1
                    clear H1
                    obtain rfl := Option.some.inj H
                    go_wp2_with (first | ((with_reducible refine gate_callee (f := 33) rfl ?_); refine goesL_ (some 136) rfl rfl Try.func33 (by kernel_rfl) rfl #[.int .i64 t209, .int .i64 ji22, .int .i64 t205] rfl (by (try simp only [List.map_toArray, List.map_cons, List.map_nil]); first | done | (simp only [hji22]; rfl) | rfl | (simp only [List.length_drop, List.length_take]; rfl)) ?_; (with_reducible refine (tourkeep1_near.calls t209 ji22 t205 false _ A55.out).mono ?_); rintro e w' ⟨rfl, ⟨nd, rfl⟩⟩; refine ⟨_, rfl, ?_⟩))
                    go_ret
                    exact ⟨by first | rfl | (simp [errW_none, errW_some] <;> rfl) | (simp only [← hji21, ← hji22, ← hji23, ← hji24, ← hji30, ← hji32]; first | rfl | (simp [errW_none, errW_some] <;> rfl)) | (simp [*, errW_none, errW_some] <;> rfl), by repeat (first | (with_reducible first | exact HB.out | apply below_alloc | apply pw_below_drewN | apply below_drew1 | refine below_set ?_ GE201.out) | exact HB.out)⟩
          · rw [if_neg c31] at H
            exact absurd H (by simp)
  · replace c7 := Bool.eq_false_iff.mpr c7
    subst c7
    have H1 : (some false) = some r := by rw [if_neg (show ¬ (false = true) by decide)] at H; exact H
    clear H
    have H := H1
    clear H1
    obtain rfl := Option.some.inj H
    go_enter Try.func7, Try.ntmps7
    go_wp2_with (first | ((with_reducible refine gate_callee (f := 28) rfl ?_); refine goesL_ (some 28) rfl rfl Try.func28 (by kernel_rfl) rfl #[] rfl (by (try simp only [List.map_toArray, List.map_cons, List.map_nil]); first | done | rfl | (simp only [List.length_drop, List.length_take]; rfl)) ?_; (with_reducible refine (tourkeep1_quantBegun.calls  false _ A6.out).mono ?_); rintro e w82 ⟨rfl, hb⟩; refine ⟨_, rfl, ?_⟩; have n0_ := Aside0.mk (below_step (by repeat (first | (with_reducible first | exact HB.out | apply below_alloc | apply pw_below_drewN | apply below_drew1) | exact HB.out)) hb); clear HB; have HB := n0_; clear n0_; (try clear hb); (try clear hb2); (try clear hk); (try clear hi)))
    go_ret
    exact ⟨by first | rfl | (simp [errW_none, errW_some] <;> rfl) | (simp [*, errW_none, errW_some] <;> rfl), by repeat (first | (with_reducible first | exact HB.out | apply below_alloc | apply pw_below_drewN | apply below_drew1) | exact HB.out)⟩

/-- THE ONE PURE STATEMENT of tourkeep1_QuantBounds: yours. -/
def tourkeep1_QuantBounds.Pure : Prop := ∀ (a0 : Int) (a1 : Int) (a2 : Int) (a3 : Int) (a4 : Int), (Lit.int .i64 a0).wf = true → (Lit.int .i64 a1).wf = true → (Lit.int .i64 a2).wf = true → (Lit.int .i64 a3).wf = true → (Lit.int .i64 a4).wf = true → ∃ k, tourkeep1_QuantBounds.f k a0 a1 a2 a3 a4 = some true
theorem tourkeep1_QuantBounds.walk (P : tourkeep1_QuantBounds.Pure) (a0 : Int) (a1 : Int) (a2 : Int) (a3 : Int) (a4 : Int) (w : World) (w0 : (Lit.int .i64 a0).wf = true) (w1 : (Lit.int .i64 a1).wf = true) (w2 : (Lit.int .i64 a2).wf = true) (w3 : (Lit.int .i64 a3).wf = true) (w4 : (Lit.int .i64 a4).wf = true) :
    Calls Try.prog 7 #[.int .i64 a0, .int .i64 a1, .int .i64 a2, .int .i64 a3, .int .i64 a4] w fun e w' => e = .returned (.bool true) ∧ Below w.heap.size w w' := by
  obtain ⟨k, h⟩ := P a0 a1 a2 a3 a4 w0 w1 w2 w3 w4
  refine (tourkeep1_QuantBounds.calls k a0 a1 a2 a3 a4 true w h).mono ?_
  rintro e w' ⟨rfl, hd⟩
  exact ⟨rfl, hd⟩

end Go.Proofs.Ytggfiacnkbcjbaa.P
