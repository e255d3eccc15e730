/- Functions of this seat in plain Lean and their contracts, written by a turned copy of the kit's print (turns: wip/pr/make.py of this session). No condition. -/
import Derived.Test.YtngibolpbdncjaaPAllx0
import Derived.Test.YtngibolpbdncjaaPAllx2
import Derived.Test.YtngibolpbdncjaaPAllx8
import Derived.Test.YtngibolpbdncjaaPAllx11
import Derived.Test.YtngibolpbdncjaaPAllx15
import Derived.Test.YtngibolpbdncjaaPAllx17
import Derived.Test.YtngibolpbdncjaaPAllx20
namespace Go.Proofs.Ytngibolpbdncjaa.P
open Go.RowKit Go.Proofs.YtngibolpbdncjaaW.PrintWords Go.Proofs.YtngibolpbdncjaaW.PrintLast Go.Proofs.YtngibolpbdncjaaW.PrintMore
attribute [local go_sem] max2_int min2_int max_two min_two max_three min_three max_four min_four   -- for this text's walks alone
attribute [local go_sem] slc46 bld46
set_option linter.unusedVariables false
set_option linter.unusedSimpArgs false

/-! ### tourkeep1_QuatPlane: function 11 -/
def tourkeep1_QuatPlane.f (k : Nat) (a0 : Int) (a1 : Int) (a2 : Int) : Option (Bool) := (tourkeep1_quatBegun.f k).bind fun t320 => (if t320 = true then ((tourkeep1_number.f a0 16777216).bind fun t321 => ((tourkeep1_number.f a1 16777216).bind fun t322 => ((tourmake_Below.f a2 65536).bind fun t324 => ((vec_Turn.f k t321 t322 (wrap64 (2 * t324))).bind fun bt325 => ((quat_Of.f k 0 0 1 (wrap64 (2 * t324))).bind fun bt328 => ((quat_Turn.f k bt328.1 bt328.2.1 bt328.2.2.1 bt328.2.2.2 t321 t322 5).bind fun bt332 => ((vec_Len.f k t321 t322).bind fun t336 => ((tourkeep1_near.f bt332.1 bt325.1 (wrap64 ((wrap64 (Int.tdiv t336 500)) + 16))).bind fun t337 => (if t337 = true then ((tourkeep1_near.f bt332.2.1 bt325.2 (wrap64 ((wrap64 (Int.tdiv t336 500)) + 16))).bind fun t338 => (if t338 = true then ((tourkeep1_near.f bt332.2.2 5 4).bind fun t339 => (some t339)) else (none))) else (none)))))))))) else (none))
theorem tourkeep1_QuatPlane.mono : ∀ a0 a1 a2 k, LeO (tourkeep1_QuatPlane.f k a0 a1 a2) (tourkeep1_QuatPlane.f (k + 1) a0 a1 a2) := by
  intro a0 a1 a2 k
  unfold tourkeep1_QuatPlane.f
  repeat' first
      | (with_reducible exact quat_Of.mono _ _ _ _ _)
      | (with_reducible exact quat_Turn.mono _ _ _ _ _ _ _ _)
      | (with_reducible exact tourkeep1_quatBegun.mono _)
      | (with_reducible exact vec_Len.mono _ _ _)
      | (with_reducible exact vec_Turn.mono _ _ _ _)
      | (with_reducible exact LeO.refl _)
      | (with_reducible exact LeO.none _)
      | (with_reducible refine LeO.ite ?_ ?_)
      | (with_reducible refine LeO.bind ?_ (fun _ => ?_))
      | exact quat_Of.mono _ _ _ _ _
      | exact quat_Turn.mono _ _ _ _ _ _ _ _
      | exact tourkeep1_quatBegun.mono _
      | exact vec_Len.mono _ _ _
      | exact vec_Turn.mono _ _ _ _
      | exact LeO.none _
      | refine LeO.ite ?_ ?_
      | refine LeO.bind ?_ (fun _ => ?_)
def tourkeep1_QuatPlane.T6 : Bool × List (List Nat × List Nat) := (true, [([], []), ([], []), ([0, 1], [0, 1]), ([], []), ([3], [3]), ([], []), ([5], [5]), ([4, 6], [4, 6]), ([2, 7, 2], [2, 7]), ([], []), ([9, 8, 8, 0, 1, 2, 3, 4, 5, 6, 7, 8, 9], [8, 9])])
def tourkeep1_QuatPlane.B6 : List Nat := [0, 0, 3, 0, 8, 0, 32, 120, 255, 0, 1023]
theorem tourkeep1_QuatPlane.tab6 : rtab .any (opsOf Try.f11 6) = tourkeep1_QuatPlane.T6 := by kernel_rfl
theorem tourkeep1_QuatPlane.bits6 : waitsOk tourkeep1_QuatPlane.T6.2 tourkeep1_QuatPlane.B6 = true := by kernel_rfl
set_option maxHeartbeats 8000000 in
set_option maxRecDepth 100000 in
theorem tourkeep1_QuatPlane.calls (k : Nat) (a0 : Int) (a1 : Int) (a2 : Int) (r : Bool) (w : World) (h : tourkeep1_QuatPlane.f k a0 a1 a2 = some r) :
    Calls Try.prog 11 #[.int .i64 a0, .int .i64 a1, .int .i64 a2] w fun e w' => e = .returned (.bool r) ∧ Below w.heap.size w w' := by
  have hu24 := Try.underlying24
  have hu46 := Try.underlying46
  have HB := Aside0.mk (Below.refl w.heap.size w)
  have H : ((tourkeep1_quatBegun.f k).bind fun t320 => (if t320 = true then ((tourkeep1_number.f a0 16777216).bind fun t321 => ((tourkeep1_number.f a1 16777216).bind fun t322 => ((tourmake_Below.f a2 65536).bind fun t324 => ((vec_Turn.f k t321 t322 (wrap64 (2 * t324))).bind fun bt325 => ((quat_Of.f k 0 0 1 (wrap64 (2 * t324))).bind fun bt328 => ((quat_Turn.f k bt328.1 bt328.2.1 bt328.2.2.1 bt328.2.2.2 t321 t322 5).bind fun bt332 => ((vec_Len.f k t321 t322).bind fun t336 => ((tourkeep1_near.f bt332.1 bt325.1 (wrap64 ((wrap64 (Int.tdiv t336 500)) + 16))).bind fun t337 => (if t337 = true then ((tourkeep1_near.f bt332.2.1 bt325.2 (wrap64 ((wrap64 (Int.tdiv t336 500)) + 16))).bind fun t338 => (if t338 = true then ((tourkeep1_near.f bt332.2.2 5 4).bind fun t339 => (some t339)) else (none))) else (none)))))))))) else (none))) = some r := h
  clear h
  replace H := Option.bind_eq_some_iff.mp H
  obtain ⟨t320, A40, H⟩ := H
  replace H : (if t320 = true then ((tourkeep1_number.f a0 16777216).bind fun t321 => ((tourkeep1_number.f a1 16777216).bind fun t322 => ((tourmake_Below.f a2 65536).bind fun t324 => ((vec_Turn.f k t321 t322 (wrap64 (2 * t324))).bind fun bt325 => ((quat_Of.f k 0 0 1 (wrap64 (2 * t324))).bind fun bt328 => ((quat_Turn.f k bt328.1 bt328.2.1 bt328.2.2.1 bt328.2.2.2 t321 t322 5).bind fun bt332 => ((vec_Len.f k t321 t322).bind fun t336 => ((tourkeep1_near.f bt332.1 bt325.1 (wrap64 ((wrap64 (Int.tdiv t336 500)) + 16))).bind fun t337 => (if t337 = true then ((tourkeep1_near.f bt332.2.1 bt325.2 (wrap64 ((wrap64 (Int.tdiv t336 500)) + 16))).bind fun t338 => (if t338 = true then ((tourkeep1_near.f bt332.2.2 5 4).bind fun t339 => (some t339)) else (none))) else (none)))))))))) else (none)) = some r := H
  have A4 := Aside0.mk A40
  clear A40
  by_cases c5 : t320 = true
  · subst c5
    have H1 : ((tourkeep1_number.f a0 16777216).bind fun t321 => ((tourkeep1_number.f a1 16777216).bind fun t322 => ((tourmake_Below.f a2 65536).bind fun t324 => ((vec_Turn.f k t321 t322 (wrap64 (2 * t324))).bind fun bt325 => ((quat_Of.f k 0 0 1 (wrap64 (2 * t324))).bind fun bt328 => ((quat_Turn.f k bt328.1 bt328.2.1 bt328.2.2.1 bt328.2.2.2 t321 t322 5).bind fun bt332 => ((vec_Len.f k t321 t322).bind fun t336 => ((tourkeep1_near.f bt332.1 bt325.1 (wrap64 ((wrap64 (Int.tdiv t336 500)) + 16))).bind fun t337 => (if t337 = true then ((tourkeep1_near.f bt332.2.1 bt325.2 (wrap64 ((wrap64 (Int.tdiv t336 500)) + 16))).bind fun t338 => (if t338 = true then ((tourkeep1_near.f bt332.2.2 5 4).bind fun t339 => (some t339)) else (none))) else (none)))))))))) = some r := by rw [if_pos rfl] at H; exact H
    clear H
    have H := H1
    clear H1
    replace H := Option.bind_eq_some_iff.mp H
    obtain ⟨t321, A60, H⟩ := H
    replace H : ((tourkeep1_number.f a1 16777216).bind fun t322 => ((tourmake_Below.f a2 65536).bind fun t324 => ((vec_Turn.f k t321 t322 (wrap64 (2 * t324))).bind fun bt325 => ((quat_Of.f k 0 0 1 (wrap64 (2 * t324))).bind fun bt328 => ((quat_Turn.f k bt328.1 bt328.2.1 bt328.2.2.1 bt328.2.2.2 t321 t322 5).bind fun bt332 => ((vec_Len.f k t321 t322).bind fun t336 => ((tourkeep1_near.f bt332.1 bt325.1 (wrap64 ((wrap64 (Int.tdiv t336 500)) + 16))).bind fun t337 => (if t337 = true then ((tourkeep1_near.f bt332.2.1 bt325.2 (wrap64 ((wrap64 (Int.tdiv t336 500)) + 16))).bind fun t338 => (if t338 = true then ((tourkeep1_near.f bt332.2.2 5 4).bind fun t339 => (some t339)) else (none))) else (none))))))))) = some r := H
    have A6 := Aside0.mk A60
    clear A60
    replace H := Option.bind_eq_some_iff.mp H
    obtain ⟨t322, A70, H⟩ := H
    replace H : ((tourmake_Below.f a2 65536).bind fun t324 => ((vec_Turn.f k t321 t322 (wrap64 (2 * t324))).bind fun bt325 => ((quat_Of.f k 0 0 1 (wrap64 (2 * t324))).bind fun bt328 => ((quat_Turn.f k bt328.1 bt328.2.1 bt328.2.2.1 bt328.2.2.2 t321 t322 5).bind fun bt332 => ((vec_Len.f k t321 t322).bind fun t336 => ((tourkeep1_near.f bt332.1 bt325.1 (wrap64 ((wrap64 (Int.tdiv t336 500)) + 16))).bind fun t337 => (if t337 = true then ((tourkeep1_near.f bt332.2.1 bt325.2 (wrap64 ((wrap64 (Int.tdiv t336 500)) + 16))).bind fun t338 => (if t338 = true then ((tourkeep1_near.f bt332.2.2 5 4).bind fun t339 => (some t339)) else (none))) else (none)))))))) = some r := H
    have A7 := Aside0.mk A70
    clear A70
    replace H := Option.bind_eq_some_iff.mp H
    obtain ⟨t324, A80, H⟩ := H
    replace H : ((vec_Turn.f k t321 t322 (wrap64 (2 * t324))).bind fun bt325 => ((quat_Of.f k 0 0 1 (wrap64 (2 * t324))).bind fun bt328 => ((quat_Turn.f k bt328.1 bt328.2.1 bt328.2.2.1 bt328.2.2.2 t321 t322 5).bind fun bt332 => ((vec_Len.f k t321 t322).bind fun t336 => ((tourkeep1_near.f bt332.1 bt325.1 (wrap64 ((wrap64 (Int.tdiv t336 500)) + 16))).bind fun t337 => (if t337 = true then ((tourkeep1_near.f bt332.2.1 bt325.2 (wrap64 ((wrap64 (Int.tdiv t336 500)) + 16))).bind fun t338 => (if t338 = true then ((tourkeep1_near.f bt332.2.2 5 4).bind fun t339 => (some t339)) else (none))) else (none))))))) = some r := H
    have A8 := Aside0.mk A80
    clear A80
    replace H := Option.bind_eq_some_iff.mp H
    obtain ⟨⟨t325, t326⟩, A90, H⟩ := H
    replace H : ((quat_Of.f k 0 0 1 (wrap64 (2 * t324))).bind fun bt328 => ((quat_Turn.f k bt328.1 bt328.2.1 bt328.2.2.1 bt328.2.2.2 t321 t322 5).bind fun bt332 => ((vec_Len.f k t321 t322).bind fun t336 => ((tourkeep1_near.f bt332.1 t325 (wrap64 ((wrap64 (Int.tdiv t336 500)) + 16))).bind fun t337 => (if t337 = true then ((tourkeep1_near.f bt332.2.1 t326 (wrap64 ((wrap64 (Int.tdiv t336 500)) + 16))).bind fun t338 => (if t338 = true then ((tourkeep1_near.f bt332.2.2 5 4).bind fun t339 => (some t339)) else (none))) else (none)))))) = some r := H
    have A9 := Aside0.mk A90
    clear A90
    replace H := Option.bind_eq_some_iff.mp H
    obtain ⟨⟨t328, t329, t330, t331⟩, A100, H⟩ := H
    replace H : ((quat_Turn.f k t328 t329 t330 t331 t321 t322 5).bind fun bt332 => ((vec_Len.f k t321 t322).bind fun t336 => ((tourkeep1_near.f bt332.1 t325 (wrap64 ((wrap64 (Int.tdiv t336 500)) + 16))).bind fun t337 => (if t337 = true then ((tourkeep1_near.f bt332.2.1 t326 (wrap64 ((wrap64 (Int.tdiv t336 500)) + 16))).bind fun t338 => (if t338 = true then ((tourkeep1_near.f bt332.2.2 5 4).bind fun t339 => (some t339)) else (none))) else (none))))) = some r := H
    have A10 := Aside0.mk A100
    clear A100
    replace H := Option.bind_eq_some_iff.mp H
    obtain ⟨⟨t332, t333, t334⟩, A110, H⟩ := H
    replace H : ((vec_Len.f k t321 t322).bind fun t336 => ((tourkeep1_near.f t332 t325 (wrap64 ((wrap64 (Int.tdiv t336 500)) + 16))).bind fun t337 => (if t337 = true then ((tourkeep1_near.f t333 t326 (wrap64 ((wrap64 (Int.tdiv t336 500)) + 16))).bind fun t338 => (if t338 = true then ((tourkeep1_near.f t334 5 4).bind fun t339 => (some t339)) else (none))) else (none)))) = some r := H
    have A11 := Aside0.mk A110
    clear A110
    replace H := Option.bind_eq_some_iff.mp H
    obtain ⟨t336, A120, H⟩ := H
    replace H : ((tourkeep1_near.f t332 t325 (wrap64 ((wrap64 (Int.tdiv t336 500)) + 16))).bind fun t337 => (if t337 = true then ((tourkeep1_near.f t333 t326 (wrap64 ((wrap64 (Int.tdiv t336 500)) + 16))).bind fun t338 => (if t338 = true then ((tourkeep1_near.f t334 5 4).bind fun t339 => (some t339)) else (none))) else (none))) = some r := H
    have A12 := Aside0.mk A120
    clear A120
    replace H := Option.bind_eq_some_iff.mp H
    obtain ⟨t337, A130, H⟩ := H
    replace H : (if t337 = true then ((tourkeep1_near.f t333 t326 (wrap64 ((wrap64 (Int.tdiv t336 500)) + 16))).bind fun t338 => (if t338 = true then ((tourkeep1_near.f t334 5 4).bind fun t339 => (some t339)) else (none))) else (none)) = some r := H
    have A13 := Aside0.mk A130
    clear A130
    by_cases c14 : t337 = true
    · subst c14
      have H1 : ((tourkeep1_near.f t333 t326 (wrap64 ((wrap64 (Int.tdiv t336 500)) + 16))).bind fun t338 => (if t338 = true then ((tourkeep1_near.f t334 5 4).bind fun t339 => (some t339)) else (none))) = some r := by rw [if_pos rfl] at H; exact H
      clear H
      have H := H1
      clear H1
      replace H := Option.bind_eq_some_iff.mp H
      obtain ⟨t338, A150, H⟩ := H
      replace H : (if t338 = true then ((tourkeep1_near.f t334 5 4).bind fun t339 => (some t339)) else (none)) = some r := H
      have A15 := Aside0.mk A150
      clear A150
      by_cases c16 : t338 = true
      · subst c16
        have H1 : ((tourkeep1_near.f t334 5 4).bind fun t339 => (some t339)) = some r := by rw [if_pos rfl] at H; exact H
        clear H
        have H := H1
        clear H1
        replace H := Option.bind_eq_some_iff.mp H
        obtain ⟨t339, A170, H⟩ := H
        replace H : (some t339) = some r := H
        have A17 := Aside0.mk A170
        clear A170
        obtain rfl := Option.some.inj H
        go_enter Try.func11, Try.ntmps11
        try go_wp2_with (first | ((with_reducible refine gate_callee (f := 28) rfl ?_); refine goesL_ (some 11) rfl rfl Try.func28 (by kernel_rfl) rfl #[] rfl (by (try simp only [List.map_toArray, List.map_cons, List.map_nil]); first | done | rfl | (simp only [List.length_drop, List.length_take]; rfl)) ?_; (with_reducible refine (tourkeep1_quatBegun.calls k  true _ A4.out).mono ?_); rintro e w18 ⟨rfl, hb⟩; refine ⟨_, rfl, ?_⟩; have n0_ := Aside0.mk (below_step (by repeat (first | (with_reducible first | exact HB.out | apply below_alloc | apply pw_below_drewN | apply below_drew1) | exact HB.out)) hb); clear HB; have HB := n0_; clear n0_; (try clear hb); (try clear hb2); (try clear hk); (try clear hi)) | ((with_reducible refine gate_callee (f := 33) rfl ?_); refine goesL_ (some 14) rfl rfl Try.func33 (by kernel_rfl) rfl #[.int .i64 a0, .int .i64 16777216] rfl (by (try simp only [List.map_toArray, List.map_cons, List.map_nil]); first | done | rfl | (simp only [List.length_drop, List.length_take]; rfl)) ?_; (with_reducible refine (tourkeep1_number.calls a0 16777216 t321 _ A6.out).mono ?_); rintro e w' ⟨rfl, ⟨nd, rfl⟩⟩; refine ⟨_, rfl, ?_⟩; (try (rw [drewN_self w18]; generalize hq_ : World.drewN w18 _ = w18; have n0_ : Aside0 (Below w.heap.size w w18) := ⟨by rw [← hq_]; exact (by repeat (first | (with_reducible first | exact HB.out | apply below_alloc | apply pw_below_drewN | apply below_drew1) | exact HB.out))⟩; clear HB hq_; have HB := n0_; clear n0_))) | ((with_reducible refine gate_callee (f := 33) rfl ?_); refine goesL_ (some 16) rfl rfl Try.func33 (by kernel_rfl) rfl #[.int .i64 a1, .int .i64 16777216] rfl (by (try simp only [List.map_toArray, List.map_cons, List.map_nil]); first | done | rfl | (simp only [List.length_drop, List.length_take]; rfl)) ?_; (with_reducible refine (tourkeep1_number.calls a1 16777216 t322 _ A7.out).mono ?_); rintro e w' ⟨rfl, ⟨nd, rfl⟩⟩; refine ⟨_, rfl, ?_⟩; (try (rw [drewN_self w18]; generalize hq_ : World.drewN w18 _ = w18; have n0_ : Aside0 (Below w.heap.size w w18) := ⟨by rw [← hq_]; exact (by repeat (first | (with_reducible first | exact HB.out | apply below_alloc | apply pw_below_drewN | apply below_drew1) | exact HB.out))⟩; clear HB hq_; have HB := n0_; clear n0_))) | ((with_reducible refine gate_dst (N := 7) rfl ?_); refine box_event ?hg (N := 7) ?hd (cs := #[.int .i64 0, .int .i64 0]) (t := 24) ?hr ?_; (case hd => rfl); (case hg => rfl); (case hr => first | (go_simp; done) | (go_simp; rfl)); intro gb323 hg w19 hbox hb; have n0_ := Aside0.mk (below_step (by repeat (first | (with_reducible first | exact HB.out | apply below_alloc | apply pw_below_drewN | apply below_drew1) | exact HB.out)) hb); have n1_ := Aside0.mk (hbox); have n2_ := Aside0.mk ((by rw [hg]; exact (below_size (by repeat (first | (with_reducible first | exact HB.out | apply below_alloc | apply pw_below_drewN | apply below_drew1) | exact HB.out))) : w.heap.size ≤ gb323)); have n3_ := Aside0.mk ((by rw [hg]; exact (below_size (by repeat (first | (with_reducible first | exact HB.out | apply below_alloc | apply pw_below_drewN | apply below_drew1) | exact HB.out))) : w.heap.size ≤ gb323)); clear HB; have HB := n0_; have BK323 := n1_; have GW323 := n2_; have GE323 := n3_; clear n0_ n1_ n2_ n3_; clear hb hbox hg; have hcz20_0 : w19.cell? ⟨gb323, 0, none⟩ = some (.int .i64 0) := (blk_cell BK323.out 0).trans rfl; have hcz20_1 : w19.cell? ⟨gb323, 1, none⟩ = some (.int .i64 0) := (blk_cell BK323.out 1).trans rfl; have hfz20_0 := blk_frozen BK323.out 0; have hfz20_1 := blk_frozen BK323.out 1) | ((with_reducible refine gate_callee (f := 23) rfl ?_); refine goesL_ (some 19) rfl rfl Try.func23 (by kernel_rfl) rfl #[.int .i64 a2, .int .i64 65536] rfl (by (try simp only [List.map_toArray, List.map_cons, List.map_nil]); first | done | rfl | (simp only [List.length_drop, List.length_take]; rfl)) ?_; (with_reducible refine (tourmake_Below.calls a2 65536 t324 _ A8.out).mono ?_); rintro e w' ⟨rfl, ⟨nd, rfl⟩⟩; refine ⟨_, rfl, ?_⟩) | ((with_reducible refine gate_callee (f := 21) rfl ?_); refine goesL_ (some 23) rfl rfl Try.func21 (by kernel_rfl) rfl #[.agg #[.int .i64 t321, .int .i64 t322], .int .i64 (wrap64 (2 * t324))] rfl (by (try simp only [List.map_toArray, List.map_cons, List.map_nil]); first | done | rfl | (simp only [List.length_drop, List.length_take]; rfl)) ?_; (with_reducible refine (vec_Turn.calls k t321 t322 (wrap64 (2 * t324)) t325 t326 _ A9.out).mono ?_); rintro e w21 ⟨rfl, hb⟩; refine ⟨_, rfl, ?_⟩; have n0_ := Aside0.mk (blk_below (g := gb323) (o := .cells #[.int .i64 t321, .int .i64 t322] 24 (0, 0)) (by (with_reducible repeat (first | refine blk_drewN ?_ _ | refine blk_drew ?_ | refine blk_alloc ?_ _)); refine blk_put (cs := #[.int .i64 t321, .int .i64 0]) ?_ 1 _ rfl; (with_reducible repeat (first | refine blk_drewN ?_ _ | refine blk_drew ?_ | refine blk_alloc ?_ _)); refine blk_put (cs := #[.int .i64 0, .int .i64 0]) ?_ 0 _ rfl; (with_reducible repeat (first | refine blk_drewN ?_ _ | refine blk_drew ?_ | refine blk_alloc ?_ _)); exact BK323.out) hb); have n1_ := Aside0.mk (below_step (by repeat (first | (with_reducible first | exact HB.out | apply below_alloc | apply pw_below_drewN | apply below_drew1 | refine below_set ?_ GE323.out) | exact HB.out)) hb); clear BK323; clear HB; have BK323 := n0_; have HB := n1_; clear n0_ n1_; (try clear hb); (try clear hb2); (try clear hk); (try clear hi)) | ((with_reducible refine gate_dst (N := 8) rfl ?_); refine box_event ?hg (N := 8) ?hd (cs := #[.int .i64 0, .int .i64 0]) (t := 24) ?hr ?_; (case hd => rfl); (case hg => rfl); (case hr => first | (go_simp; done) | (go_simp; rfl)); intro gb327 hg w22 hbox hb; have n0_ := Aside0.mk (blk_below (g := gb323) (o := .cells #[.int .i64 t321, .int .i64 t322] 24 (0, 0)) (by (with_reducible repeat (first | refine blk_drewN ?_ _ | refine blk_drew ?_ | refine blk_alloc ?_ _)); exact BK323.out) hb); have n1_ := Aside0.mk (below_step (by repeat (first | (with_reducible first | exact HB.out | apply below_alloc | apply pw_below_drewN | apply below_drew1 | refine below_set ?_ GE323.out) | exact HB.out)) hb); have n2_ := Aside0.mk (hbox); have n3_ := Aside0.mk ((by rw [hg]; exact (below_size (by repeat (first | (with_reducible first | exact HB.out | apply below_alloc | apply pw_below_drewN | apply below_drew1 | refine below_set ?_ GE323.out) | exact HB.out))) : w.heap.size ≤ gb327)); have n4_ := Aside0.mk ((by rw [hg]; exact (below_size (by repeat (first | (with_reducible first | exact HB.out | apply below_alloc | apply pw_below_drewN | apply below_drew1 | refine below_set ?_ GE323.out) | exact HB.out))) : w.heap.size ≤ gb327)); have n5_ := Aside0.mk ((by rw [hg]; exact Nat.ne_of_lt (blk_lt (g := gb323) (o := .cells #[.int .i64 t321, .int .i64 t322] 24 (0, 0)) (by (with_reducible repeat (first | refine blk_drewN ?_ _ | refine blk_drew ?_ | refine blk_alloc ?_ _)); exact BK323.out)) : gb323 ≠ gb327)); have n6_ := Aside0.mk ((by rw [hg]; exact Nat.ne_of_gt (blk_lt (g := gb323) (o := .cells #[.int .i64 t321, .int .i64 t322] 24 (0, 0)) (by (with_reducible repeat (first | refine blk_drewN ?_ _ | refine blk_drew ?_ | refine blk_alloc ?_ _)); exact BK323.out)) : gb327 ≠ gb323)); clear BK323; clear HB; have BK323 := n0_; have HB := n1_; have BK327 := n2_; have GW327 := n3_; have GE327 := n4_; have NB323_327 := n5_; have NB327_323 := n6_; clear n0_ n1_ n2_ n3_ n4_ n5_ n6_; clear hb hbox hg; have hnb23 := NB327_323.out; have hnc23 := NB323_327.out; have hcz24_0 : w22.cell? ⟨gb327, 0, none⟩ = some (.int .i64 0) := (blk_cell BK327.out 0).trans rfl; have hcz24_1 : w22.cell? ⟨gb327, 1, none⟩ = some (.int .i64 0) := (blk_cell BK327.out 1).trans rfl; have hfz24_0 := blk_frozen BK327.out 0; have hfz24_1 := blk_frozen BK327.out 1))
        have n0_ : Aside0 (((w22.setCell ⟨gb327, 0, none⟩ (.int .i64 t325)).setCell ⟨gb327, 1, none⟩ (.int .i64 t326)).heap[gb323]? = some (.cells #[.int .i64 t321, .int .i64 t322] 24 (0, 0))) := ⟨by (with_reducible repeat (first | refine blk_drewN ?_ _ | refine blk_drew ?_ | refine blk_alloc ?_ _)); refine blk_far ?_ NB323_327.out _; (with_reducible repeat (first | refine blk_drewN ?_ _ | refine blk_drew ?_ | refine blk_alloc ?_ _)); refine blk_far ?_ NB323_327.out _; (with_reducible repeat (first | refine blk_drewN ?_ _ | refine blk_drew ?_ | refine blk_alloc ?_ _)); exact BK323.out⟩
        have n1_ : Aside0 (((w22.setCell ⟨gb327, 0, none⟩ (.int .i64 t325)).setCell ⟨gb327, 1, none⟩ (.int .i64 t326)).heap[gb327]? = some (.cells #[.int .i64 t325, .int .i64 t326] 24 (0, 0))) := ⟨by (with_reducible repeat (first | refine blk_drewN ?_ _ | refine blk_drew ?_ | refine blk_alloc ?_ _)); refine blk_put (cs := #[.int .i64 t325, .int .i64 0]) ?_ 1 _ rfl; (with_reducible repeat (first | refine blk_drewN ?_ _ | refine blk_drew ?_ | refine blk_alloc ?_ _)); refine blk_put (cs := #[.int .i64 0, .int .i64 0]) ?_ 0 _ rfl; (with_reducible repeat (first | refine blk_drewN ?_ _ | refine blk_drew ?_ | refine blk_alloc ?_ _)); exact BK327.out⟩
        have n2_ : Aside0 (Below w.heap.size w ((w22.setCell ⟨gb327, 0, none⟩ (.int .i64 t325)).setCell ⟨gb327, 1, none⟩ (.int .i64 t326))) := ⟨by repeat (first | (with_reducible first | exact HB.out | apply below_alloc | apply pw_below_drewN | apply below_drew1 | refine below_set ?_ GE323.out | refine below_set ?_ GE327.out) | exact HB.out)⟩
        (try clear BK323)
        (try clear BK327)
        (try clear HB)
        generalize ((w22.setCell ⟨gb327, 0, none⟩ (.int .i64 t325)).setCell ⟨gb327, 1, none⟩ (.int .i64 t326)) = w25 at n0_ n1_ n2_ ⊢
        have BK323 := n0_
        have BK327 := n1_
        have HB := n2_
        clear n0_ n1_ n2_
        have n0_ := Aside0.mk (blk_drew BK323.out)
        have n1_ := Aside0.mk (blk_drew BK327.out)
        have n2_ := Aside0.mk (below_drew1 HB.out)
        clear BK323
        clear BK327
        clear HB
        have BK323 := n0_
        have BK327 := n1_
        have HB := n2_
        clear n0_ n1_ n2_
        refine start_ (n := 11) (S := fun w' => w'.cell? ⟨gb323, 0, none⟩ = some (.int .i64 t321) ∧ w'.cell? ⟨gb323, 1, none⟩ = some (.int .i64 t322)) (ds := []) #[false, false, false, false, false, false, false, false, false, false, false] (by kernel_rfl) rfl rfl ⟨(blk_cell BK323.out 0).trans rfl, (blk_cell BK323.out 1).trans rfl⟩ (fun hHeld => ?_); refine with_tabW tourkeep1_QuatPlane.tab6 tourkeep1_QuatPlane.bits6 (fun HT_ HW_ => ?_)
        generalize w25.drew = w26 at BK323 BK327 HB hHeld ⊢
        refine pure_ (i := 0) (N := some 24) (v := ?_) (a' := ?_) #[true, false, false, false, false, false, false, false, false, false, false] rfl rfl (any_of HT_.out (by kernel_rfl)) (fun _ _ _ h => h) (Or.inl ⟨by rfl, ?_⟩) ?_ ?_
        rotate_left
        · intro w'
          go_simp
          with_reducible rfl
        rotate_left
        · simp only [Act.put, List.setIfInBounds_toArray, List.set_cons_zero, List.set_cons_succ, i64_w, i32_w]
          rfl
        refine pure_ (i := 1) (N := some 25) (v := ?_) (a' := ?_) #[true, true, false, false, false, false, false, false, false, false, false] rfl rfl (any_of HT_.out (by kernel_rfl)) (fun _ _ _ h => h) (Or.inl ⟨by rfl, ?_⟩) ?_ ?_
        rotate_left
        · intro w'
          go_simp
          with_reducible rfl
        rotate_left
        · simp only [Act.put, List.setIfInBounds_toArray, List.set_cons_zero, List.set_cons_succ, i64_w, i32_w]
          rfl
        refine pure_ (i := 3) (N := some 27) (v := ?_) (a' := ?_) #[true, true, false, true, false, false, false, false, false, false, false] rfl rfl (any_of HT_.out (by kernel_rfl)) (fun _ _ _ h => h) (Or.inl ⟨by rfl, ?_⟩) ?_ ?_
        rotate_left
        · intro w'
          go_simp
          with_reducible rfl
        rotate_left
        · simp only [Act.put, List.setIfInBounds_toArray, List.set_cons_zero, List.set_cons_succ, i64_w, i32_w]
          rfl
        refine pure_ (i := 5) (N := some 29) (v := ?_) (a' := ?_) #[true, true, false, true, false, true, false, false, false, false, false] rfl rfl (any_of HT_.out (by kernel_rfl)) (fun _ _ _ h => h) (Or.inl ⟨by rfl, ?_⟩) ?_ ?_
        rotate_left
        · intro w'
          go_simp
          with_reducible rfl
        rotate_left
        · simp only [Act.put, List.setIfInBounds_toArray, List.set_cons_zero, List.set_cons_succ, i64_w, i32_w]
          rfl
        refine take_ (i := 4) (N := some 28) (v := ?_) (a' := ?_) #[true, true, false, true, true, true, false, false, false, false, false] rfl rfl (take_ofW HT_.out HW_.out (by kernel_rfl)) (fun _ _ _ h => h) (Or.inl ⟨by rfl, ?_⟩) hHeld ?_ ?_
        rotate_left
        · rintro w' ⟨s0, s1⟩
          go_simp
          with_reducible rfl
        rotate_left
        · simp only [Act.put, List.setIfInBounds_toArray, List.set_cons_zero, List.set_cons_succ, i64_w, i32_w]
          rfl
        refine take_ (i := 6) (N := some 30) (v := ?_) (a' := ?_) #[true, true, false, true, true, true, true, false, false, false, false] rfl rfl (take_ofW HT_.out HW_.out (by kernel_rfl)) (fun _ _ _ h => h) (Or.inl ⟨by rfl, ?_⟩) hHeld ?_ ?_
        rotate_left
        · rintro w' ⟨s0, s1⟩
          go_simp
          with_reducible rfl
        rotate_left
        · simp only [Act.put, List.setIfInBounds_toArray, List.set_cons_zero, List.set_cons_succ, i64_w, i32_w]
          rfl
        refine pure_ (i := 7) (N := some 31) (v := ?_) (a' := ?_) #[true, true, false, true, true, true, true, true, false, false, false] rfl rfl (any_of HT_.out (by kernel_rfl)) (fun _ _ _ h => h) (Or.inl ⟨by rfl, ?_⟩) ?_ ?_
        rotate_left
        · intro w'
          go_simp
          with_reducible rfl
        rotate_left
        · simp only [Act.put, List.setIfInBounds_toArray, List.set_cons_zero, List.set_cons_succ, i64_w, i32_w]
          rfl
        refine join_ (σ := Nat) 1 #[true, true, true, true, true, true, true, true, true, true, false] (fun s_ => [(26, .agg #[.int .i64 t328, .int .i64 t329, .int .i64 t330, .int .i64 t331]), (32, .agg #[.int .i64 t332, .int .i64 t333, .int .i64 t334]), (9, .pointer (some ⟨s_, 0, none⟩))]) (fun s_ w' => (w'.cell? ⟨gb323, 0, none⟩ = some (.int .i64 t321) ∧ w'.cell? ⟨gb323, 1, none⟩ = some (.int .i64 t322)) ∧ (w'.heap[gb323]? = some (.cells #[.int .i64 t321, .int .i64 t322] 24 (0, 0))) ∧ (w'.heap[gb327]? = some (.cells #[.int .i64 t325, .int .i64 t326] 24 (0, 0))) ∧ (w'.heap[s_]? = some (.cells #[.int .i64 0, .int .i64 0, .int .i64 0] 46 (0, 0))) ∧ (w.heap.size ≤ s_) ∧ (w.heap.size ≤ s_) ∧ (gb323 ≠ s_) ∧ (s_ ≠ gb323) ∧ (gb327 ≠ s_) ∧ (s_ ≠ gb327) ∧ (Below w.heap.size w w')) ?_ ?_
        rotate_left
        · intro hCont
          refine two_ (i := 2) (j := 9) (Ni := some 26) (Nj := some 9) #[true, true, true, true, true, true, true, true, false, false, false] #[true, true, false, true, true, true, true, true, false, true, false] rfl rfl rfl rfl (two_of HT_.out (by kernel_rfl)) (by decide) (by decide) (fun K hK => ?_) (fun K hK => ?_)
          · skip
            refine goes_ Try.func38 (by kernel_rfl) rfl #[.agg #[.int .i64 0, .int .i64 0, .int .i64 1], .int .i64 (wrap64 (2 * t324))] (by rfl) rfl rfl (by (try simp only [List.map_toArray, List.map_cons, List.map_nil]); first | done | rfl | (simp only [List.length_drop, List.length_take]; rfl)) ?_
            with_reducible refine (quat_Of.calls k 0 0 1 (wrap64 (2 * t324)) t328 t329 t330 t331 _ A10.out).mono ?_
            rintro e w27 ⟨rfl, hb⟩
            refine ⟨_, rfl, ?_⟩
            have n0_ := Aside0.mk (blk_below (g := gb323) (o := .cells #[.int .i64 t321, .int .i64 t322] 24 (0, 0)) (by (with_reducible repeat (first | refine blk_drewN ?_ _ | refine blk_drew ?_ | refine blk_alloc ?_ _)); exact BK323.out) hb)
            have n1_ := Aside0.mk (blk_below (g := gb327) (o := .cells #[.int .i64 t325, .int .i64 t326] 24 (0, 0)) (by (with_reducible repeat (first | refine blk_drewN ?_ _ | refine blk_drew ?_ | refine blk_alloc ?_ _)); exact BK327.out) hb)
            have n2_ := Aside0.mk (below_step (by repeat (first | (with_reducible first | exact HB.out | apply below_alloc | apply pw_below_drewN | apply below_drew1 | refine below_set ?_ GE323.out | refine below_set ?_ GE327.out) | exact HB.out)) hb)
            clear BK323
            clear BK327
            clear HB
            have BK323 := n0_
            have BK327 := n1_
            have HB := n2_
            clear n0_ n1_ n2_
            (try clear hb)
            (try clear hb2)
            (try clear hk)
            (try clear hi)
            refine hK.out _ _ ⟨(blk_cell BK323.out 0).trans rfl, (blk_cell BK323.out 1).trans rfl⟩ (fun hHeld => ?_)
            clear hK K
            refine norm_ (a' := ?_) ?_ ?_
            rotate_left
            · show Act.put _ (some 26) _ = _
              simp only [Act.put, List.setIfInBounds_toArray, List.set_cons_zero, List.set_cons_succ, i64_w, i32_w]
              rfl
            refine two_ (i := 8) (j := 9) (Ni := some 32) (Nj := some 9) #[true, true, true, true, true, true, true, true, true, false, false] #[true, true, true, true, true, true, true, true, false, true, false] rfl rfl rfl rfl (two_of HT_.out (by kernel_rfl)) (by decide) (by decide) (fun K hK => ?_) (fun K hK => ?_)
            · skip
              refine goes_ Try.func35 (by kernel_rfl) rfl #[.agg #[.int .i64 t328, .int .i64 t329, .int .i64 t330, .int .i64 t331], .agg #[.int .i64 t321, .int .i64 t322, .int .i64 5]] (by rfl) rfl rfl (by (try simp only [List.map_toArray, List.map_cons, List.map_nil]); first | done | rfl | (simp only [List.length_drop, List.length_take]; rfl)) ?_
              with_reducible refine (quat_Turn.calls k t328 t329 t330 t331 t321 t322 5 t332 t333 t334 _ A11.out).mono ?_
              rintro e w28 ⟨rfl, hb⟩
              refine ⟨_, rfl, ?_⟩
              have n0_ := Aside0.mk (blk_below (g := gb323) (o := .cells #[.int .i64 t321, .int .i64 t322] 24 (0, 0)) (by (with_reducible repeat (first | refine blk_drewN ?_ _ | refine blk_drew ?_ | refine blk_alloc ?_ _)); exact BK323.out) hb)
              have n1_ := Aside0.mk (blk_below (g := gb327) (o := .cells #[.int .i64 t325, .int .i64 t326] 24 (0, 0)) (by (with_reducible repeat (first | refine blk_drewN ?_ _ | refine blk_drew ?_ | refine blk_alloc ?_ _)); exact BK327.out) hb)
              have n2_ := Aside0.mk (below_step (by repeat (first | (with_reducible first | exact HB.out | apply below_alloc | apply pw_below_drewN | apply below_drew1 | refine below_set ?_ GE323.out | refine below_set ?_ GE327.out) | exact HB.out)) hb)
              clear BK323
              clear BK327
              clear HB
              have BK323 := n0_
              have BK327 := n1_
              have HB := n2_
              clear n0_ n1_ n2_
              (try clear hb)
              (try clear hb2)
              (try clear hk)
              (try clear hi)
              refine hK.out _ _ ⟨(blk_cell BK323.out 0).trans rfl, (blk_cell BK323.out 1).trans rfl⟩ (fun hHeld => ?_)
              clear hK K
              refine norm_ (a' := ?_) ?_ ?_
              rotate_left
              · show Act.put _ (some 32) _ = _
                simp only [Act.put, List.setIfInBounds_toArray, List.set_cons_zero, List.set_cons_succ, i64_w, i32_w]
                rfl
              refine one_ (i := 9) (N := some 9) #[true, true, true, true, true, true, true, true, true, true, false] rfl rfl (one_of HT_.out (by kernel_rfl)) (by decide) (fun K hK => ?_)
              refine box_step ?hg (N := 9) ?hd (cs := #[.int .i64 0, .int .i64 0, .int .i64 0]) (t := 46) ?hr ?_; (case hd => rfl); (case hg => rfl); (case hr => first | (go_simp; done) | (go_simp; rfl))
              intro gb335 hg w29 hbox hb
              have n0_ := Aside0.mk (blk_below (g := gb323) (o := .cells #[.int .i64 t321, .int .i64 t322] 24 (0, 0)) (by (with_reducible repeat (first | refine blk_drewN ?_ _ | refine blk_drew ?_ | refine blk_alloc ?_ _)); exact BK323.out) hb)
              have n1_ := Aside0.mk (blk_below (g := gb327) (o := .cells #[.int .i64 t325, .int .i64 t326] 24 (0, 0)) (by (with_reducible repeat (first | refine blk_drewN ?_ _ | refine blk_drew ?_ | refine blk_alloc ?_ _)); exact BK327.out) hb)
              have n2_ := Aside0.mk (below_step (by repeat (first | (with_reducible first | exact HB.out | apply below_alloc | apply pw_below_drewN | apply below_drew1 | refine below_set ?_ GE323.out | refine below_set ?_ GE327.out) | exact HB.out)) hb)
              have n3_ := Aside0.mk (hbox)
              have n4_ := Aside0.mk ((by rw [hg]; exact (below_size (by repeat (first | (with_reducible first | exact HB.out | apply below_alloc | apply pw_below_drewN | apply below_drew1 | refine below_set ?_ GE323.out | refine below_set ?_ GE327.out) | exact HB.out))) : w.heap.size ≤ gb335))
              have n5_ := Aside0.mk ((by rw [hg]; exact (below_size (by repeat (first | (with_reducible first | exact HB.out | apply below_alloc | apply pw_below_drewN | apply below_drew1 | refine below_set ?_ GE323.out | refine below_set ?_ GE327.out) | exact HB.out))) : w.heap.size ≤ gb335))
              have n6_ := Aside0.mk ((by rw [hg]; exact Nat.ne_of_lt (blk_lt (g := gb323) (o := .cells #[.int .i64 t321, .int .i64 t322] 24 (0, 0)) (by (with_reducible repeat (first | refine blk_drewN ?_ _ | refine blk_drew ?_ | refine blk_alloc ?_ _)); exact BK323.out)) : gb323 ≠ gb335))
              have n7_ := Aside0.mk ((by rw [hg]; exact Nat.ne_of_gt (blk_lt (g := gb323) (o := .cells #[.int .i64 t321, .int .i64 t322] 24 (0, 0)) (by (with_reducible repeat (first | refine blk_drewN ?_ _ | refine blk_drew ?_ | refine blk_alloc ?_ _)); exact BK323.out)) : gb335 ≠ gb323))
              have n8_ := Aside0.mk ((by rw [hg]; exact Nat.ne_of_lt (blk_lt (g := gb327) (o := .cells #[.int .i64 t325, .int .i64 t326] 24 (0, 0)) (by (with_reducible repeat (first | refine blk_drewN ?_ _ | refine blk_drew ?_ | refine blk_alloc ?_ _)); exact BK327.out)) : gb327 ≠ gb335))
              have n9_ := Aside0.mk ((by rw [hg]; exact Nat.ne_of_gt (blk_lt (g := gb327) (o := .cells #[.int .i64 t325, .int .i64 t326] 24 (0, 0)) (by (with_reducible repeat (first | refine blk_drewN ?_ _ | refine blk_drew ?_ | refine blk_alloc ?_ _)); exact BK327.out)) : gb335 ≠ gb327))
              clear BK323
              clear BK327
              clear HB
              have BK323 := n0_
              have BK327 := n1_
              have HB := n2_
              have BK335 := n3_
              have GW335 := n4_
              have GE335 := n5_
              have NB323_335 := n6_
              have NB335_323 := n7_
              have NB327_335 := n8_
              have NB335_327 := n9_
              clear n0_ n1_ n2_ n3_ n4_ n5_ n6_ n7_ n8_ n9_
              clear hb hbox hg
              refine hK.out _ _ ⟨(blk_cell BK323.out 0).trans rfl, (blk_cell BK323.out 1).trans rfl⟩ (fun hHeld => ?_)
              clear hK K
              refine norm_ (a' := ?_) ?_ ?_
              rotate_left
              · show Act.put _ (some 9) _ = _
                simp only [Act.put, List.setIfInBounds_toArray, List.set_cons_zero, List.set_cons_succ, i64_w, i32_w]
                rfl
              exact norm_ (by simp only [putAll, Act.put, List.setIfInBounds_toArray, List.set_cons_zero, List.set_cons_succ]) (hCont (gb335) _ ⟨hHeld, (by (with_reducible repeat (first | refine blk_drewN ?_ _ | refine blk_drew ?_ | refine blk_alloc ?_ _)); exact BK323.out), (by (with_reducible repeat (first | refine blk_drewN ?_ _ | refine blk_drew ?_ | refine blk_alloc ?_ _)); exact BK327.out), (by (with_reducible repeat (first | refine blk_drewN ?_ _ | refine blk_drew ?_ | refine blk_alloc ?_ _)); exact BK335.out), GW335.out, GE335.out, NB323_335.out, NB335_323.out, NB327_335.out, NB335_327.out, (by repeat (first | (with_reducible first | exact HB.out | apply below_alloc | apply pw_below_drewN | apply below_drew1 | refine below_set ?_ GE323.out | refine below_set ?_ GE327.out | refine below_set ?_ GE335.out) | exact HB.out))⟩)
            · skip
              refine box_step ?hg (N := 9) ?hd (cs := #[.int .i64 0, .int .i64 0, .int .i64 0]) (t := 46) ?hr ?_; (case hd => rfl); (case hg => rfl); (case hr => first | (go_simp; done) | (go_simp; rfl))
              intro gb335 hg w28 hbox hb
              have n0_ := Aside0.mk (blk_below (g := gb323) (o := .cells #[.int .i64 t321, .int .i64 t322] 24 (0, 0)) (by (with_reducible repeat (first | refine blk_drewN ?_ _ | refine blk_drew ?_ | refine blk_alloc ?_ _)); exact BK323.out) hb)
              have n1_ := Aside0.mk (blk_below (g := gb327) (o := .cells #[.int .i64 t325, .int .i64 t326] 24 (0, 0)) (by (with_reducible repeat (first | refine blk_drewN ?_ _ | refine blk_drew ?_ | refine blk_alloc ?_ _)); exact BK327.out) hb)
              have n2_ := Aside0.mk (below_step (by repeat (first | (with_reducible first | exact HB.out | apply below_alloc | apply pw_below_drewN | apply below_drew1 | refine below_set ?_ GE323.out | refine below_set ?_ GE327.out) | exact HB.out)) hb)
              have n3_ := Aside0.mk (hbox)
              have n4_ := Aside0.mk ((by rw [hg]; exact (below_size (by repeat (first | (with_reducible first | exact HB.out | apply below_alloc | apply pw_below_drewN | apply below_drew1 | refine below_set ?_ GE323.out | refine below_set ?_ GE327.out) | exact HB.out))) : w.heap.size ≤ gb335))
              have n5_ := Aside0.mk ((by rw [hg]; exact (below_size (by repeat (first | (with_reducible first | exact HB.out | apply below_alloc | apply pw_below_drewN | apply below_drew1 | refine below_set ?_ GE323.out | refine below_set ?_ GE327.out) | exact HB.out))) : w.heap.size ≤ gb335))
              have n6_ := Aside0.mk ((by rw [hg]; exact Nat.ne_of_lt (blk_lt (g := gb323) (o := .cells #[.int .i64 t321, .int .i64 t322] 24 (0, 0)) (by (with_reducible repeat (first | refine blk_drewN ?_ _ | refine blk_drew ?_ | refine blk_alloc ?_ _)); exact BK323.out)) : gb323 ≠ gb335))
              have n7_ := Aside0.mk ((by rw [hg]; exact Nat.ne_of_gt (blk_lt (g := gb323) (o := .cells #[.int .i64 t321, .int .i64 t322] 24 (0, 0)) (by (with_reducible repeat (first | refine blk_drewN ?_ _ | refine blk_drew ?_ | refine blk_alloc ?_ _)); exact BK323.out)) : gb335 ≠ gb323))
              have n8_ := Aside0.mk ((by rw [hg]; exact Nat.ne_of_lt (blk_lt (g := gb327) (o := .cells #[.int .i64 t325, .int .i64 t326] 24 (0, 0)) (by (with_reducible repeat (first | refine blk_drewN ?_ _ | refine blk_drew ?_ | refine blk_alloc ?_ _)); exact BK327.out)) : gb327 ≠ gb335))
              have n9_ := Aside0.mk ((by rw [hg]; exact Nat.ne_of_gt (blk_lt (g := gb327) (o := .cells #[.int .i64 t325, .int .i64 t326] 24 (0, 0)) (by (with_reducible repeat (first | refine blk_drewN ?_ _ | refine blk_drew ?_ | refine blk_alloc ?_ _)); exact BK327.out)) : gb335 ≠ gb327))
              clear BK323
              clear BK327
              clear HB
              have BK323 := n0_
              have BK327 := n1_
              have HB := n2_
              have BK335 := n3_
              have GW335 := n4_
              have GE335 := n5_
              have NB323_335 := n6_
              have NB335_323 := n7_
              have NB327_335 := n8_
              have NB335_327 := n9_
              clear n0_ n1_ n2_ n3_ n4_ n5_ n6_ n7_ n8_ n9_
              clear hb hbox hg
              refine hK.out _ _ ⟨(blk_cell BK323.out 0).trans rfl, (blk_cell BK323.out 1).trans rfl⟩ (fun hHeld => ?_)
              clear hK K
              refine norm_ (a' := ?_) ?_ ?_
              rotate_left
              · show Act.put _ (some 9) _ = _
                simp only [Act.put, List.setIfInBounds_toArray, List.set_cons_zero, List.set_cons_succ, i64_w, i32_w]
                rfl
              refine one_ (i := 8) (N := some 32) #[true, true, true, true, true, true, true, true, true, true, false] rfl rfl (one_of HT_.out (by kernel_rfl)) (by decide) (fun K hK => ?_)
              refine goes_ Try.func35 (by kernel_rfl) rfl #[.agg #[.int .i64 t328, .int .i64 t329, .int .i64 t330, .int .i64 t331], .agg #[.int .i64 t321, .int .i64 t322, .int .i64 5]] (by rfl) rfl rfl (by (try simp only [List.map_toArray, List.map_cons, List.map_nil]); first | done | rfl | (simp only [List.length_drop, List.length_take]; rfl)) ?_
              with_reducible refine (quat_Turn.calls k t328 t329 t330 t331 t321 t322 5 t332 t333 t334 _ A11.out).mono ?_
              rintro e w29 ⟨rfl, hb⟩
              refine ⟨_, rfl, ?_⟩
              have n0_ := Aside0.mk (blk_below (g := gb323) (o := .cells #[.int .i64 t321, .int .i64 t322] 24 (0, 0)) (by (with_reducible repeat (first | refine blk_drewN ?_ _ | refine blk_drew ?_ | refine blk_alloc ?_ _)); exact BK323.out) hb)
              have n1_ := Aside0.mk (blk_below (g := gb327) (o := .cells #[.int .i64 t325, .int .i64 t326] 24 (0, 0)) (by (with_reducible repeat (first | refine blk_drewN ?_ _ | refine blk_drew ?_ | refine blk_alloc ?_ _)); exact BK327.out) hb)
              have n2_ := Aside0.mk (blk_below (g := gb335) (o := .cells #[.int .i64 0, .int .i64 0, .int .i64 0] 46 (0, 0)) (by (with_reducible repeat (first | refine blk_drewN ?_ _ | refine blk_drew ?_ | refine blk_alloc ?_ _)); exact BK335.out) hb)
              have n3_ := Aside0.mk (below_step (by repeat (first | (with_reducible first | exact HB.out | apply below_alloc | apply pw_below_drewN | apply below_drew1 | refine below_set ?_ GE323.out | refine below_set ?_ GE327.out | refine below_set ?_ GE335.out) | exact HB.out)) hb)
              clear BK323
              clear BK327
              clear BK335
              clear HB
              have BK323 := n0_
              have BK327 := n1_
              have BK335 := n2_
              have HB := n3_
              clear n0_ n1_ n2_ n3_
              (try clear hb)
              (try clear hb2)
              (try clear hk)
              (try clear hi)
              refine hK.out _ _ ⟨(blk_cell BK323.out 0).trans rfl, (blk_cell BK323.out 1).trans rfl⟩ (fun hHeld => ?_)
              clear hK K
              refine norm_ (a' := ?_) ?_ ?_
              rotate_left
              · show Act.put _ (some 32) _ = _
                simp only [Act.put, List.setIfInBounds_toArray, List.set_cons_zero, List.set_cons_succ, i64_w, i32_w]
                rfl
              exact norm_ (by simp only [putAll, Act.put, List.setIfInBounds_toArray, List.set_cons_zero, List.set_cons_succ]) (hCont (gb335) _ ⟨hHeld, (by (with_reducible repeat (first | refine blk_drewN ?_ _ | refine blk_drew ?_ | refine blk_alloc ?_ _)); exact BK323.out), (by (with_reducible repeat (first | refine blk_drewN ?_ _ | refine blk_drew ?_ | refine blk_alloc ?_ _)); exact BK327.out), (by (with_reducible repeat (first | refine blk_drewN ?_ _ | refine blk_drew ?_ | refine blk_alloc ?_ _)); exact BK335.out), GW335.out, GE335.out, NB323_335.out, NB335_323.out, NB327_335.out, NB335_327.out, (by repeat (first | (with_reducible first | exact HB.out | apply below_alloc | apply pw_below_drewN | apply below_drew1 | refine below_set ?_ GE323.out | refine below_set ?_ GE327.out | refine below_set ?_ GE335.out) | exact HB.out))⟩)
          · skip
            refine box_step ?hg (N := 9) ?hd (cs := #[.int .i64 0, .int .i64 0, .int .i64 0]) (t := 46) ?hr ?_; (case hd => rfl); (case hg => rfl); (case hr => first | (go_simp; done) | (go_simp; rfl))
            intro gb335 hg w27 hbox hb
            have n0_ := Aside0.mk (blk_below (g := gb323) (o := .cells #[.int .i64 t321, .int .i64 t322] 24 (0, 0)) (by (with_reducible repeat (first | refine blk_drewN ?_ _ | refine blk_drew ?_ | refine blk_alloc ?_ _)); exact BK323.out) hb)
            have n1_ := Aside0.mk (blk_below (g := gb327) (o := .cells #[.int .i64 t325, .int .i64 t326] 24 (0, 0)) (by (with_reducible repeat (first | refine blk_drewN ?_ _ | refine blk_drew ?_ | refine blk_alloc ?_ _)); exact BK327.out) hb)
            have n2_ := Aside0.mk (below_step (by repeat (first | (with_reducible first | exact HB.out | apply below_alloc | apply pw_below_drewN | apply below_drew1 | refine below_set ?_ GE323.out | refine below_set ?_ GE327.out) | exact HB.out)) hb)
            have n3_ := Aside0.mk (hbox)
            have n4_ := Aside0.mk ((by rw [hg]; exact (below_size (by repeat (first | (with_reducible first | exact HB.out | apply below_alloc | apply pw_below_drewN | apply below_drew1 | refine below_set ?_ GE323.out | refine below_set ?_ GE327.out) | exact HB.out))) : w.heap.size ≤ gb335))
            have n5_ := Aside0.mk ((by rw [hg]; exact (below_size (by repeat (first | (with_reducible first | exact HB.out | apply below_alloc | apply pw_below_drewN | apply below_drew1 | refine below_set ?_ GE323.out | refine below_set ?_ GE327.out) | exact HB.out))) : w.heap.size ≤ gb335))
            have n6_ := Aside0.mk ((by rw [hg]; exact Nat.ne_of_lt (blk_lt (g := gb323) (o := .cells #[.int .i64 t321, .int .i64 t322] 24 (0, 0)) (by (with_reducible repeat (first | refine blk_drewN ?_ _ | refine blk_drew ?_ | refine blk_alloc ?_ _)); exact BK323.out)) : gb323 ≠ gb335))
            have n7_ := Aside0.mk ((by rw [hg]; exact Nat.ne_of_gt (blk_lt (g := gb323) (o := .cells #[.int .i64 t321, .int .i64 t322] 24 (0, 0)) (by (with_reducible repeat (first | refine blk_drewN ?_ _ | refine blk_drew ?_ | refine blk_alloc ?_ _)); exact BK323.out)) : gb335 ≠ gb323))
            have n8_ := Aside0.mk ((by rw [hg]; exact Nat.ne_of_lt (blk_lt (g := gb327) (o := .cells #[.int .i64 t325, .int .i64 t326] 24 (0, 0)) (by (with_reducible repeat (first | refine blk_drewN ?_ _ | refine blk_drew ?_ | refine blk_alloc ?_ _)); exact BK327.out)) : gb327 ≠ gb335))
            have n9_ := Aside0.mk ((by rw [hg]; exact Nat.ne_of_gt (blk_lt (g := gb327) (o := .cells #[.int .i64 t325, .int .i64 t326] 24 (0, 0)) (by (with_reducible repeat (first | refine blk_drewN ?_ _ | refine blk_drew ?_ | refine blk_alloc ?_ _)); exact BK327.out)) : gb335 ≠ gb327))
            clear BK323
            clear BK327
            clear HB
            have BK323 := n0_
            have BK327 := n1_
            have HB := n2_
            have BK335 := n3_
            have GW335 := n4_
            have GE335 := n5_
            have NB323_335 := n6_
            have NB335_323 := n7_
            have NB327_335 := n8_
            have NB335_327 := n9_
            clear n0_ n1_ n2_ n3_ n4_ n5_ n6_ n7_ n8_ n9_
            clear hb hbox hg
            refine hK.out _ _ ⟨(blk_cell BK323.out 0).trans rfl, (blk_cell BK323.out 1).trans rfl⟩ (fun hHeld => ?_)
            clear hK K
            refine norm_ (a' := ?_) ?_ ?_
            rotate_left
            · show Act.put _ (some 9) _ = _
              simp only [Act.put, List.setIfInBounds_toArray, List.set_cons_zero, List.set_cons_succ, i64_w, i32_w]
              rfl
            refine one_ (i := 2) (N := some 26) #[true, true, true, true, true, true, true, true, false, true, false] rfl rfl (one_of HT_.out (by kernel_rfl)) (by decide) (fun K hK => ?_)
            refine goes_ Try.func38 (by kernel_rfl) rfl #[.agg #[.int .i64 0, .int .i64 0, .int .i64 1], .int .i64 (wrap64 (2 * t324))] (by rfl) rfl rfl (by (try simp only [List.map_toArray, List.map_cons, List.map_nil]); first | done | rfl | (simp only [List.length_drop, List.length_take]; rfl)) ?_
            with_reducible refine (quat_Of.calls k 0 0 1 (wrap64 (2 * t324)) t328 t329 t330 t331 _ A10.out).mono ?_
            rintro e w28 ⟨rfl, hb⟩
            refine ⟨_, rfl, ?_⟩
            have n0_ := Aside0.mk (blk_below (g := gb323) (o := .cells #[.int .i64 t321, .int .i64 t322] 24 (0, 0)) (by (with_reducible repeat (first | refine blk_drewN ?_ _ | refine blk_drew ?_ | refine blk_alloc ?_ _)); exact BK323.out) hb)
            have n1_ := Aside0.mk (blk_below (g := gb327) (o := .cells #[.int .i64 t325, .int .i64 t326] 24 (0, 0)) (by (with_reducible repeat (first | refine blk_drewN ?_ _ | refine blk_drew ?_ | refine blk_alloc ?_ _)); exact BK327.out) hb)
            have n2_ := Aside0.mk (blk_below (g := gb335) (o := .cells #[.int .i64 0, .int .i64 0, .int .i64 0] 46 (0, 0)) (by (with_reducible repeat (first | refine blk_drewN ?_ _ | refine blk_drew ?_ | refine blk_alloc ?_ _)); exact BK335.out) hb)
            have n3_ := Aside0.mk (below_step (by repeat (first | (with_reducible first | exact HB.out | apply below_alloc | apply pw_below_drewN | apply below_drew1 | refine below_set ?_ GE323.out | refine below_set ?_ GE327.out | refine below_set ?_ GE335.out) | exact HB.out)) hb)
            clear BK323
            clear BK327
            clear BK335
            clear HB
            have BK323 := n0_
            have BK327 := n1_
            have BK335 := n2_
            have HB := n3_
            clear n0_ n1_ n2_ n3_
            (try clear hb)
            (try clear hb2)
            (try clear hk)
            (try clear hi)
            refine hK.out _ _ ⟨(blk_cell BK323.out 0).trans rfl, (blk_cell BK323.out 1).trans rfl⟩ (fun hHeld => ?_)
            clear hK K
            refine norm_ (a' := ?_) ?_ ?_
            rotate_left
            · show Act.put _ (some 26) _ = _
              simp only [Act.put, List.setIfInBounds_toArray, List.set_cons_zero, List.set_cons_succ, i64_w, i32_w]
              rfl
            refine one_ (i := 8) (N := some 32) #[true, true, true, true, true, true, true, true, true, true, false] rfl rfl (one_of HT_.out (by kernel_rfl)) (by decide) (fun K hK => ?_)
            refine goes_ Try.func35 (by kernel_rfl) rfl #[.agg #[.int .i64 t328, .int .i64 t329, .int .i64 t330, .int .i64 t331], .agg #[.int .i64 t321, .int .i64 t322, .int .i64 5]] (by rfl) rfl rfl (by (try simp only [List.map_toArray, List.map_cons, List.map_nil]); first | done | rfl | (simp only [List.length_drop, List.length_take]; rfl)) ?_
            with_reducible refine (quat_Turn.calls k t328 t329 t330 t331 t321 t322 5 t332 t333 t334 _ A11.out).mono ?_
            rintro e w29 ⟨rfl, hb⟩
            refine ⟨_, rfl, ?_⟩
            have n0_ := Aside0.mk (blk_below (g := gb323) (o := .cells #[.int .i64 t321, .int .i64 t322] 24 (0, 0)) (by (with_reducible repeat (first | refine blk_drewN ?_ _ | refine blk_drew ?_ | refine blk_alloc ?_ _)); exact BK323.out) hb)
            have n1_ := Aside0.mk (blk_below (g := gb327) (o := .cells #[.int .i64 t325, .int .i64 t326] 24 (0, 0)) (by (with_reducible repeat (first | refine blk_drewN ?_ _ | refine blk_drew ?_ | refine blk_alloc ?_ _)); exact BK327.out) hb)
            have n2_ := Aside0.mk (blk_below (g := gb335) (o := .cells #[.int .i64 0, .int .i64 0, .int .i64 0] 46 (0, 0)) (by (with_reducible repeat (first | refine blk_drewN ?_ _ | refine blk_drew ?_ | refine blk_alloc ?_ _)); exact BK335.out) hb)
            have n3_ := Aside0.mk (below_step (by repeat (first | (with_reducible first | exact HB.out | apply below_alloc | apply pw_below_drewN | apply below_drew1 | refine below_set ?_ GE323.out | refine below_set ?_ GE327.out | refine below_set ?_ GE335.out) | exact HB.out)) hb)
            clear BK323
            clear BK327
            clear BK335
            clear HB
            have BK323 := n0_
            have BK327 := n1_
            have BK335 := n2_
            have HB := n3_
            clear n0_ n1_ n2_ n3_
            (try clear hb)
            (try clear hb2)
            (try clear hk)
            (try clear hi)
            refine hK.out _ _ ⟨(blk_cell BK323.out 0).trans rfl, (blk_cell BK323.out 1).trans rfl⟩ (fun hHeld => ?_)
            clear hK K
            refine norm_ (a' := ?_) ?_ ?_
            rotate_left
            · show Act.put _ (some 32) _ = _
              simp only [Act.put, List.setIfInBounds_toArray, List.set_cons_zero, List.set_cons_succ, i64_w, i32_w]
              rfl
            exact norm_ (by simp only [putAll, Act.put, List.setIfInBounds_toArray, List.set_cons_zero, List.set_cons_succ]) (hCont (gb335) _ ⟨hHeld, (by (with_reducible repeat (first | refine blk_drewN ?_ _ | refine blk_drew ?_ | refine blk_alloc ?_ _)); exact BK323.out), (by (with_reducible repeat (first | refine blk_drewN ?_ _ | refine blk_drew ?_ | refine blk_alloc ?_ _)); exact BK327.out), (by (with_reducible repeat (first | refine blk_drewN ?_ _ | refine blk_drew ?_ | refine blk_alloc ?_ _)); exact BK335.out), GW335.out, GE335.out, NB323_335.out, NB335_323.out, NB327_335.out, NB335_327.out, (by repeat (first | (with_reducible first | exact HB.out | apply below_alloc | apply pw_below_drewN | apply below_drew1 | refine below_set ?_ GE323.out | refine below_set ?_ GE327.out | refine below_set ?_ GE335.out) | exact HB.out))⟩)
        rintro gb335 w30 ⟨hS_, h0_, h1_, h2_, h3_, h4_, h5_, h6_, h7_, h8_, h9_⟩
        have n0_ : Aside0 (w30.heap[gb323]? = some (.cells #[.int .i64 t321, .int .i64 t322] 24 (0, 0))) := ⟨h0_⟩
        have n1_ : Aside0 (w30.heap[gb327]? = some (.cells #[.int .i64 t325, .int .i64 t326] 24 (0, 0))) := ⟨h1_⟩
        have n2_ : Aside0 (w30.heap[gb335]? = some (.cells #[.int .i64 0, .int .i64 0, .int .i64 0] 46 (0, 0))) := ⟨h2_⟩
        have n3_ : Aside0 (w.heap.size ≤ gb335) := ⟨h3_⟩
        have n4_ : Aside0 (w.heap.size ≤ gb335) := ⟨h4_⟩
        have n5_ : Aside0 (gb323 ≠ gb335) := ⟨h5_⟩
        have n6_ : Aside0 (gb335 ≠ gb323) := ⟨h6_⟩
        have n7_ : Aside0 (gb327 ≠ gb335) := ⟨h7_⟩
        have n8_ : Aside0 (gb335 ≠ gb327) := ⟨h8_⟩
        have n9_ : Aside0 (Below w.heap.size w w30) := ⟨h9_⟩
        clear BK323
        clear BK327
        clear HB
        clear h0_ h1_ h2_ h3_ h4_ h5_ h6_ h7_ h8_ h9_
        have BK323 := n0_
        have BK327 := n1_
        have BK335 := n2_
        have GW335 := n3_
        have GE335 := n4_
        have NB323_335 := n5_
        have NB335_323 := n6_
        have NB327_335 := n7_
        have NB335_327 := n8_
        have HB := n9_
        clear n0_ n1_ n2_ n3_ n4_ n5_ n6_ n7_ n8_ n9_
        have hHeld : w30.cell? ⟨gb323, 0, none⟩ = some (.int .i64 t321) ∧ w30.cell? ⟨gb323, 1, none⟩ = some (.int .i64 t322) := hS_
        refine norm_ (a' := ?_) ?_ ?_
        rotate_left
        · simp only [putAll, Act.put, List.setIfInBounds_toArray, List.set_cons_zero, List.set_cons_succ]
          rfl
        refine one_ (i := 10) (N := none) #[true, true, true, true, true, true, true, true, true, true, true] rfl rfl (one_of HT_.out (by kernel_rfl)) (by decide) (fun K hK => ?_)
        have hs31 : w30.cell? ⟨gb335, 0, none⟩ = some (.int .i64 0) := (blk_cell BK335.out 0).trans rfl
        have hfs31 := blk_frozen BK335.out 0
        have hns31_0 := NB323_335.out
        have hns31_1 := NB327_335.out
        have hms31_0 := NB335_323.out
        have hms31_1 := NB335_327.out
        have hs32 : w30.cell? ⟨gb335, 1, none⟩ = some (.int .i64 0) := (blk_cell BK335.out 1).trans rfl
        have hfs32 := blk_frozen BK335.out 1
        have hns32_0 := NB323_335.out
        have hns32_1 := NB327_335.out
        have hms32_0 := NB335_323.out
        have hms32_1 := NB335_327.out
        have hs33 : w30.cell? ⟨gb335, 2, none⟩ = some (.int .i64 0) := (blk_cell BK335.out 2).trans rfl
        have hfs33 := blk_frozen BK335.out 2
        have hns33_0 := NB323_335.out
        have hns33_1 := NB327_335.out
        have hms33_0 := NB335_323.out
        have hms33_1 := NB335_327.out
        refine skip_ (w1 := ?_) (by rfl) rfl ?_ ?_
        rotate_left
        · go_simp
          rfl
        refine hK.out _ _ ⟨((cell_far (p := ⟨gb335, _, none⟩) NB323_335.out _).trans (((cell_far (p := ⟨gb335, _, none⟩) NB323_335.out _).trans (((cell_far (p := ⟨gb335, _, none⟩) NB323_335.out _).trans (hHeld.1)))))), ((cell_far (p := ⟨gb335, _, none⟩) NB323_335.out _).trans (((cell_far (p := ⟨gb335, _, none⟩) NB323_335.out _).trans (((cell_far (p := ⟨gb335, _, none⟩) NB323_335.out _).trans (hHeld.2))))))⟩ (fun hHeld => ?_)
        clear hK K
        refine done_ (done_of HT_.out (by kernel_rfl)) ?_
        have hnb34 := NB323_335.out
        have hnc34 := NB335_323.out
        have hcz35_0 : w30.cell? ⟨gb323, 0, none⟩ = some (.int .i64 t321) := (blk_cell BK323.out 0).trans rfl
        have hcz35_1 : w30.cell? ⟨gb323, 1, none⟩ = some (.int .i64 t322) := (blk_cell BK323.out 1).trans rfl
        have hfz35_0 := blk_frozen BK323.out 0
        have hfz35_1 := blk_frozen BK323.out 1
        try go_wp2_with (first | ((with_reducible refine gate_callee (f := 14) rfl ?_); refine goesL_ (some 34) rfl rfl Try.func14 (by kernel_rfl) rfl #[.agg #[.int .i64 t321, .int .i64 t322]] rfl (by (try simp only [List.map_toArray, List.map_cons, List.map_nil]); first | done | rfl | (simp only [List.length_drop, List.length_take]; rfl)) ?_; (with_reducible refine (vec_Len.calls k t321 t322 t336 _ A12.out).mono ?_); rintro e w36 ⟨rfl, hb⟩; refine ⟨_, rfl, ?_⟩; have n0_ := Aside0.mk (blk_below (g := gb323) (o := .cells #[.int .i64 t321, .int .i64 t322] 24 (0, 0)) (by (with_reducible repeat (first | refine blk_drewN ?_ _ | refine blk_drew ?_ | refine blk_alloc ?_ _)); refine blk_far ?_ NB323_335.out _; (with_reducible repeat (first | refine blk_drewN ?_ _ | refine blk_drew ?_ | refine blk_alloc ?_ _)); refine blk_far ?_ NB323_335.out _; (with_reducible repeat (first | refine blk_drewN ?_ _ | refine blk_drew ?_ | refine blk_alloc ?_ _)); refine blk_far ?_ NB323_335.out _; (with_reducible repeat (first | refine blk_drewN ?_ _ | refine blk_drew ?_ | refine blk_alloc ?_ _)); exact BK323.out) hb); have n1_ := Aside0.mk (blk_below (g := gb327) (o := .cells #[.int .i64 t325, .int .i64 t326] 24 (0, 0)) (by (with_reducible repeat (first | refine blk_drewN ?_ _ | refine blk_drew ?_ | refine blk_alloc ?_ _)); refine blk_far ?_ NB327_335.out _; (with_reducible repeat (first | refine blk_drewN ?_ _ | refine blk_drew ?_ | refine blk_alloc ?_ _)); refine blk_far ?_ NB327_335.out _; (with_reducible repeat (first | refine blk_drewN ?_ _ | refine blk_drew ?_ | refine blk_alloc ?_ _)); refine blk_far ?_ NB327_335.out _; (with_reducible repeat (first | refine blk_drewN ?_ _ | refine blk_drew ?_ | refine blk_alloc ?_ _)); exact BK327.out) hb); have n2_ := Aside0.mk (blk_below (g := gb335) (o := .cells #[.int .i64 t332, .int .i64 t333, .int .i64 t334] 46 (0, 0)) (by (with_reducible repeat (first | refine blk_drewN ?_ _ | refine blk_drew ?_ | refine blk_alloc ?_ _)); refine blk_put (cs := #[.int .i64 t332, .int .i64 t333, .int .i64 0]) ?_ 2 _ rfl; (with_reducible repeat (first | refine blk_drewN ?_ _ | refine blk_drew ?_ | refine blk_alloc ?_ _)); refine blk_put (cs := #[.int .i64 t332, .int .i64 0, .int .i64 0]) ?_ 1 _ rfl; (with_reducible repeat (first | refine blk_drewN ?_ _ | refine blk_drew ?_ | refine blk_alloc ?_ _)); refine blk_put (cs := #[.int .i64 0, .int .i64 0, .int .i64 0]) ?_ 0 _ rfl; (with_reducible repeat (first | refine blk_drewN ?_ _ | refine blk_drew ?_ | refine blk_alloc ?_ _)); exact BK335.out) hb); have n3_ := Aside0.mk (below_step (by repeat (first | (with_reducible first | exact HB.out | apply below_alloc | apply pw_below_drewN | apply below_drew1 | refine below_set ?_ GE323.out | refine below_set ?_ GE327.out | refine below_set ?_ GE335.out) | exact HB.out)) hb); clear BK323; clear BK327; clear BK335; clear HB; have BK323 := n0_; have BK327 := n1_; have BK335 := n2_; have HB := n3_; clear n0_ n1_ n2_ n3_; (try clear hb); (try clear hb2); (try clear hk); (try clear hi); have hnb37 := NB335_327.out; have hnc37 := NB327_335.out; have hcz38_0 : w36.cell? ⟨gb335, 0, none⟩ = some (.int .i64 t332) := (blk_cell BK335.out 0).trans rfl; have hcz38_1 : w36.cell? ⟨gb335, 1, none⟩ = some (.int .i64 t333) := (blk_cell BK335.out 1).trans rfl; have hcz38_2 : w36.cell? ⟨gb335, 2, none⟩ = some (.int .i64 t334) := (blk_cell BK335.out 2).trans rfl; have hfz38_0 := blk_frozen BK335.out 0; have hfz38_1 := blk_frozen BK335.out 1; have hfz38_2 := blk_frozen BK335.out 2; have hcz39_0 : w36.cell? ⟨gb327, 0, none⟩ = some (.int .i64 t325) := (blk_cell BK327.out 0).trans rfl; have hcz39_1 : w36.cell? ⟨gb327, 1, none⟩ = some (.int .i64 t326) := (blk_cell BK327.out 1).trans rfl; have hfz39_0 := blk_frozen BK327.out 0; have hfz39_1 := blk_frozen BK327.out 1) | ((with_reducible refine gate_callee (f := 18) rfl ?_); refine goesL_ (some 42) rfl rfl Try.func18 (by kernel_rfl) rfl #[.int .i64 t332, .int .i64 t325, .int .i64 (wrap64 ((wrap64 (Int.tdiv t336 500)) + 16))] rfl (by (try simp only [List.map_toArray, List.map_cons, List.map_nil]); first | done | rfl | (simp only [List.length_drop, List.length_take]; rfl)) ?_; (with_reducible refine (tourkeep1_near.calls t332 t325 (wrap64 ((wrap64 (Int.tdiv t336 500)) + 16)) true _ A13.out).mono ?_); rintro e w' ⟨rfl, ⟨nd, rfl⟩⟩; refine ⟨_, rfl, ?_⟩) | (go_at_call 18; (with_reducible refine (tourkeep1_near.calls t333 t326 (wrap64 ((wrap64 (Int.tdiv t336 500)) + 16)) true _ A15.out).mono ?_); rintro e w' ⟨rfl, ⟨nd, rfl⟩⟩) | (go_at_call 18; (with_reducible refine (tourkeep1_near.calls t334 5 4 t339 _ A17.out).mono ?_); rintro e w' ⟨rfl, ⟨nd, rfl⟩⟩))
        go_ret
        exact ⟨by first | rfl | (simp [errW_none, errW_some] <;> rfl) | (simp [*, errW_none, errW_some] <;> rfl), by repeat (first | (with_reducible first | exact HB.out | apply below_alloc | apply pw_below_drewN | apply below_drew1 | refine below_set ?_ GE323.out | refine below_set ?_ GE327.out | refine below_set ?_ GE335.out) | exact HB.out)⟩
      · replace c16 := Bool.eq_false_iff.mpr c16
        subst c16
        have H1 : (none) = some r := by rw [if_neg (show ¬ (false = true) by decide)] at H; exact H
        clear H
        have H := H1
        clear H1
        exact absurd H (by simp)
    · replace c14 := Bool.eq_false_iff.mpr c14
      subst c14
      have H1 : (none) = some r := by rw [if_neg (show ¬ (false = true) by decide)] at H; exact H
      clear H
      have H := H1
      clear H1
      exact absurd H (by simp)
  · replace c5 := Bool.eq_false_iff.mpr c5
    subst c5
    have H1 : (none) = some r := by rw [if_neg (show ¬ (false = true) by decide)] at H; exact H
    clear H
    have H := H1
    clear H1
    exact absurd H (by simp)

/-- THE ONE PURE STATEMENT of tourkeep1_QuatPlane: yours. -/
def tourkeep1_QuatPlane.Pure : Prop := ∀ (a0 : Int) (a1 : Int) (a2 : Int), (Lit.int .i64 a0).wf = true → (Lit.int .i64 a1).wf = true → (Lit.int .i64 a2).wf = true → ∃ k, tourkeep1_QuatPlane.f k a0 a1 a2 = some true
theorem tourkeep1_QuatPlane.walk (P : tourkeep1_QuatPlane.Pure) (a0 : Int) (a1 : Int) (a2 : Int) (w : World) (w0 : (Lit.int .i64 a0).wf = true) (w1 : (Lit.int .i64 a1).wf = true) (w2 : (Lit.int .i64 a2).wf = true) :
    Calls Try.prog 11 #[.int .i64 a0, .int .i64 a1, .int .i64 a2] w fun e w' => e = .returned (.bool true) ∧ Below w.heap.size w w' := by
  obtain ⟨k, h⟩ := P a0 a1 a2 w0 w1 w2
  refine (tourkeep1_QuatPlane.calls k a0 a1 a2 true w h).mono ?_
  rintro e w' ⟨rfl, hd⟩
  exact ⟨rfl, hd⟩

end Go.Proofs.Ytngibolpbdncjaa.P
