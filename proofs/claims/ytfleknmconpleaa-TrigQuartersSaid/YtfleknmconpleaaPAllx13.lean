/- Functions of this seat in plain Lean and their contracts, written by a turned copy of the kit's print (turns: wip/pr/make.py of this session). No condition. -/
import Derived.Test.YtfleknmconpleaaPAllx0
import Derived.Test.YtfleknmconpleaaPAllx12
namespace Go.Proofs.Ytfleknmconpleaa.P
open Go.RowKit Go.Proofs.YtfleknmconpleaaW.PrintWords Go.Proofs.YtfleknmconpleaaW.PrintLast Go.Proofs.YtfleknmconpleaaW.PrintMore
attribute [local go_sem] max2_int min2_int max_two min_two max_three min_three max_four min_four   -- for this text's walks alone
set_option linter.unusedVariables false
set_option linter.unusedSimpArgs false

/-! ### trig_Sin: function 32 -/
def trig_Sin.f (a0 : Int) : Option (Int) := if (wrap64 (Int.tdiv (Go.bits .and .i64 a0 65535) 16384)) = 0 then ((trig_first.f (Int.tmod (Go.bits .and .i64 a0 65535) 16384)).bind fun t208 => (some t208)) else (if (wrap64 (Int.tdiv (Go.bits .and .i64 a0 65535) 16384)) = 1 then ((trig_first.f (wrap64 (16384 - (Int.tmod (Go.bits .and .i64 a0 65535) 16384)))).bind fun t209 => (some t209)) else (if (wrap64 (Int.tdiv (Go.bits .and .i64 a0 65535) 16384)) = 2 then ((trig_first.f (Int.tmod (Go.bits .and .i64 a0 65535) 16384)).bind fun t210 => (some (wrap64 (-t210)))) else ((trig_first.f (wrap64 (16384 - (Int.tmod (Go.bits .and .i64 a0 65535) 16384)))).bind fun t211 => (some (wrap64 (-t211))))))
set_option maxHeartbeats 8000000 in
set_option maxRecDepth 100000 in
theorem trig_Sin.calls (a0 : Int) (r : Int) (w : World) (h : trig_Sin.f a0 = some r) :
    Calls Try.prog 32 #[.int .i64 a0] w fun e w' => e = .returned (.int .i64 r) ∧ Below w.heap.size w w' := by
  have HB := Aside0.mk (Below.refl w.heap.size w)
  have H : (if (wrap64 (Int.tdiv (Go.bits .and .i64 a0 65535) 16384)) = 0 then ((trig_first.f (Int.tmod (Go.bits .and .i64 a0 65535) 16384)).bind fun t208 => (some t208)) else (if (wrap64 (Int.tdiv (Go.bits .and .i64 a0 65535) 16384)) = 1 then ((trig_first.f (wrap64 (16384 - (Int.tmod (Go.bits .and .i64 a0 65535) 16384)))).bind fun t209 => (some t209)) else (if (wrap64 (Int.tdiv (Go.bits .and .i64 a0 65535) 16384)) = 2 then ((trig_first.f (Int.tmod (Go.bits .and .i64 a0 65535) 16384)).bind fun t210 => (some (wrap64 (-t210)))) else ((trig_first.f (wrap64 (16384 - (Int.tmod (Go.bits .and .i64 a0 65535) 16384)))).bind fun t211 => (some (wrap64 (-t211))))))) = some r := h
  clear h
  by_cases c2 : (wrap64 (Int.tdiv (Go.bits .and .i64 a0 65535) 16384)) = 0
  · rw [if_pos c2] at H
    have c2b0 : ((wrap64 (Int.tdiv (Go.bits .and .i64 a0 65535) 16384)) == 0) = true := beq_iff_eq.mpr c2
    have c2b1 : ((wrap64 (Int.tdiv (Go.bits .and .i64 a0 65535) 16384)) != 0) = false := bne_eq_false_iff_eq.mpr c2
    clear c2
    replace H := Option.bind_eq_some_iff.mp H
    obtain ⟨t208, A30, H⟩ := H
    replace H : (some t208) = some r := H
    have A3 := Aside0.mk A30
    clear A30
    obtain rfl := Option.some.inj H
    go_enter Try.func32, Try.ntmps32
    go_wp2_with (first | ((with_reducible refine gate_callee (f := 47) rfl ?_); refine goesL_ (some 13) rfl rfl Try.func47 (by kernel_rfl) rfl #[.int .i64 (Int.tmod (Go.bits .and .i64 a0 65535) 16384)] rfl (by (try simp only [List.map_toArray, List.map_cons, List.map_nil]); first | done | rfl | (simp only [List.length_drop, List.length_take]; rfl)) ?_; (with_reducible refine (trig_first.calls (Int.tmod (Go.bits .and .i64 a0 65535) 16384) t208 _ A3.out).mono ?_); rintro e w4 ⟨rfl, hb⟩; refine ⟨_, rfl, ?_⟩; have n0_ := Aside0.mk (below_step (by repeat (first | (with_reducible first | exact HB.out | apply below_alloc | apply pw_below_drewN | apply below_drew1) | exact HB.out)) hb); clear HB; have HB := n0_; clear n0_; (try clear hb); (try clear hb2); (try clear hk); (try clear hi)))
    go_ret
    exact ⟨by first | rfl | (simp [errW_none, errW_some] <;> rfl) | (simp [*, errW_none, errW_some] <;> rfl), by repeat (first | (with_reducible first | exact HB.out | apply below_alloc | apply pw_below_drewN | apply below_drew1) | exact HB.out)⟩
  · rw [if_neg c2] at H
    have c2b0 : ((wrap64 (Int.tdiv (Go.bits .and .i64 a0 65535) 16384)) == 0) = false := beq_eq_false_iff_ne.mpr c2
    have c2b1 : ((wrap64 (Int.tdiv (Go.bits .and .i64 a0 65535) 16384)) != 0) = true := bne_iff_ne.mpr c2
    by_cases c5 : (wrap64 (Int.tdiv (Go.bits .and .i64 a0 65535) 16384)) = 1
    · rw [if_pos c5] at H
      have c5b0 : ((wrap64 (Int.tdiv (Go.bits .and .i64 a0 65535) 16384)) == 1) = true := beq_iff_eq.mpr c5
      have c5b1 : ((wrap64 (Int.tdiv (Go.bits .and .i64 a0 65535) 16384)) != 1) = false := bne_eq_false_iff_eq.mpr c5
      clear c5
      replace H := Option.bind_eq_some_iff.mp H
      obtain ⟨t209, A60, H⟩ := H
      replace H : (some t209) = some r := H
      have A6 := Aside0.mk A60
      clear A60
      obtain rfl := Option.some.inj H
      go_enter Try.func32, Try.ntmps32
      go_wp2_with (first | ((with_reducible refine gate_callee (f := 47) rfl ?_); refine goesL_ (some 18) rfl rfl Try.func47 (by kernel_rfl) rfl #[.int .i64 (wrap64 (16384 - (Int.tmod (Go.bits .and .i64 a0 65535) 16384)))] rfl (by (try simp only [List.map_toArray, List.map_cons, List.map_nil]); first | done | rfl | (simp only [List.length_drop, List.length_take]; rfl)) ?_; (with_reducible refine (trig_first.calls (wrap64 (16384 - (Int.tmod (Go.bits .and .i64 a0 65535) 16384))) t209 _ A6.out).mono ?_); rintro e w7 ⟨rfl, hb⟩; refine ⟨_, rfl, ?_⟩; have n0_ := Aside0.mk (below_step (by repeat (first | (with_reducible first | exact HB.out | apply below_alloc | apply pw_below_drewN | apply below_drew1) | exact HB.out)) hb); clear HB; have HB := n0_; clear n0_; (try clear hb); (try clear hb2); (try clear hk); (try clear hi)))
      go_ret
      exact ⟨by first | rfl | (simp [errW_none, errW_some] <;> rfl) | (simp [*, errW_none, errW_some] <;> rfl), by repeat (first | (with_reducible first | exact HB.out | apply below_alloc | apply pw_below_drewN | apply below_drew1) | exact HB.out)⟩
    · rw [if_neg c5] at H
      have c5b0 : ((wrap64 (Int.tdiv (Go.bits .and .i64 a0 65535) 16384)) == 1) = false := beq_eq_false_iff_ne.mpr c5
      have c5b1 : ((wrap64 (Int.tdiv (Go.bits .and .i64 a0 65535) 16384)) != 1) = true := bne_iff_ne.mpr c5
      by_cases c8 : (wrap64 (Int.tdiv (Go.bits .and .i64 a0 65535) 16384)) = 2
      · rw [if_pos c8] at H
        have c8b0 : ((wrap64 (Int.tdiv (Go.bits .and .i64 a0 65535) 16384)) == 2) = true := beq_iff_eq.mpr c8
        have c8b1 : ((wrap64 (Int.tdiv (Go.bits .and .i64 a0 65535) 16384)) != 2) = false := bne_eq_false_iff_eq.mpr c8
        clear c8
        replace H := Option.bind_eq_some_iff.mp H
        obtain ⟨t210, A90, H⟩ := H
        replace H : (some (wrap64 (-t210))) = some r := H
        have A9 := Aside0.mk A90
        clear A90
        obtain rfl := Option.some.inj H
        go_enter Try.func32, Try.ntmps32
        go_wp2_with (first | ((with_reducible refine gate_callee (f := 47) rfl ?_); refine goesL_ (some 22) rfl rfl Try.func47 (by kernel_rfl) rfl #[.int .i64 (Int.tmod (Go.bits .and .i64 a0 65535) 16384)] rfl (by (try simp only [List.map_toArray, List.map_cons, List.map_nil]); first | done | rfl | (simp only [List.length_drop, List.length_take]; rfl)) ?_; (with_reducible refine (trig_first.calls (Int.tmod (Go.bits .and .i64 a0 65535) 16384) t210 _ A9.out).mono ?_); rintro e w10 ⟨rfl, hb⟩; refine ⟨_, rfl, ?_⟩; have n0_ := Aside0.mk (below_step (by repeat (first | (with_reducible first | exact HB.out | apply below_alloc | apply pw_below_drewN | apply below_drew1) | exact HB.out)) hb); clear HB; have HB := n0_; clear n0_; (try clear hb); (try clear hb2); (try clear hk); (try clear hi)))
        go_ret
        exact ⟨by first | rfl | (simp [errW_none, errW_some] <;> rfl) | (simp [*, errW_none, errW_some] <;> rfl), by repeat (first | (with_reducible first | exact HB.out | apply below_alloc | apply pw_below_drewN | apply below_drew1) | exact HB.out)⟩
      · rw [if_neg c8] at H
        have c8b0 : ((wrap64 (Int.tdiv (Go.bits .and .i64 a0 65535) 16384)) == 2) = false := beq_eq_false_iff_ne.mpr c8
        have c8b1 : ((wrap64 (Int.tdiv (Go.bits .and .i64 a0 65535) 16384)) != 2) = true := bne_iff_ne.mpr c8
        replace H := Option.bind_eq_some_iff.mp H
        obtain ⟨t211, A110, H⟩ := H
        replace H : (some (wrap64 (-t211))) = some r := H
        have A11 := Aside0.mk A110
        clear A110
        obtain rfl := Option.some.inj H
        go_enter Try.func32, Try.ntmps32
        go_wp2_with (first | ((with_reducible refine gate_callee (f := 47) rfl ?_); refine goesL_ (some 26) rfl rfl Try.func47 (by kernel_rfl) rfl #[.int .i64 (wrap64 (16384 - (Int.tmod (Go.bits .and .i64 a0 65535) 16384)))] rfl (by (try simp only [List.map_toArray, List.map_cons, List.map_nil]); first | done | rfl | (simp only [List.length_drop, List.length_take]; rfl)) ?_; (with_reducible refine (trig_first.calls (wrap64 (16384 - (Int.tmod (Go.bits .and .i64 a0 65535) 16384))) t211 _ A11.out).mono ?_); rintro e w12 ⟨rfl, hb⟩; refine ⟨_, rfl, ?_⟩; have n0_ := Aside0.mk (below_step (by repeat (first | (with_reducible first | exact HB.out | apply below_alloc | apply pw_below_drewN | apply below_drew1) | exact HB.out)) hb); clear HB; have HB := n0_; clear n0_; (try clear hb); (try clear hb2); (try clear hk); (try clear hi)))
        go_ret
        exact ⟨by first | rfl | (simp [errW_none, errW_some] <;> rfl) | (simp [*, errW_none, errW_some] <;> rfl), by repeat (first | (with_reducible first | exact HB.out | apply below_alloc | apply pw_below_drewN | apply below_drew1) | exact HB.out)⟩

/-! ### trig_Cos: function 33 -/
def trig_Cos.f (a0 : Int) : Option (Int) := (trig_Sin.f (wrap64 ((Go.bits .and .i64 a0 65535) + 16384))).bind fun t212 => (some t212)
set_option maxHeartbeats 8000000 in
set_option maxRecDepth 100000 in
theorem trig_Cos.calls (a0 : Int) (r : Int) (w : World) (h : trig_Cos.f a0 = some r) :
    Calls Try.prog 33 #[.int .i64 a0] w fun e w' => e = .returned (.int .i64 r) ∧ Below w.heap.size w w' := by
  have HB := Aside0.mk (Below.refl w.heap.size w)
  have H : ((trig_Sin.f (wrap64 ((Go.bits .and .i64 a0 65535) + 16384))).bind fun t212 => (some t212)) = some r := h
  clear h
  replace H := Option.bind_eq_some_iff.mp H
  obtain ⟨t212, A20, H⟩ := H
  replace H : (some t212) = some r := H
  have A2 := Aside0.mk A20
  clear A20
  obtain rfl := Option.some.inj H
  go_enter Try.func33, Try.ntmps33
  go_wp2_with (first | ((with_reducible refine gate_callee (f := 32) rfl ?_); refine goesL_ (some 6) rfl rfl Try.func32 (by kernel_rfl) rfl #[.int .i64 (wrap64 ((Go.bits .and .i64 a0 65535) + 16384))] rfl (by (try simp only [List.map_toArray, List.map_cons, List.map_nil]); first | done | rfl | (simp only [List.length_drop, List.length_take]; rfl)) ?_; (with_reducible refine (trig_Sin.calls (wrap64 ((Go.bits .and .i64 a0 65535) + 16384)) t212 _ A2.out).mono ?_); rintro e w3 ⟨rfl, hb⟩; refine ⟨_, rfl, ?_⟩; have n0_ := Aside0.mk (below_step (by repeat (first | (with_reducible first | exact HB.out | apply below_alloc | apply pw_below_drewN | apply below_drew1) | exact HB.out)) hb); clear HB; have HB := n0_; clear n0_; (try clear hb); (try clear hb2); (try clear hk); (try clear hi)))
  go_ret
  exact ⟨by first | rfl | (simp [errW_none, errW_some] <;> rfl) | (simp [*, errW_none, errW_some] <;> rfl), by repeat (first | (with_reducible first | exact HB.out | apply below_alloc | apply pw_below_drewN | apply below_drew1) | exact HB.out)⟩

end Go.Proofs.Ytfleknmconpleaa.P
