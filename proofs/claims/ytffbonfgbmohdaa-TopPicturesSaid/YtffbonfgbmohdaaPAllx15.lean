/- Functions of this seat in plain Lean and their contracts, written by a turned copy of the kit's print (turns: wip/pr/make.py of this session). No condition. Short rows. -/
import Derived.Test.YtffbonfgbmohdaaPAllx0
import Derived.Test.YtffbonfgbmohdaaPAllx13
namespace Go.Proofs.Ytffbonfgbmohdaa.P
open Go.RowKit Go.Proofs.YtffbonfgbmohdaaW.PrintWords Go.Proofs.YtffbonfgbmohdaaW.PrintLast Go.Proofs.YtffbonfgbmohdaaW.PrintMore
attribute [local go_sem] max2_int min2_int max_two min_two max_three min_three max_four min_four   -- for this text's walks alone
set_option linter.unusedVariables false
set_option linter.unusedSimpArgs false

/-! ### trig_first: function 45 -/
def sines : List Int := [0, 1608, 3216, 4821, 6424, 8022, 9616, 11204, 12785, 14359, 15924, 17479, 19024,
  20557, 22078, 23586, 25080, 26558, 28020, 29466, 30893, 32303, 33692, 35062, 36410, 37736,
  39040, 40320, 41576, 42806, 44011, 45190, 46341, 47464, 48559, 49624, 50660, 51665, 52639,
  53581, 54491, 55368, 56212, 57022, 57798, 58538, 59244, 59914, 60547, 61145, 61705, 62228,
  62714, 63162, 63572, 63944, 64277, 64571, 64827, 65043, 65220, 65358, 65457, 65516, 65536]
def sineCells : Array Value := (sines.map (Value.int .i64)).toArray
def zeroCells : Array Value := (List.replicate 65 (Value.int .i64 0)).toArray
theorem zeroTab (w : World) : (zeroValue 90).run Try.prog w = .ok (.agg zeroCells) w := by kernel_rfl
theorem infoTab : (Try.prog.info? 90).map (·.size) = some sineCells.size := by kernel_rfl
set_option maxHeartbeats 800000 in
set_option maxRecDepth 100000 in
theorem trig_table.calls (w : World) :
  Calls Try.prog 48 #[] w fun e w' => e = .returned (.agg sineCells) ∧ w' = w.alloc (.cells sineCells 90) := by
 have hz := zeroTab
 go_enter Try.func48, Try.ntmps48
 go_wp2_with (first | (with_reducible refine wpList_buildFlatArrTo rfl 90 3 65 _ rfl .i64 sines (some 1) rfl Try.underlying90 ?b1 ?b2 ?b3 ?_) | (with_reducible refine wpList_store_rowTo rfl 90 _ _ rfl rfl w.heap.size sineCells ?s1 ?s2 90 zeroCells ?s3 infoTab ?s4 ?s5 ?_))
 case b1 => kernel_rfl
 case b2 => kernel_rfl
 case b3 => kernel_rfl
 case s1 => rfl
 case s2 => rfl
 case s3 => exact heap_alloc_new _ _
 case s4 => rfl
 case s5 => kernel_rfl
 rw [World.setRow_alloc_new]
 exact bodyPost_ret (v := .agg sineCells) (results_cell_row (by rfl) _ _ w.heap.size 90 sineCells (0, 0) _ rfl (heap_alloc_new _ _) Try.underlying90 rfl infoTab) rfl ⟨rfl, rfl⟩

theorem tab_new (W : World) : ((W.alloc (.cells sineCells 90)).alloc (.cells zeroCells 90)).heap[W.heap.size + 1]? = some (.cells zeroCells 90 (0, 0)) := by
 have hs : W.heap.size + 1 = (W.alloc (.cells sineCells 90)).heap.size := by show _ = (W.heap.push _).size; simp
 rw [hs]; exact heap_alloc_new _ _
def tabAt (i : Int) : Int := sines.getD i.toNat 0
def sinFirst (a : Int) : Int := if a % 256 = 0 then tabAt (a / 256) else tabAt (a / 256) + ((tabAt (a / 256 + 1) - tabAt (a / 256)) * (a % 256) + 128) / 256
def tabWorld (W : World) : World := ((W.alloc (.cells sineCells 90)).alloc (.cells zeroCells 90)).setRow (W.heap.size + 1) sineCells
theorem tab_cell (W : World) (i : Int) (h0 : 0 ≤ i) (h1 : i < 65) : (tabWorld W).cell? ⟨W.heap.size + 1, i.toNat, none⟩ = some (.int .i64 (tabAt i)) := by
 unfold tabWorld
 rw [cell_setRow_same _ _ _ _ _ 90 (0, 0) (tab_new W)]
 obtain ⟨j, rfl⟩ : ∃ j : Nat, i = (j : Int) := ⟨i.toNat, by omega⟩
 have h : ∀ j : Fin 65, sineCells[((j.val : Int)).toNat]? = some (.int .i64 (tabAt (j.val : Int))) := by
  intro ⟨j, hj⟩
  have hl : j < sines.length := hj
  show sineCells[j]? = some (.int .i64 (sines.getD j 0))
  unfold sineCells
  rw [List.getElem?_toArray, List.getElem?_map, List.getD_eq_getElem?_getD, List.getElem?_eq_getElem hl]
  rfl
 exact h ⟨j, by omega⟩
theorem tab_range (i : Int) : 0 ≤ tabAt i ∧ tabAt i ≤ 65536 := by
 unfold tabAt
 have h : ∀ x ∈ sines, 0 ≤ x ∧ x ≤ 65536 := by decide
 rw [List.getD_eq_getElem?_getD]
 cases hx : sines[i.toNat]? with
 | none => simp
 | some y => exact h y (List.mem_of_getElem? hx)
theorem tab_up (i : Int) (h0 : 0 ≤ i) (h1 : i < 64) : tabAt i ≤ tabAt (i + 1) := by
 have h : ∀ j : Fin 64, tabAt (j.val : Int) ≤ tabAt ((j.val : Int) + 1) := by decide +kernel
 obtain ⟨j, rfl⟩ : ∃ j : Nat, i = (j : Int) := ⟨i.toNat, by omega⟩
 exact h ⟨j, by omega⟩
theorem tabWorld_below (W : World) : Below W.heap.size W (tabWorld W) := by
 unfold tabWorld
 exact below_setRow ((((Below.refl _ _).alloc (Nat.le_refl _) _).alloc (by show _ ≤ (W.heap.push _).size; simp) _)) (by omega) _
theorem below_drewN' {B : Nat} {a w : World} (h : Below B a w) (n : Nat) : Below B a (w.drewN n) := by
 repeat (first | exact h | apply pw_below_drewN)
set_option maxHeartbeats 800000 in
set_option maxRecDepth 100000 in
theorem trig_first.calls0 (a : Int) (w : World) (h0 : 0 ≤ a) (h1 : a ≤ 16384) (hf : a % 256 = 0) :
  Calls Try.prog 45 #[.int .i64 a] w fun e w' => e = .returned (.int .i64 (sinFirst a)) ∧ Below w.heap.size w w' := by
 have hz := zeroTab
 have hc := tab_cell w (a / 256) (by omega) (by omega)
 have hB := tabWorld_below w
 have hs : sinFirst a = tabAt (a / 256) := by unfold sinFirst; rw [if_pos hf]
 rw [hs]
 clear hs
 generalize tabAt (a / 256) = T at *
 go_enter Try.func45, Try.ntmps45
 go_wp2_with (first | (go_at_call 48; refine (trig_table.calls _).mono ?_; rintro e w' ⟨rfl, rfl⟩) | ((with_reducible refine wpList_store_rowTo rfl 90 _ _ rfl rfl (w.heap.size + 1) sineCells ?s1 ?s2 90 zeroCells ?s3 infoTab ?s4 ?s5 ?_); rotate_left 5; show wpList _ _ _ _ _ (tabWorld w); generalize tabWorld w = w2 at *))
 case s1 => rfl
 case s2 => rfl
 case s3 => exact tab_new w
 case s4 => rfl
 case s5 => kernel_rfl
 go_ret
 exact ⟨rfl, hB⟩
set_option maxHeartbeats 800000 in
set_option maxRecDepth 100000 in
theorem trig_first.calls1 (a : Int) (w : World) (h0 : 0 ≤ a) (h1 : a < 16384) (hf : a % 256 ≠ 0) :
  Calls Try.prog 45 #[.int .i64 a] w fun e w' => e = .returned (.int .i64 (sinFirst a)) ∧ Below w.heap.size w w' := by
 have hz := zeroTab
 have hc := tab_cell w (a / 256) (by omega) (by omega)
 have hc1 := tab_cell w (a / 256 + 1) (by omega) (by omega)
 have hB := tabWorld_below w
 have hs : sinFirst a = tabAt (a / 256) + ((tabAt (a / 256 + 1) - tabAt (a / 256)) * (a % 256) + 128) / 256 := by unfold sinFirst; rw [if_neg hf]
 rw [hs]
 clear hs
 obtain ⟨t0, t1⟩ := tab_range (a / 256)
 obtain ⟨u0, u1⟩ := tab_range (a / 256 + 1)
 have hup := tab_up (a / 256) (by omega) (by omega)
 generalize tabAt (a / 256) = T at *
 generalize tabAt (a / 256 + 1) = U at *
 have hf0 : 0 ≤ a % 256 := by omega
 have hf1 : a % 256 < 256 := by omega
 have m0 : 0 ≤ (U - T) * (a % 256) := Int.mul_nonneg (by omega) hf0
 have m1 : (U - T) * (a % 256) ≤ 65536 * 256 := Int.mul_le_mul (by omega) (by omega) hf0 (by omega)
 have s1 : IntKind.i64.wrap (a / 256 + 1) = a / 256 + 1 := by rw [IntKind.wrap_i64]; omega
 have s2 : IntKind.i64.wrap (U - T) = U - T := by rw [IntKind.wrap_i64]; omega
 have s3 : IntKind.i64.wrap ((U - T) * (a % 256)) = (U - T) * (a % 256) := by rw [IntKind.wrap_i64]; omega
 have s4 : IntKind.i64.wrap ((U - T) * (a % 256) + 128) = (U - T) * (a % 256) + 128 := by rw [IntKind.wrap_i64]; omega
 have s5 : ((U - T) * (a % 256) + 128).tdiv 256 = ((U - T) * (a % 256) + 128) / 256 := Int.tdiv_eq_ediv_of_nonneg (by omega)
 have s6 : IntKind.i64.wrap (((U - T) * (a % 256) + 128) / 256) = ((U - T) * (a % 256) + 128) / 256 := by rw [IntKind.wrap_i64]; omega
 have s7 : IntKind.i64.wrap (T + ((U - T) * (a % 256) + 128) / 256) = T + ((U - T) * (a % 256) + 128) / 256 := by rw [IntKind.wrap_i64]; omega
 have k0 : 0 ≤ a / 256 := by omega
 have k1 : a / 256 < 65 := by omega
 have k2 : 0 ≤ a / 256 + 1 := by omega
 have k3 : a / 256 + 1 < 65 := by omega
 have k4 : (a % 256 == 0) = false := by simpa using hf
 clear m0 m1 hup t0 t1 u0 u1 h0 h1 hf
 go_enter Try.func45, Try.ntmps45
 go_wp2_with (first | (go_at_call 48; refine (trig_table.calls _).mono ?_; rintro e w' ⟨rfl, rfl⟩) | ((with_reducible refine wpList_store_rowTo rfl 90 _ _ rfl rfl (w.heap.size + 1) sineCells ?s1 ?s2 90 zeroCells ?s3 infoTab ?s4 ?s5 ?_); rotate_left 5; show wpList _ _ _ _ _ (tabWorld w); generalize tabWorld w = w2 at *))
 case s1 => rfl
 case s2 => rfl
 case s3 => exact tab_new w
 case s4 => rfl
 case s5 => kernel_rfl
 go_quiet (fail)
 go_wp2
 go_ret
 exact ⟨rfl, below_drewN' hB _⟩
def trig_first.f (a0 : Int) : Option Int := if 0 ≤ a0 ∧ a0 ≤ 16384 then some (sinFirst a0) else none
theorem trig_first.calls (a0 : Int) (r : Int) (w : World) (h : trig_first.f a0 = some r) :
  Calls Try.prog 45 #[.int .i64 a0] w fun e w' => e = .returned (.int .i64 r) ∧ Below w.heap.size w w' := by
 unfold trig_first.f at h
 split at h
 ·
  rename_i hh
  obtain rfl := Option.some.inj h
  by_cases hf : a0 % 256 = 0
  ·
   exact trig_first.calls0 a0 w hh.1 hh.2 hf
  ·
   exact trig_first.calls1 a0 w hh.1 (by omega) hf
 ·
  cases h

/-! ### trig_Sin: function 36 -/
def trig_Sin.f (a0 : Int) : Option (Int) := if (wrap64 (Int.tdiv (Go.bits .and .i64 a0 65535) 16384)) = 0 then ((trig_first.f (Int.tmod (Go.bits .and .i64 a0 65535) 16384)).bind fun t201 => (some t201)) else (if (wrap64 (Int.tdiv (Go.bits .and .i64 a0 65535) 16384)) = 1 then ((trig_first.f (wrap64 (16384 - (Int.tmod (Go.bits .and .i64 a0 65535) 16384)))).bind fun t202 => (some t202)) else (if (wrap64 (Int.tdiv (Go.bits .and .i64 a0 65535) 16384)) = 2 then ((trig_first.f (Int.tmod (Go.bits .and .i64 a0 65535) 16384)).bind fun t203 => (some (wrap64 (-t203)))) else ((trig_first.f (wrap64 (16384 - (Int.tmod (Go.bits .and .i64 a0 65535) 16384)))).bind fun t204 => (some (wrap64 (-t204))))))
set_option maxHeartbeats 8000000 in
set_option maxRecDepth 100000 in
theorem trig_Sin.calls (a0 : Int) (r : Int) (w : World) (h : trig_Sin.f a0 = some r) :
  Calls Try.prog 36 #[.int .i64 a0] w fun e w' => e = .returned (.int .i64 r) ∧ Below w.heap.size w w' := by
 have HB := Aside0.mk (Below.refl w.heap.size w)
 have H : (if (wrap64 (Int.tdiv (Go.bits .and .i64 a0 65535) 16384)) = 0 then ((trig_first.f (Int.tmod (Go.bits .and .i64 a0 65535) 16384)).bind fun t201 => (some t201)) else (if (wrap64 (Int.tdiv (Go.bits .and .i64 a0 65535) 16384)) = 1 then ((trig_first.f (wrap64 (16384 - (Int.tmod (Go.bits .and .i64 a0 65535) 16384)))).bind fun t202 => (some t202)) else (if (wrap64 (Int.tdiv (Go.bits .and .i64 a0 65535) 16384)) = 2 then ((trig_first.f (Int.tmod (Go.bits .and .i64 a0 65535) 16384)).bind fun t203 => (some (wrap64 (-t203)))) else ((trig_first.f (wrap64 (16384 - (Int.tmod (Go.bits .and .i64 a0 65535) 16384)))).bind fun t204 => (some (wrap64 (-t204))))))) = some r := h
 clear h
 by_cases c2 : (wrap64 (Int.tdiv (Go.bits .and .i64 a0 65535) 16384)) = 0
 ·
  rw [if_pos c2] at H
  have c2b0 : ((wrap64 (Int.tdiv (Go.bits .and .i64 a0 65535) 16384)) == 0) = true := beq_iff_eq.mpr c2
  have c2b1 : ((wrap64 (Int.tdiv (Go.bits .and .i64 a0 65535) 16384)) != 0) = false := bne_eq_false_iff_eq.mpr c2
  clear c2
  replace H := Option.bind_eq_some_iff.mp H
  obtain ⟨t201, A30, H⟩ := H
  replace H : (some t201) = some r := H
  have A3 := Aside0.mk A30
  clear A30
  obtain rfl := Option.some.inj H
  go_enter Try.func36, Try.ntmps36
  go_wp2_with (first | ((with_reducible refine gate_callee (f := 45) rfl ?_); refine goesL_ (some 13) rfl rfl Try.func45 (by kernel_rfl) rfl #[.int .i64 (Int.tmod (Go.bits .and .i64 a0 65535) 16384)] rfl (by (try simp only [List.map_toArray, List.map_cons, List.map_nil]); first | done | rfl | (simp only [List.length_drop, List.length_take]; rfl)) ?_; (with_reducible refine (trig_first.calls (Int.tmod (Go.bits .and .i64 a0 65535) 16384) t201 _ A3.out).mono ?_); rintro e w4 ⟨rfl, hb⟩; refine ⟨_, rfl, ?_⟩; have n0_ := Aside0.mk (below_step (by repeat (first | (with_reducible first | exact HB.out | apply below_alloc | apply pw_below_drewN | apply below_drew1) | exact HB.out)) hb); clear HB; have HB := n0_; clear n0_; (try clear hb); (try clear hb2); (try clear hk); (try clear hi)))
  go_ret
  exact ⟨by first | rfl | (simp [errW_none, errW_some] <;> rfl) | (simp [*, errW_none, errW_some] <;> rfl), by repeat (first | (with_reducible first | exact HB.out | apply below_alloc | apply pw_below_drewN | apply below_drew1) | exact HB.out)⟩
 ·
  rw [if_neg c2] at H
  have c2b0 : ((wrap64 (Int.tdiv (Go.bits .and .i64 a0 65535) 16384)) == 0) = false := beq_eq_false_iff_ne.mpr c2
  have c2b1 : ((wrap64 (Int.tdiv (Go.bits .and .i64 a0 65535) 16384)) != 0) = true := bne_iff_ne.mpr c2
  by_cases c5 : (wrap64 (Int.tdiv (Go.bits .and .i64 a0 65535) 16384)) = 1
  ·
   rw [if_pos c5] at H
   have c5b0 : ((wrap64 (Int.tdiv (Go.bits .and .i64 a0 65535) 16384)) == 1) = true := beq_iff_eq.mpr c5
   have c5b1 : ((wrap64 (Int.tdiv (Go.bits .and .i64 a0 65535) 16384)) != 1) = false := bne_eq_false_iff_eq.mpr c5
   clear c5
   replace H := Option.bind_eq_some_iff.mp H
   obtain ⟨t202, A60, H⟩ := H
   replace H : (some t202) = some r := H
   have A6 := Aside0.mk A60
   clear A60
   obtain rfl := Option.some.inj H
   go_enter Try.func36, Try.ntmps36
   go_wp2_with (first | ((with_reducible refine gate_callee (f := 45) rfl ?_); refine goesL_ (some 18) rfl rfl Try.func45 (by kernel_rfl) rfl #[.int .i64 (wrap64 (16384 - (Int.tmod (Go.bits .and .i64 a0 65535) 16384)))] rfl (by (try simp only [List.map_toArray, List.map_cons, List.map_nil]); first | done | rfl | (simp only [List.length_drop, List.length_take]; rfl)) ?_; (with_reducible refine (trig_first.calls (wrap64 (16384 - (Int.tmod (Go.bits .and .i64 a0 65535) 16384))) t202 _ A6.out).mono ?_); rintro e w7 ⟨rfl, hb⟩; refine ⟨_, rfl, ?_⟩; have n0_ := Aside0.mk (below_step (by repeat (first | (with_reducible first | exact HB.out | apply below_alloc | apply pw_below_drewN | apply below_drew1) | exact HB.out)) hb); clear HB; have HB := n0_; clear n0_; (try clear hb); (try clear hb2); (try clear hk); (try clear hi)))
   go_ret
   exact ⟨by first | rfl | (simp [errW_none, errW_some] <;> rfl) | (simp [*, errW_none, errW_some] <;> rfl), by repeat (first | (with_reducible first | exact HB.out | apply below_alloc | apply pw_below_drewN | apply below_drew1) | exact HB.out)⟩
  ·
   rw [if_neg c5] at H
   have c5b0 : ((wrap64 (Int.tdiv (Go.bits .and .i64 a0 65535) 16384)) == 1) = false := beq_eq_false_iff_ne.mpr c5
   have c5b1 : ((wrap64 (Int.tdiv (Go.bits .and .i64 a0 65535) 16384)) != 1) = true := bne_iff_ne.mpr c5
   by_cases c8 : (wrap64 (Int.tdiv (Go.bits .and .i64 a0 65535) 16384)) = 2
   ·
    rw [if_pos c8] at H
    have c8b0 : ((wrap64 (Int.tdiv (Go.bits .and .i64 a0 65535) 16384)) == 2) = true := beq_iff_eq.mpr c8
    have c8b1 : ((wrap64 (Int.tdiv (Go.bits .and .i64 a0 65535) 16384)) != 2) = false := bne_eq_false_iff_eq.mpr c8
    clear c8
    replace H := Option.bind_eq_some_iff.mp H
    obtain ⟨t203, A90, H⟩ := H
    replace H : (some (wrap64 (-t203))) = some r := H
    have A9 := Aside0.mk A90
    clear A90
    obtain rfl := Option.some.inj H
    go_enter Try.func36, Try.ntmps36
    go_wp2_with (first | ((with_reducible refine gate_callee (f := 45) rfl ?_); refine goesL_ (some 22) rfl rfl Try.func45 (by kernel_rfl) rfl #[.int .i64 (Int.tmod (Go.bits .and .i64 a0 65535) 16384)] rfl (by (try simp only [List.map_toArray, List.map_cons, List.map_nil]); first | done | rfl | (simp only [List.length_drop, List.length_take]; rfl)) ?_; (with_reducible refine (trig_first.calls (Int.tmod (Go.bits .and .i64 a0 65535) 16384) t203 _ A9.out).mono ?_); rintro e w10 ⟨rfl, hb⟩; refine ⟨_, rfl, ?_⟩; have n0_ := Aside0.mk (below_step (by repeat (first | (with_reducible first | exact HB.out | apply below_alloc | apply pw_below_drewN | apply below_drew1) | exact HB.out)) hb); clear HB; have HB := n0_; clear n0_; (try clear hb); (try clear hb2); (try clear hk); (try clear hi)))
    go_ret
    exact ⟨by first | rfl | (simp [errW_none, errW_some] <;> rfl) | (simp [*, errW_none, errW_some] <;> rfl), by repeat (first | (with_reducible first | exact HB.out | apply below_alloc | apply pw_below_drewN | apply below_drew1) | exact HB.out)⟩
   ·
    rw [if_neg c8] at H
    have c8b0 : ((wrap64 (Int.tdiv (Go.bits .and .i64 a0 65535) 16384)) == 2) = false := beq_eq_false_iff_ne.mpr c8
    have c8b1 : ((wrap64 (Int.tdiv (Go.bits .and .i64 a0 65535) 16384)) != 2) = true := bne_iff_ne.mpr c8
    replace H := Option.bind_eq_some_iff.mp H
    obtain ⟨t204, A110, H⟩ := H
    replace H : (some (wrap64 (-t204))) = some r := H
    have A11 := Aside0.mk A110
    clear A110
    obtain rfl := Option.some.inj H
    go_enter Try.func36, Try.ntmps36
    go_wp2_with (first | ((with_reducible refine gate_callee (f := 45) rfl ?_); refine goesL_ (some 26) rfl rfl Try.func45 (by kernel_rfl) rfl #[.int .i64 (wrap64 (16384 - (Int.tmod (Go.bits .and .i64 a0 65535) 16384)))] rfl (by (try simp only [List.map_toArray, List.map_cons, List.map_nil]); first | done | rfl | (simp only [List.length_drop, List.length_take]; rfl)) ?_; (with_reducible refine (trig_first.calls (wrap64 (16384 - (Int.tmod (Go.bits .and .i64 a0 65535) 16384))) t204 _ A11.out).mono ?_); rintro e w12 ⟨rfl, hb⟩; refine ⟨_, rfl, ?_⟩; have n0_ := Aside0.mk (below_step (by repeat (first | (with_reducible first | exact HB.out | apply below_alloc | apply pw_below_drewN | apply below_drew1) | exact HB.out)) hb); clear HB; have HB := n0_; clear n0_; (try clear hb); (try clear hb2); (try clear hk); (try clear hi)))
    go_ret
    exact ⟨by first | rfl | (simp [errW_none, errW_some] <;> rfl) | (simp [*, errW_none, errW_some] <;> rfl), by repeat (first | (with_reducible first | exact HB.out | apply below_alloc | apply pw_below_drewN | apply below_drew1) | exact HB.out)⟩

/-! ### trig_Cos: function 35 -/
def trig_Cos.f (a0 : Int) : Option (Int) := (trig_Sin.f (wrap64 ((Go.bits .and .i64 a0 65535) + 16384))).bind fun t205 => (some t205)
set_option maxHeartbeats 8000000 in
set_option maxRecDepth 100000 in
theorem trig_Cos.calls (a0 : Int) (r : Int) (w : World) (h : trig_Cos.f a0 = some r) :
  Calls Try.prog 35 #[.int .i64 a0] w fun e w' => e = .returned (.int .i64 r) ∧ Below w.heap.size w w' := by
 have HB := Aside0.mk (Below.refl w.heap.size w)
 have H : ((trig_Sin.f (wrap64 ((Go.bits .and .i64 a0 65535) + 16384))).bind fun t205 => (some t205)) = some r := h
 clear h
 replace H := Option.bind_eq_some_iff.mp H
 obtain ⟨t205, A20, H⟩ := H
 replace H : (some t205) = some r := H
 have A2 := Aside0.mk A20
 clear A20
 obtain rfl := Option.some.inj H
 go_enter Try.func35, Try.ntmps35
 go_wp2_with (first | ((with_reducible refine gate_callee (f := 36) rfl ?_); refine goesL_ (some 6) rfl rfl Try.func36 (by kernel_rfl) rfl #[.int .i64 (wrap64 ((Go.bits .and .i64 a0 65535) + 16384))] rfl (by (try simp only [List.map_toArray, List.map_cons, List.map_nil]); first | done | rfl | (simp only [List.length_drop, List.length_take]; rfl)) ?_; (with_reducible refine (trig_Sin.calls (wrap64 ((Go.bits .and .i64 a0 65535) + 16384)) t205 _ A2.out).mono ?_); rintro e w3 ⟨rfl, hb⟩; refine ⟨_, rfl, ?_⟩; have n0_ := Aside0.mk (below_step (by repeat (first | (with_reducible first | exact HB.out | apply below_alloc | apply pw_below_drewN | apply below_drew1) | exact HB.out)) hb); clear HB; have HB := n0_; clear n0_; (try clear hb); (try clear hb2); (try clear hk); (try clear hi)))
 go_ret
 exact ⟨by first | rfl | (simp [errW_none, errW_some] <;> rfl) | (simp [*, errW_none, errW_some] <;> rfl), by repeat (first | (with_reducible first | exact HB.out | apply below_alloc | apply pw_below_drewN | apply below_drew1) | exact HB.out)⟩

/-! ### fix_Sub: function 37 -/
def fix_Sub.f (a0 : Int) (a1 : Int) : Option (Int) := (fix_Clamp.f a0).bind fun t206 => ((fix_Clamp.f a1).bind fun t207 => ((fix_Clamp.f (wrap64 (t206 - t207))).bind fun t208 => (some t208)))
set_option maxHeartbeats 8000000 in
set_option maxRecDepth 100000 in
theorem fix_Sub.calls (a0 : Int) (a1 : Int) (r : Int) (w : World) (h : fix_Sub.f a0 a1 = some r) :
  Calls Try.prog 37 #[.int .i64 a0, .int .i64 a1] w fun e w' => e = .returned (.int .i64 r) ∧ Below w.heap.size w w' := by
 have HB := Aside0.mk (Below.refl w.heap.size w)
 have H : ((fix_Clamp.f a0).bind fun t206 => ((fix_Clamp.f a1).bind fun t207 => ((fix_Clamp.f (wrap64 (t206 - t207))).bind fun t208 => (some t208)))) = some r := h
 clear h
 replace H := Option.bind_eq_some_iff.mp H
 obtain ⟨t206, A30, H⟩ := H
 replace H : ((fix_Clamp.f a1).bind fun t207 => ((fix_Clamp.f (wrap64 (t206 - t207))).bind fun t208 => (some t208))) = some r := H
 have A3 := Aside0.mk A30
 clear A30
 replace H := Option.bind_eq_some_iff.mp H
 obtain ⟨t207, A40, H⟩ := H
 replace H : ((fix_Clamp.f (wrap64 (t206 - t207))).bind fun t208 => (some t208)) = some r := H
 have A4 := Aside0.mk A40
 clear A40
 replace H := Option.bind_eq_some_iff.mp H
 obtain ⟨t208, A50, H⟩ := H
 replace H : (some t208) = some r := H
 have A5 := Aside0.mk A50
 clear A50
 obtain rfl := Option.some.inj H
 go_enter Try.func37, Try.ntmps37
 go_wp2_with (first | ((with_reducible refine gate_callee (f := 44) rfl ?_); refine goesL_ (some 6) rfl rfl Try.func44 (by kernel_rfl) rfl #[.int .i64 a0] rfl (by (try simp only [List.map_toArray, List.map_cons, List.map_nil]); first | done | rfl | (simp only [List.length_drop, List.length_take]; rfl)) ?_; (with_reducible refine (fix_Clamp.calls a0 t206 _ A3.out).mono ?_); rintro e w6 ⟨rfl, hb⟩; refine ⟨_, rfl, ?_⟩; have n0_ := Aside0.mk (below_step (by repeat (first | (with_reducible first | exact HB.out | apply below_alloc | apply pw_below_drewN | apply below_drew1) | exact HB.out)) hb); clear HB; have HB := n0_; clear n0_; (try clear hb); (try clear hb2); (try clear hk); (try clear hi)) | ((with_reducible refine gate_callee (f := 44) rfl ?_); refine goesL_ (some 8) rfl rfl Try.func44 (by kernel_rfl) rfl #[.int .i64 a1] rfl (by (try simp only [List.map_toArray, List.map_cons, List.map_nil]); first | done | rfl | (simp only [List.length_drop, List.length_take]; rfl)) ?_; (with_reducible refine (fix_Clamp.calls a1 t207 _ A4.out).mono ?_); rintro e w7 ⟨rfl, hb⟩; refine ⟨_, rfl, ?_⟩; have n0_ := Aside0.mk (below_step (by repeat (first | (with_reducible first | exact HB.out | apply below_alloc | apply pw_below_drewN | apply below_drew1) | exact HB.out)) hb); clear HB; have HB := n0_; clear n0_; (try clear hb); (try clear hb2); (try clear hk); (try clear hi)) | ((with_reducible refine gate_callee (f := 44) rfl ?_); refine goesL_ (some 10) rfl rfl Try.func44 (by kernel_rfl) rfl #[.int .i64 (wrap64 (t206 - t207))] rfl (by (try simp only [List.map_toArray, List.map_cons, List.map_nil]); first | done | rfl | (simp only [List.length_drop, List.length_take]; rfl)) ?_; (with_reducible refine (fix_Clamp.calls (wrap64 (t206 - t207)) t208 _ A5.out).mono ?_); rintro e w8 ⟨rfl, hb⟩; refine ⟨_, rfl, ?_⟩; have n0_ := Aside0.mk (below_step (by repeat (first | (with_reducible first | exact HB.out | apply below_alloc | apply pw_below_drewN | apply below_drew1) | exact HB.out)) hb); clear HB; have HB := n0_; clear n0_; (try clear hb); (try clear hb2); (try clear hk); (try clear hi)))
 go_ret
 exact ⟨by first | rfl | (simp [errW_none, errW_some] <;> rfl) | (simp [*, errW_none, errW_some] <;> rfl), by repeat (first | (with_reducible first | exact HB.out | apply below_alloc | apply pw_below_drewN | apply below_drew1) | exact HB.out)⟩

/-! ### fix_mag: function 49 -/
def fix_mag.f (a0 : Int) : Option (Int) := if a0 < 0 then (some (IntKind.u64.wrap (wrap64 (-a0)))) else (some (IntKind.u64.wrap (a0)))
set_option maxHeartbeats 8000000 in
set_option maxRecDepth 100000 in
theorem fix_mag.calls (a0 : Int) (r : Int) (w : World) (h : fix_mag.f a0 = some r) :
  Calls Try.prog 49 #[.int .i64 a0] w fun e w' => e = .returned (.int .u64 r) ∧ Drawn0 w w' := by
 have H : (if a0 < 0 then (some (IntKind.u64.wrap (wrap64 (-a0)))) else (some (IntKind.u64.wrap (a0)))) = some r := h
 clear h
 by_cases c2 : a0 < 0
 ·
  rw [if_pos c2] at H
  have c2b0 : decide (a0 < 0) = true := decide_eq_true c2
  clear c2
  obtain rfl := Option.some.inj H
  go_enter Try.func49, Try.ntmps49
  go_wp2
  go_ret
  exact ⟨by first | rfl | (simp; done) | (simp [*]; done), by repeat (first | exact Drawn0.refl _ | apply Drawn0.step)⟩
 ·
  rw [if_neg c2] at H
  have c2b0 : decide (a0 < 0) = false := decide_eq_false c2
  clear c2
  obtain rfl := Option.some.inj H
  go_enter Try.func49, Try.ntmps49
  go_wp2
  go_ret
  exact ⟨by first | rfl | (simp; done) | (simp [*]; done), by repeat (first | exact Drawn0.refl _ | apply Drawn0.step)⟩

/-! ### bits_Mul64: function 50 -/
def bits_Mul64.f (a0 : Int) (a1 : Int) : Option (Int × Int) := some (IntKind.u64.wrap ((IntKind.u64.wrap ((IntKind.u64.wrap ((a0 / 4294967296) * (a1 / 4294967296))) + ((IntKind.u64.wrap ((IntKind.u64.wrap ((a0 / 4294967296) * (Go.bits .and .u64 a1 4294967295))) + ((IntKind.u64.wrap ((Go.bits .and .u64 a0 4294967295) * (Go.bits .and .u64 a1 4294967295))) / 4294967296))) / 4294967296))) + ((IntKind.u64.wrap ((Go.bits .and .u64 (IntKind.u64.wrap ((IntKind.u64.wrap ((a0 / 4294967296) * (Go.bits .and .u64 a1 4294967295))) + ((IntKind.u64.wrap ((Go.bits .and .u64 a0 4294967295) * (Go.bits .and .u64 a1 4294967295))) / 4294967296))) 4294967295) + (IntKind.u64.wrap ((Go.bits .and .u64 a0 4294967295) * (a1 / 4294967296))))) / 4294967296)), IntKind.u64.wrap (a0 * a1))
set_option maxHeartbeats 8000000 in
set_option maxRecDepth 100000 in
theorem bits_Mul64.calls (a0 : Int) (a1 : Int) (r1 : Int) (r2 : Int) (w : World) (h : bits_Mul64.f a0 a1 = some (r1, r2)) :
  Calls Try.prog 50 #[.int .u64 a0, .int .u64 a1] w fun e w' => e = .returned (.tuple #[.int .u64 r1, .int .u64 r2]) ∧ Drawn0 w w' := by
 have H : (some (IntKind.u64.wrap ((IntKind.u64.wrap ((IntKind.u64.wrap ((a0 / 4294967296) * (a1 / 4294967296))) + ((IntKind.u64.wrap ((IntKind.u64.wrap ((a0 / 4294967296) * (Go.bits .and .u64 a1 4294967295))) + ((IntKind.u64.wrap ((Go.bits .and .u64 a0 4294967295) * (Go.bits .and .u64 a1 4294967295))) / 4294967296))) / 4294967296))) + ((IntKind.u64.wrap ((Go.bits .and .u64 (IntKind.u64.wrap ((IntKind.u64.wrap ((a0 / 4294967296) * (Go.bits .and .u64 a1 4294967295))) + ((IntKind.u64.wrap ((Go.bits .and .u64 a0 4294967295) * (Go.bits .and .u64 a1 4294967295))) / 4294967296))) 4294967295) + (IntKind.u64.wrap ((Go.bits .and .u64 a0 4294967295) * (a1 / 4294967296))))) / 4294967296)), IntKind.u64.wrap (a0 * a1))) = some (r1, r2) := h
 clear h
 simp only [Option.some.injEq, Prod.mk.injEq] at H
 obtain ⟨rfl, rfl⟩ := H
 go_enter Try.func50, Try.ntmps50
 go_wp2
 go_ret2
 exact ⟨by first | rfl | (simp; done) | (simp [*]; done), by repeat (first | exact Drawn0.refl _ | apply Drawn0.step)⟩

end Go.Proofs.Ytffbonfgbmohdaa.P
