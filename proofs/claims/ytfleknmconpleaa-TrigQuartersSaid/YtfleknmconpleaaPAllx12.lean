/- Functions of this seat in plain Lean and their contracts, written by a turned copy of the kit's print (turns: wip/pr/make.py of this session). No condition. -/
import Derived.Test.YtfleknmconpleaaPAllx0
namespace Go.Proofs.Ytfleknmconpleaa.P
open Go.RowKit Go.Proofs.YtfleknmconpleaaW.PrintWords Go.Proofs.YtfleknmconpleaaW.PrintLast Go.Proofs.YtfleknmconpleaaW.PrintMore
attribute [local go_sem] max2_int min2_int max_two min_two max_three min_three max_four min_four   -- for this text's walks alone
set_option linter.unusedVariables false
set_option linter.unusedSimpArgs false

/-! ### fix_double: function 49 -/
def fix_double.l0 : Nat → List Int → Int → Int → Option (Int × List Int)
  | 0, _, _, _ => none
  | k + 1, x0, x3, x4 => if x4 ≥ 0 then (if 0 ≤ x4 then (if x4 < (x0.length : Int) then (fix_double.l0 k (x0.set (x4 : Int).toNat (((((2 * (rd x0 x4)) % 256) + x3) % 256) % 10)) (((((2 * (rd x0 x4)) % 256) + x3) % 256) / 10) (wrap64 (x4 - 1))) else (none)) else (none)) else (some (wrap64 (x3), x0))
def fix_double.f (k : Nat) (l0 : List Int) : Option (Int × List Int) := fix_double.l0 k l0 0 (wrap64 ((l0.length : Int) - 1))
theorem fix_double.mono_l : ∀ k, (∀ y0 y1 y2, LeO (fix_double.l0 k y0 y1 y2) (fix_double.l0 (k + 1) y0 y1 y2))
  | 0 => fun _ _ _ r h => by simp [fix_double.l0] at h
  | k + 1 => by
    have ih0 := fix_double.mono_l k
    · intro y0 y1 y2
      unfold fix_double.l0
      repeat' first
      | (with_reducible exact ih0 _ _ _)
      | (with_reducible exact LeO.refl _)
      | (with_reducible exact LeO.none _)
      | (with_reducible refine LeO.ite ?_ ?_)
      | (with_reducible refine LeO.bind ?_ (fun _ => ?_))
      | exact ih0 _ _ _
      | exact LeO.none _
      | refine LeO.ite ?_ ?_
      | refine LeO.bind ?_ (fun _ => ?_)
theorem fix_double.mono : ∀ a0 k, LeO (fix_double.f k a0) (fix_double.f (k + 1) a0) := by
  intro a0 k
  have ih0 := fix_double.mono_l k
  unfold fix_double.f
  repeat' first
      | (with_reducible exact ih0 _ _ _)
      | (with_reducible exact LeO.refl _)
      | (with_reducible exact LeO.none _)
      | (with_reducible refine LeO.ite ?_ ?_)
      | (with_reducible refine LeO.bind ?_ (fun _ => ?_))
      | exact ih0 _ _ _
      | exact LeO.none _
      | refine LeO.ite ?_ ?_
      | refine LeO.bind ?_ (fun _ => ?_)
set_option maxHeartbeats 8000000 in
set_option maxRecDepth 100000 in
theorem fix_double.calls (k : Nat) (P0_ : Nat → Prop) (u9000_ : Value) (l0 : List Int) (r1 : Int) (r2 : List Int) (w0 w : World) (hB : Below w0.heap.size w0 w) (ho0 : Kd.R (Kd.int .u8) 5 w w0.heap.size P0_ u9000_ l0) (h : fix_double.f k l0 = some (r1, r2)) :
    Calls Try.prog 49 #[u9000_] w fun e w' => e = .returned (.int .i64 r1) ∧ Kd.R (Kd.int .u8) 5 w' w0.heap.size (fun k_ => (P0_ k_ ∨ w.heap.size ≤ k_)) u9000_ r2 ∧ Below w0.heap.size w0 w' ∧ Kept w w' (fun k_ => P0_ k_) := by
  have HO0 := Aside0.mk (show Kd.R (Kd.int .u8) 5 w w0.heap.size (fun k_ => (P0_ k_ ∨ w.heap.size ≤ k_)) u9000_ l0 from Kd.R_mono ho0 (fun k_ hk => (.inl hk)))
  have HK := Aside0.mk (Kept.refl w (fun k_ => P0_ k_))
  have HW0 := Aside0.mk hB.size
  have HB := Aside0.mk hB
  clear hB
  have H : (fix_double.l0 k l0 0 (wrap64 ((l0.length : Int) - 1))) = some (r1, r2) := h
  clear h
  have H' := Aside0.mk H
  clear H
  obtain ⟨Ao2, co2, eo2⟩ := Kd.R_slice HO0.out
  subst eo2
  go_enter Try.func49, Try.ntmps49
  go_wp2
  go_loopg [3, 4] k (fun kq v3 v4 w' => ∃ (x0_1 : List Int) (x3_1 : Int) (x4_1 : Int), v3 = .int .u8 x3_1 ∧ v4 = .int .i64 x4_1 ∧ Aside0 (fix_double.l0 kq x0_1 x3_1 x4_1 = some (r1, r2)) ∧ Aside0 (kq ≤ k) ∧ Aside0 (Kd.R (Kd.int .u8) 5 w' w0.heap.size (fun k_ => (P0_ k_ ∨ w.heap.size ≤ k_)) (.slice Ao2 l0.length co2) x0_1) ∧ Aside0 (Kept w w' (fun k_ => P0_ k_)) ∧ Aside0 (Below w0.heap.size w0 w'))
  case atStart => exact ⟨(l0), (0), (wrap64 ((l0.length : Int) - 1)), (by first | rfl | (simp; done) | (simp [*]; done)), (by first | rfl | (simp; done) | (simp [*]; done)), H', ⟨Nat.le_refl _⟩, ⟨by (with_reducible repeat (first | apply Kd.R_alloc | apply Kd.R_drewN | apply Kd.R_drew)); exact HO0.out⟩, ⟨by repeat (first | (with_reducible first | exact HK.out | apply Kept.alloc | apply Kept.drewN | apply Kept.drew) | exact HK.out)⟩, ⟨by repeat (first | (with_reducible first | exact HB.out | apply below_alloc | apply pw_below_drewN | apply below_drew1) | exact HB.out)⟩⟩
  case round =>
    clear H'
    try clear p2
    obtain ⟨x0_1, x3_1, x4_1, rfl, rfl, HA, HK1, HO_0, HK, HB⟩ := hrel
    have hl0_1 := (Kd.R_reads' HO_0.out).1
    rw [hl0_1] at HO_0
    (try simp only [hl0_1])
    cases gk with
    | zero => exact absurd HA.out (by simp [fix_double.l0])
    | succ k1 =>
      have H := HA.out
      clear HA
      simp only [fix_double.l0] at H
      by_cases c3 : x4_1 ≥ 0
      · rw [if_pos c3] at H
        have c3b0 : decide (0 ≤ x4_1) = true := decide_eq_true c3
        clear c3
        by_cases c4 : 0 ≤ x4_1
        · rw [if_pos c4] at H
          have c4b0 : decide (0 ≤ x4_1) = true := decide_eq_true c4
          clear c4
          by_cases c5 : x4_1 < (x0_1.length : Int)
          · rw [if_pos c5] at H
            have c5b0 : decide (x4_1 < (x0_1.length : Int)) = true := decide_eq_true c5
            clear c5
            obtain ⟨y204, hy204⟩ : ∃ y_ : List Int, y_ = (x0_1.set (x4_1 : Int).toNat (((((2 * (rd x0_1 x4_1)) % 256) + x3_1) % 256) % 10)) := ⟨_, rfl⟩
            replace H : (fix_double.l0 k1 y204 (((((2 * (rd x0_1 x4_1)) % 256) + x3_1) % 256) / 10) (wrap64 (x4_1 - 1))) = some (r1, r2) := by first | (rw [hy204]; with_reducible exact H) | (have H2_ := (Option.bind_some _ _).symm.trans H; rw [hy204]; with_reducible exact H2_) | (have H2_ := (Option.bind_some _ _).symm.trans H; with_reducible exact H2_) | with_reducible exact H | (rw [hy204]; exact H) | exact H
            have Ny204 := Aside0.mk hy204
            clear hy204
            have H' := Aside0.mk H
            clear H
            have p203 : 0 ≤ (x4_1 : Int) := of_decide_eq_true (by first | (with_reducible assumption) | assumption)
            have q203 : x4_1 < (x0_1.length : Int) := of_decide_eq_true (by first | (with_reducible assumption) | assumption)
            obtain ⟨ad203, e203, hx203_0⟩ := Kd.at_int (Kd.R_reads' HO_0.out).2.2 x4_1 p203 q203
            cases e203
            replace p203 := eq_true p203
            replace q203 := eq_true q203
            have p6 : 0 ≤ (x4_1 : Int) := of_decide_eq_true (by first | (with_reducible assumption) | assumption)
            have q6 : (x4_1 : Int) < ((x0_1.length : Int) : Int) := of_decide_eq_true (by first | (with_reducible assumption) | assumption)
            obtain ⟨go6, co6, eo6, gb6, gl6, cl6, HG6⟩ := Kd.R_form HO_0.out (by omega)
            (first | cases eo6 | (injection eo6 with ea_ en_ ec_; (first | subst ea_ | (injection ea_ with ea_; subst ea_)); subst ec_; clear en_))
            have GB6 := Aside0.mk gb6
            have GG6 := Aside0.mk HG6
            clear gb6 gl6 HG6
            have HMgo6 := Aside0.mk (show (P0_ go6 ∨ w.heap.size ≤ go6) from (HO_0.out.1 _ rfl))
            (first | simp only [add_plain] at hx203_0 | skip)
            obtain ⟨hx6_0, hf6_0⟩ := Kd.R_celln 0 HO_0.out (x4_1 : Int) p6 q6
            replace p6 := eq_true p6
            replace q6 := eq_true q6
            have HP7 := Kd.R_putg HO_0.out (x4_1 : Int) (((((2 * (rd x0_1 x4_1)) % 256) + x3_1) % 256) % 10)
            go_wp2_with (first | ((with_reducible refine gate_store (t := 5) (p := 26) rfl ?_); refine store_event (t := 5) (p := 26) (v := ?vo_w8) (w1 := (wr.setCell ⟨go6, (x4_1 : Int).toNat, none⟩ (.int .u8 (((((2 * (rd x0_1 x4_1)) % 256) + x3_1) % 256) % 10)))) ?hg ?ho ?hn ?hr ?_; (case ho => rfl); (case hg => rfl); (case hn => rfl); (case hr => first | (go_simp; done) | (go_simp; rfl)); intro w8 hw; have hg : wr.grownBy w8 (some go6) := (by rw [hw]; exact HP7.2); have hp_ : Kd.R (Kd.int .u8) 5 w8 w0.heap.size (fun k_ => (P0_ k_ ∨ w.heap.size ≤ k_)) (.slice (some ⟨go6, 0, none⟩) x0_1.length co2) y204 := (by rw [hw, Ny204.out]; exact HP7.1); clear HP7; have n0_ := Aside0.mk (hp_); have n1_ := Aside0.mk ((by rw [hw]; exact below_set (HB.out) GB6.out : Below w0.heap.size w0 w8)); have n2_ := Aside0.mk (Kept.of_grown (S := (fun k_ => P0_ k_)) hg (by repeat (first | (with_reducible first | exact HK.out | apply Kept.alloc | apply Kept.drewN | apply Kept.drew) | exact HK.out)) (fun k_ e_ => (HO_0.out.1 k_ e_))); clear HO_0; clear HB; clear HK; have HO_0 := n0_; have HB := n1_; have HK := n2_; clear n0_ n1_ n2_; clear hg hw hp_))
            (try simp only [← hl0_1])
            go_roundg k1
            case measure => have := HK1.out; omega
            case rel => exact ⟨(y204), (((((2 * (rd x0_1 x4_1)) % 256) + x3_1) % 256) / 10), (wrap64 (x4_1 - 1)), (by first | rfl | (simp; done) | (simp [*]; done)), (by first | rfl | (simp; done) | (simp [*]; done)), H', ⟨by have := HK1.out; omega⟩, ⟨by (try simp only [hl0_1]); (with_reducible repeat (first | apply Kd.R_alloc | apply Kd.R_drewN | apply Kd.R_drew)); exact HO_0.out⟩, ⟨by repeat (first | (with_reducible first | exact HK.out | apply Kept.alloc | apply Kept.drewN | apply Kept.drew) | exact HK.out)⟩, ⟨by repeat (first | (with_reducible first | exact HB.out | apply below_alloc | apply pw_below_drewN | apply below_drew1) | exact HB.out)⟩⟩
          · rw [if_neg c5] at H
            exact absurd H (by simp)
        · rw [if_neg c4] at H
          exact absurd H (by simp)
      · rw [if_neg c3] at H
        have c3b0 : decide (0 ≤ x4_1) = false := decide_eq_false c3
        clear c3
        simp only [Option.some.injEq, Prod.mk.injEq] at H
        obtain ⟨rfl, rfl⟩ := H
        go_wp2
        go_ret
        exact ⟨by first | rfl | (simp [errW_none, errW_some] <;> rfl) | (simp [*, errW_none, errW_some] <;> rfl), (by first | exact (by (with_reducible repeat (first | apply Kd.R_alloc | apply Kd.R_drewN | apply Kd.R_drew)); exact HO_0.out) | (simp only [hl0_1]; exact (by (with_reducible repeat (first | apply Kd.R_alloc | apply Kd.R_drewN | apply Kd.R_drew)); exact HO_0.out))), by repeat (first | (with_reducible first | exact HB.out | apply below_alloc | apply pw_below_drewN | apply below_drew1) | exact HB.out), by repeat (first | (with_reducible first | exact HK.out | apply Kept.alloc | apply Kept.drewN | apply Kept.drew) | exact HK.out)⟩

-- NOT PRINTED: function 40 (fix_fraction)

-- NOT PRINTED: function 27 (fix_Read)

-- NOT PRINTED: function 8 (tourkeep1_FixWritten)

-- NOT PRINTED: function 41 (math_Float64frombits)

-- NOT PRINTED: function 42 (math_IsNaN)

-- NOT PRINTED: function 46 (math_Float64bits)

-- NOT PRINTED: function 44 (math_Abs)

-- NOT PRINTED: function 43 (math_IsInf)

-- NOT PRINTED: function 50 (math_archTrunc)

-- NOT PRINTED: function 54 (math_Copysign)

-- NOT PRINTED: function 51 (math_trunc)

-- NOT PRINTED: function 45 (math_Trunc)

-- NOT PRINTED: function 28 (border_From)

-- NOT PRINTED: function 29 (border_To)

-- NOT PRINTED: function 9 (tourkeep1_BorderBack)

-- NOT PRINTED: function 10 (tourkeep1_BorderWhole)

-- NOT PRINTED: function 52 (trig_table)

/-! ### trig_first: function 47 -/
def sines : List Int := [0, 1608, 3216, 4821, 6424, 8022, 9616, 11204, 12785, 14359, 15924, 17479, 19024,
    20557, 22078, 23586, 25080, 26558, 28020, 29466, 30893, 32303, 33692, 35062, 36410, 37736,
    39040, 40320, 41576, 42806, 44011, 45190, 46341, 47464, 48559, 49624, 50660, 51665, 52639,
    53581, 54491, 55368, 56212, 57022, 57798, 58538, 59244, 59914, 60547, 61145, 61705, 62228,
    62714, 63162, 63572, 63944, 64277, 64571, 64827, 65043, 65220, 65358, 65457, 65516, 65536]
def sineCells : Array Value := (sines.map (Value.int .i64)).toArray
def zeroCells : Array Value := (List.replicate 65 (Value.int .i64 0)).toArray
theorem zeroTab (w : World) : (zeroValue 59).run Try.prog w = .ok (.agg zeroCells) w := by kernel_rfl
theorem infoTab : (Try.prog.info? 59).map (·.size) = some sineCells.size := by kernel_rfl
set_option maxHeartbeats 800000 in
set_option maxRecDepth 100000 in
theorem trig_table.calls (w : World) :
    Calls Try.prog 52 #[] w fun e w' => e = .returned (.agg sineCells) ∧ w' = w.alloc (.cells sineCells 59) := by
  have hz := zeroTab
  go_enter Try.func52, Try.ntmps52
  go_wp2_with (first | (with_reducible refine wpList_buildFlatArrTo rfl 59 3 65 _ rfl .i64 sines (some 1) rfl Try.underlying59 ?b1 ?b2 ?b3 ?_) | (with_reducible refine wpList_store_rowTo rfl 59 _ _ rfl rfl w.heap.size sineCells ?s1 ?s2 59 zeroCells ?s3 infoTab ?s4 ?s5 ?_))
  case b1 => kernel_rfl
  case b2 => kernel_rfl
  case b3 => kernel_rfl
  case s1 => rfl
  case s2 => rfl
  case s3 => exact heap_alloc_new _ _
  case s4 => rfl
  case s5 => kernel_rfl
  rw [World.setRow_alloc_new]
  exact bodyPost_ret (v := .agg sineCells) (results_cell_row (by rfl) _ _ w.heap.size 59 sineCells (0, 0) _ rfl (heap_alloc_new _ _) Try.underlying59 rfl infoTab) rfl ⟨rfl, rfl⟩

theorem tab_new (W : World) : ((W.alloc (.cells sineCells 59)).alloc (.cells zeroCells 59)).heap[W.heap.size + 1]? = some (.cells zeroCells 59 (0, 0)) := by
  have hs : W.heap.size + 1 = (W.alloc (.cells sineCells 59)).heap.size := by show _ = (W.heap.push _).size; simp
  rw [hs]; exact heap_alloc_new _ _
def tabAt (i : Int) : Int := sines.getD i.toNat 0
def sinFirst (a : Int) : Int := if a % 256 = 0 then tabAt (a / 256) else tabAt (a / 256) + ((tabAt (a / 256 + 1) - tabAt (a / 256)) * (a % 256) + 128) / 256
def tabWorld (W : World) : World := ((W.alloc (.cells sineCells 59)).alloc (.cells zeroCells 59)).setRow (W.heap.size + 1) sineCells
theorem tab_cell (W : World) (i : Int) (h0 : 0 ≤ i) (h1 : i < 65) : (tabWorld W).cell? ⟨W.heap.size + 1, i.toNat, none⟩ = some (.int .i64 (tabAt i)) := by
  unfold tabWorld
  rw [cell_setRow_same _ _ _ _ _ 59 (0, 0) (tab_new W)]
  obtain ⟨j, rfl⟩ : ∃ j : Nat, i = (j : Int) := ⟨i.toNat, by omega⟩
  have h : ∀ j : Fin 65, sineCells[((j.val : Int)).toNat]? = some (.int .i64 (tabAt (j.val : Int))) := by
    intro ⟨j, hj⟩
    have hl : j < sines.length := hj
    show sineCells[j]? = some (.int .i64 (sines.getD j 0))
    unfold sineCells
    rw [List.getElem?_toArray, List.getElem?_map, List.getD_eq_getElem?_getD, List.getElem?_eq_getElem hl]
    rfl
  exact h ⟨j, by omega⟩
theorem tab_range (i : Int) : 0 ≤ tabAt i ∧ tabAt i ≤ 65536 := by
  unfold tabAt
  have h : ∀ x ∈ sines, 0 ≤ x ∧ x ≤ 65536 := by decide
  rw [List.getD_eq_getElem?_getD]
  cases hx : sines[i.toNat]? with
  | none => simp
  | some y => exact h y (List.mem_of_getElem? hx)
theorem tab_up (i : Int) (h0 : 0 ≤ i) (h1 : i < 64) : tabAt i ≤ tabAt (i + 1) := by
  have h : ∀ j : Fin 64, tabAt (j.val : Int) ≤ tabAt ((j.val : Int) + 1) := by decide +kernel
  obtain ⟨j, rfl⟩ : ∃ j : Nat, i = (j : Int) := ⟨i.toNat, by omega⟩
  exact h ⟨j, by omega⟩
theorem tabWorld_below (W : World) : Below W.heap.size W (tabWorld W) := by
  unfold tabWorld
  exact below_setRow ((((Below.refl _ _).alloc (Nat.le_refl _) _).alloc (by show _ ≤ (W.heap.push _).size; simp) _)) (by omega) _
theorem below_drewN' {B : Nat} {a w : World} (h : Below B a w) (n : Nat) : Below B a (w.drewN n) := by
  repeat (first | exact h | apply pw_below_drewN)
set_option maxHeartbeats 800000 in
set_option maxRecDepth 100000 in
theorem trig_first.calls0 (a : Int) (w : World) (h0 : 0 ≤ a) (h1 : a ≤ 16384) (hf : a % 256 = 0) :
    Calls Try.prog 47 #[.int .i64 a] w fun e w' => e = .returned (.int .i64 (sinFirst a)) ∧ Below w.heap.size w w' := by
  have hz := zeroTab
  have hc := tab_cell w (a / 256) (by omega) (by omega)
  have hB := tabWorld_below w
  have hs : sinFirst a = tabAt (a / 256) := by unfold sinFirst; rw [if_pos hf]
  rw [hs]
  clear hs
  generalize tabAt (a / 256) = T at *
  go_enter Try.func47, Try.ntmps47
  go_wp2_with (first | (go_at_call 52; refine (trig_table.calls _).mono ?_; rintro e w' ⟨rfl, rfl⟩) | ((with_reducible refine wpList_store_rowTo rfl 59 _ _ rfl rfl (w.heap.size + 1) sineCells ?s1 ?s2 59 zeroCells ?s3 infoTab ?s4 ?s5 ?_); rotate_left 5; show wpList _ _ _ _ _ (tabWorld w); generalize tabWorld w = w2 at *))
  case s1 => rfl
  case s2 => rfl
  case s3 => exact tab_new w
  case s4 => rfl
  case s5 => kernel_rfl
  go_ret
  exact ⟨rfl, hB⟩
set_option maxHeartbeats 800000 in
set_option maxRecDepth 100000 in
theorem trig_first.calls1 (a : Int) (w : World) (h0 : 0 ≤ a) (h1 : a < 16384) (hf : a % 256 ≠ 0) :
    Calls Try.prog 47 #[.int .i64 a] w fun e w' => e = .returned (.int .i64 (sinFirst a)) ∧ Below w.heap.size w w' := by
  have hz := zeroTab
  have hc := tab_cell w (a / 256) (by omega) (by omega)
  have hc1 := tab_cell w (a / 256 + 1) (by omega) (by omega)
  have hB := tabWorld_below w
  have hs : sinFirst a = tabAt (a / 256) + ((tabAt (a / 256 + 1) - tabAt (a / 256)) * (a % 256) + 128) / 256 := by unfold sinFirst; rw [if_neg hf]
  rw [hs]
  clear hs
  obtain ⟨t0, t1⟩ := tab_range (a / 256)
  obtain ⟨u0, u1⟩ := tab_range (a / 256 + 1)
  have hup := tab_up (a / 256) (by omega) (by omega)
  generalize tabAt (a / 256) = T at *
  generalize tabAt (a / 256 + 1) = U at *
  have hf0 : 0 ≤ a % 256 := by omega
  have hf1 : a % 256 < 256 := by omega
  have m0 : 0 ≤ (U - T) * (a % 256) := Int.mul_nonneg (by omega) hf0
  have m1 : (U - T) * (a % 256) ≤ 65536 * 256 := Int.mul_le_mul (by omega) (by omega) hf0 (by omega)
  have s1 : IntKind.i64.wrap (a / 256 + 1) = a / 256 + 1 := by rw [IntKind.wrap_i64]; omega
  have s2 : IntKind.i64.wrap (U - T) = U - T := by rw [IntKind.wrap_i64]; omega
  have s3 : IntKind.i64.wrap ((U - T) * (a % 256)) = (U - T) * (a % 256) := by rw [IntKind.wrap_i64]; omega
  have s4 : IntKind.i64.wrap ((U - T) * (a % 256) + 128) = (U - T) * (a % 256) + 128 := by rw [IntKind.wrap_i64]; omega
  have s5 : ((U - T) * (a % 256) + 128).tdiv 256 = ((U - T) * (a % 256) + 128) / 256 := Int.tdiv_eq_ediv_of_nonneg (by omega)
  have s6 : IntKind.i64.wrap (((U - T) * (a % 256) + 128) / 256) = ((U - T) * (a % 256) + 128) / 256 := by rw [IntKind.wrap_i64]; omega
  have s7 : IntKind.i64.wrap (T + ((U - T) * (a % 256) + 128) / 256) = T + ((U - T) * (a % 256) + 128) / 256 := by rw [IntKind.wrap_i64]; omega
  have k0 : 0 ≤ a / 256 := by omega
  have k1 : a / 256 < 65 := by omega
  have k2 : 0 ≤ a / 256 + 1 := by omega
  have k3 : a / 256 + 1 < 65 := by omega
  have k4 : (a % 256 == 0) = false := by simpa using hf
  clear m0 m1 hup t0 t1 u0 u1 h0 h1 hf
  go_enter Try.func47, Try.ntmps47
  go_wp2_with (first | (go_at_call 52; refine (trig_table.calls _).mono ?_; rintro e w' ⟨rfl, rfl⟩) | ((with_reducible refine wpList_store_rowTo rfl 59 _ _ rfl rfl (w.heap.size + 1) sineCells ?s1 ?s2 59 zeroCells ?s3 infoTab ?s4 ?s5 ?_); rotate_left 5; show wpList _ _ _ _ _ (tabWorld w); generalize tabWorld w = w2 at *))
  case s1 => rfl
  case s2 => rfl
  case s3 => exact tab_new w
  case s4 => rfl
  case s5 => kernel_rfl
  go_quiet (fail)
  go_wp2
  go_ret
  exact ⟨rfl, below_drewN' hB _⟩
def trig_first.f (a0 : Int) : Option Int := if 0 ≤ a0 ∧ a0 ≤ 16384 then some (sinFirst a0) else none
theorem trig_first.calls (a0 : Int) (r : Int) (w : World) (h : trig_first.f a0 = some r) :
    Calls Try.prog 47 #[.int .i64 a0] w fun e w' => e = .returned (.int .i64 r) ∧ Below w.heap.size w w' := by
  unfold trig_first.f at h
  split at h
  · rename_i hh
    obtain rfl := Option.some.inj h
    by_cases hf : a0 % 256 = 0
    · exact trig_first.calls0 a0 w hh.1 hh.2 hf
    · exact trig_first.calls1 a0 w hh.1 (by omega) hf
  · cases h

end Go.Proofs.Ytfleknmconpleaa.P
