/- Functions of this seat in plain Lean and their contracts, written by a turned copy of the kit's print (turns: wip/pr/make.py of this session). No condition. Short rows. -/
import Derived.Test.YtknmlikjmnhgkaaPAllx0
import Derived.Test.YtknmlikjmnhgkaaPAllx1
namespace Go.Proofs.Ytknmlikjmnhgkaa.P
open Go.RowKit Go.Proofs.YtknmlikjmnhgkaaW.PrintWords Go.Proofs.YtknmlikjmnhgkaaW.PrintLast Go.Proofs.YtknmlikjmnhgkaaW.PrintMore
attribute [local go_sem] max2_int min2_int max_two min_two max_three min_three max_four min_four   -- for this text's walks alone
set_option linter.unusedVariables false
set_option linter.unusedSimpArgs false

/-! ### merkle_Verify: function 46 -/
mutual
def merkle_Verify.j0 : Nat → Int → Int → Int → Int → List Int → Bool → Option (Bool)
 | 0, _, _, _, _, _, _ => none
 | k + 1, x0, x1, x2, x3, x4, x26 => if x26 = true then (some false) else (merkle_Verify.l0 k x0 x1 x2 x3 x4)
def merkle_Verify.l0 : Nat → Int → Int → Int → Int → List Int → Option (Bool)
 | 0, _, _, _, _, _ => none
 | k + 1, x0, x1, x2, x3, x4 => if x1 > 1 then (if (Go.bits .xor .i64 x2 1) < x1 then (if (x4.length : Int) = 0 then (some false) else (if (Int.tmod x2 2) = 0 then (if 0 < (x4.length : Int) then ((sum_Join.f x3 (rd x4 0)).bind fun t181 => (if 1 ≤ (x4.length : Int) then (merkle_Verify.l0 k x0 (wrap64 (Int.tdiv (wrap64 (x1 + 1)) 2)) (wrap64 (Int.tdiv x2 2)) t181 (x4.drop 1)) else (none))) else (none)) else (if 0 < (x4.length : Int) then ((sum_Join.f (rd x4 0) x3).bind fun t188 => (if 1 ≤ (x4.length : Int) then (merkle_Verify.l0 k x0 (wrap64 (Int.tdiv (wrap64 (x1 + 1)) 2)) (wrap64 (Int.tdiv x2 2)) t188 (x4.drop 1)) else (none))) else (none)))) else (merkle_Verify.l0 k x0 (wrap64 (Int.tdiv (wrap64 (x1 + 1)) 2)) (wrap64 (Int.tdiv x2 2)) x3 x4)) else (if (x4.length : Int) = 0 then (some (x3 == x0)) else (some false))
end
def merkle_Verify.f (k : Nat) (a0 : Int) (a1 : Int) (a2 : Int) (a3 : Int) (l4 : List Int) : Option (Bool) := if a1 < 1 then (merkle_Verify.j0 k a0 a1 a2 a3 l4 true) else (if a1 > 4096 then (merkle_Verify.j0 k a0 a1 a2 a3 l4 true) else (if a2 < 0 then (merkle_Verify.j0 k a0 a1 a2 a3 l4 true) else (merkle_Verify.j0 k a0 a1 a2 a3 l4 (decide (a2 ≥ a1)))))
theorem merkle_Verify.mono_l : ∀ k, (∀ y0 y1 y2 y3 y4 y5, LeO (merkle_Verify.j0 k y0 y1 y2 y3 y4 y5) (merkle_Verify.j0 (k + 1) y0 y1 y2 y3 y4 y5)) ∧ (∀ y0 y1 y2 y3 y4, LeO (merkle_Verify.l0 k y0 y1 y2 y3 y4) (merkle_Verify.l0 (k + 1) y0 y1 y2 y3 y4))
 | 0 => ⟨fun _ _ _ _ _ _ r h => by simp [merkle_Verify.j0] at h, fun _ _ _ _ _ r h => by simp [merkle_Verify.l0] at h⟩
 | k + 1 => by
  obtain ⟨ih0, ih1⟩ := merkle_Verify.mono_l k
  refine ⟨?_, ?_⟩
  ·
   intro y0 y1 y2 y3 y4 y5
   unfold merkle_Verify.j0
   repeat' first
   | (with_reducible exact ih0 _ _ _ _ _ _)
   | (with_reducible exact ih1 _ _ _ _ _)
   | (with_reducible exact LeO.refl _)
   | (with_reducible exact LeO.none _)
   | (with_reducible refine LeO.ite ?_ ?_)
   | (with_reducible refine LeO.bind ?_ (fun _ => ?_))
   | exact ih0 _ _ _ _ _ _
   | exact ih1 _ _ _ _ _
   | exact LeO.none _
   | refine LeO.ite ?_ ?_
   | refine LeO.bind ?_ (fun _ => ?_)
  ·
   intro y0 y1 y2 y3 y4
   unfold merkle_Verify.l0
   repeat' first
   | (with_reducible exact ih0 _ _ _ _ _ _)
   | (with_reducible exact ih1 _ _ _ _ _)
   | (with_reducible exact LeO.refl _)
   | (with_reducible exact LeO.none _)
   | (with_reducible refine LeO.ite ?_ ?_)
   | (with_reducible refine LeO.bind ?_ (fun _ => ?_))
   | exact ih0 _ _ _ _ _ _
   | exact ih1 _ _ _ _ _
   | exact LeO.none _
   | refine LeO.ite ?_ ?_
   | refine LeO.bind ?_ (fun _ => ?_)
theorem merkle_Verify.mono : ∀ a0 a1 a2 a3 a4 k, LeO (merkle_Verify.f k a0 a1 a2 a3 a4) (merkle_Verify.f (k + 1) a0 a1 a2 a3 a4) := by
 intro a0 a1 a2 a3 a4 k
 obtain ⟨ih0, ih1⟩ := merkle_Verify.mono_l k
 unfold merkle_Verify.f
 repeat' first
   | (with_reducible exact ih0 _ _ _ _ _ _)
   | (with_reducible exact ih1 _ _ _ _ _)
   | (with_reducible exact LeO.refl _)
   | (with_reducible exact LeO.none _)
   | (with_reducible refine LeO.ite ?_ ?_)
   | (with_reducible refine LeO.bind ?_ (fun _ => ?_))
   | exact ih0 _ _ _ _ _ _
   | exact ih1 _ _ _ _ _
   | exact LeO.none _
   | refine LeO.ite ?_ ?_
   | refine LeO.bind ?_ (fun _ => ?_)
set_option maxHeartbeats 8000000 in
set_option maxRecDepth 100000 in
theorem merkle_Verify.calls (k : Nat) (a0 : Int) (a1 : Int) (a2 : Int) (a3 : Int) (P4_ : Nat → Prop) (A4 : Option Addr) (c4 : Nat) (l4 : List Int) (r : Bool) (w : World) (hs4 : Kd.V (Kd.int .u64) 37 w w.heap.size (fun k_ => P4_ k_) (.slice A4 l4.length c4) l4) (h : merkle_Verify.f k a0 a1 a2 a3 l4 = some r) :
  Calls Try.prog 46 #[.int .u64 a0, .int .i64 a1, .int .i64 a2, .int .u64 a3, .slice A4 l4.length c4] w fun e w' => e = .returned (.bool r) ∧ Below w.heap.size w w' := by
 have HO4 := Aside0.mk (show Kd.V (Kd.int .u64) 37 w w.heap.size (fun k_ => (P4_ k_ ∨ w.heap.size ≤ k_)) (.slice A4 l4.length c4) l4 from Kd.V_mono hs4 (fun k_ hk => .inl hk))
 have HB := Aside0.mk (Below.refl w.heap.size w)
 have H : (if a1 < 1 then (merkle_Verify.j0 k a0 a1 a2 a3 l4 true) else (if a1 > 4096 then (merkle_Verify.j0 k a0 a1 a2 a3 l4 true) else (if a2 < 0 then (merkle_Verify.j0 k a0 a1 a2 a3 l4 true) else (merkle_Verify.j0 k a0 a1 a2 a3 l4 (decide (a2 ≥ a1)))))) = some r := h
 clear h
 have HC6 := Aside0.mk H
 clear H
 go_enter Try.func46, Try.ntmps46
 go_upto_region 1 with (fail)
 go_cut [26] (fun v26 wc => ∃ (kq : Nat) (x26_5 : Bool), v26 = .bool x26_5 ∧ Aside0 (merkle_Verify.j0 kq a0 a1 a2 a3 l4 x26_5 = some r) ∧ Aside0 (kq ≤ k) ∧ Aside0 (Kd.V (Kd.int .u64) 37 wc w.heap.size (fun k_ => (P4_ k_ ∨ w.heap.size ≤ k_)) (.slice A4 l4.length c4) l4) ∧ Aside0 (Below w.heap.size w wc))
 case first =>
  have H := HC6.out
  clear HC6
  by_cases c7 : a1 < 1
  ·
   rw [if_pos c7] at H
   have c7b0 : decide (a1 < 1) = true := decide_eq_true c7
   clear c7
   (first | rw [c7b0] | (simp only [i64_w, i32_w]; rw [c7b0]) | skip)
   have H' := Aside0.mk H
   clear H
   go_wp2
   go_meet
   case rel => exact ⟨_, (true), (by first | rfl | (simp; done) | (simp [*]; done)), H', ⟨by first | omega | exact Nat.le_refl _⟩, ⟨by (with_reducible repeat (first | apply Kd.V_alloc | apply Kd.V_drewN | apply Kd.V_drew)); exact HO4.out⟩, ⟨by repeat (first | (with_reducible first | exact HB.out | apply below_alloc | apply pw_below_drewN | apply below_drew1) | exact HB.out)⟩⟩
  ·
   rw [if_neg c7] at H
   have c7b0 : decide (a1 < 1) = false := decide_eq_false c7
   clear c7
   (first | rw [c7b0] | (simp only [i64_w, i32_w]; rw [c7b0]) | skip)
   by_cases c8 : a1 > 4096
   ·
    rw [if_pos c8] at H
    have c8b0 : decide (4096 < a1) = true := decide_eq_true c8
    clear c8
    have H' := Aside0.mk H
    clear H
    go_wp2
    go_meet
    case rel => exact ⟨_, (true), (by first | rfl | (simp; done) | (simp [*]; done)), H', ⟨by first | omega | exact Nat.le_refl _⟩, ⟨by (with_reducible repeat (first | apply Kd.V_alloc | apply Kd.V_drewN | apply Kd.V_drew)); exact HO4.out⟩, ⟨by repeat (first | (with_reducible first | exact HB.out | apply below_alloc | apply pw_below_drewN | apply below_drew1) | exact HB.out)⟩⟩
   ·
    rw [if_neg c8] at H
    have c8b0 : decide (4096 < a1) = false := decide_eq_false c8
    clear c8
    by_cases c9 : a2 < 0
    ·
     rw [if_pos c9] at H
     have c9b0 : decide (a2 < 0) = true := decide_eq_true c9
     clear c9
     have H' := Aside0.mk H
     clear H
     go_wp2
     go_meet
     case rel => exact ⟨_, (true), (by first | rfl | (simp; done) | (simp [*]; done)), H', ⟨by first | omega | exact Nat.le_refl _⟩, ⟨by (with_reducible repeat (first | apply Kd.V_alloc | apply Kd.V_drewN | apply Kd.V_drew)); exact HO4.out⟩, ⟨by repeat (first | (with_reducible first | exact HB.out | apply below_alloc | apply pw_below_drewN | apply below_drew1) | exact HB.out)⟩⟩
    ·
     rw [if_neg c9] at H
     have c9b0 : decide (a2 < 0) = false := decide_eq_false c9
     clear c9
     have H' := Aside0.mk H
     clear H
     go_wp2
     go_meet
     case rel => exact ⟨_, (decide (a2 ≥ a1)), (by first | rfl | (simp; done) | (simp [*]; done)), H', ⟨by first | omega | exact Nat.le_refl _⟩, ⟨by (with_reducible repeat (first | apply Kd.V_alloc | apply Kd.V_drewN | apply Kd.V_drew)); exact HO4.out⟩, ⟨by repeat (first | (with_reducible first | exact HB.out | apply below_alloc | apply pw_below_drewN | apply below_drew1) | exact HB.out)⟩⟩
 case rest =>
  clear HC6
  try clear p2
  try clear c4
  try clear c7
  try clear c7b0
  try clear c8
  try clear c8b0
  try clear c9
  try clear c9b0
  obtain ⟨kq, x26_5, rfl, HA, HJ5, HO_4, HB⟩ := hcut
  cases kq with
  | zero => exact absurd HA.out (by simp [merkle_Verify.j0])
  | succ kj5 =>
   have H := HA.out
   clear HA
   simp only [merkle_Verify.j0] at H
   by_cases c10 : x26_5 = true
   ·
    subst c10
    have H1 : (some false) = some r := by rw [if_pos rfl] at H; exact H
    clear H
    have H := H1
    clear H1
    obtain rfl := Option.some.inj H
    go_wp2
    go_ret
    exact ⟨by first | rfl | (simp [errW_none, errW_some] <;> rfl) | (simp [*, errW_none, errW_some] <;> rfl), by repeat (first | (with_reducible first | exact HB.out | apply below_alloc | apply pw_below_drewN | apply below_drew1) | exact HB.out)⟩
   ·
    replace c10 := Bool.eq_false_iff.mpr c10
    subst c10
    have H1 : (merkle_Verify.l0 kj5 a0 a1 a2 a3 l4) = some r := by rw [if_neg (show ¬ (false = true) by decide)] at H; exact H
    clear H
    have H := H1
    clear H1
    have H' := Aside0.mk H
    clear H
    go_wp2
    go_loopg [1, 2, 3, 4] kj5 (fun kq v1 v2 v3 v4 w' => ∃ (x1_2 : Int) (x2_2 : Int) (x3_2 : Int) (x4_2 : List Int), v1 = .int .i64 x1_2 ∧ v2 = .int .i64 x2_2 ∧ v3 = .int .u64 x3_2 ∧ Aside0 (merkle_Verify.l0 kq a0 x1_2 x2_2 x3_2 x4_2 = some r) ∧ Aside0 (kq ≤ kj5) ∧ Aside0 (Kd.V (Kd.int .u64) 37 w' w.heap.size (fun k_ => (P4_ k_ ∨ w.heap.size ≤ k_)) v4 x4_2) ∧ Aside0 (Below w.heap.size w w'))
    case atStart => exact ⟨(a1), (a2), (a3), (l4), (by first | rfl | (simp; done) | (simp [*]; done)), (by first | rfl | (simp; done) | (simp [*]; done)), (by first | rfl | (simp; done) | (simp [*]; done)), H', ⟨Nat.le_refl _⟩, ⟨by (with_reducible repeat (first | apply Kd.V_alloc | apply Kd.V_drewN | apply Kd.V_drew)); exact HO_4.out⟩, ⟨by repeat (first | (with_reducible first | exact HB.out | apply below_alloc | apply pw_below_drewN | apply below_drew1) | exact HB.out)⟩⟩
    case round =>
     clear H'
     try clear c1
     try clear p2
     try clear c4
     try clear c7
     try clear c7b0
     try clear c8
     try clear c8b0
     try clear c9
     try clear c9b0
     try clear c10
     try clear p2
     obtain ⟨x1_2, x2_2, x3_2, x4_2, rfl, rfl, rfl, HA, HK2, HO_4, HB⟩ := hrel
     cases gk with
     | zero => exact absurd HA.out (by simp [merkle_Verify.l0])
     | succ k2 =>
      have H := HA.out
      clear HA
      simp only [merkle_Verify.l0] at H
      by_cases c11 : x1_2 > 1
      ·
       rw [if_pos c11] at H
       have c11b0 : decide (1 < x1_2) = true := decide_eq_true c11
       clear c11
       by_cases c12 : (Go.bits .xor .i64 x2_2 1) < x1_2
       ·
        rw [if_pos c12] at H
        have c12b0 : decide ((Go.bits .xor .i64 x2_2 1) < x1_2) = true := decide_eq_true c12
        clear c12
        by_cases c13 : (x4_2.length : Int) = 0
        ·
         rw [if_pos c13] at H
         have c13b0 : ((x4_2.length : Int) == 0) = true := beq_iff_eq.mpr c13
         have c13b1 : ((x4_2.length : Int) != 0) = false := bne_eq_false_iff_eq.mpr c13
         clear c13
         obtain rfl := Option.some.inj H
         obtain ⟨Ao14, co14, eo14⟩ := Kd.V_slice HO_4.out
         subst eo14
         go_wp2
         go_ret
         exact ⟨by first | rfl | (simp [errW_none, errW_some] <;> rfl) | (simp [*, errW_none, errW_some] <;> rfl), by repeat (first | (with_reducible first | exact HB.out | apply below_alloc | apply pw_below_drewN | apply below_drew1) | exact HB.out)⟩
        ·
         rw [if_neg c13] at H
         have c13b0 : ((x4_2.length : Int) == 0) = false := beq_eq_false_iff_ne.mpr c13
         have c13b1 : ((x4_2.length : Int) != 0) = true := bne_iff_ne.mpr c13
         have c13b2 : ¬ (x4_2 = []) := fun h_ => c13 (by rw [h_]; rfl)
         by_cases c15 : (Int.tmod x2_2 2) = 0
         ·
          rw [if_pos c15] at H
          have c15b0 : ((Int.tmod x2_2 2) == 0) = true := beq_iff_eq.mpr c15
          have c15b1 : ((Int.tmod x2_2 2) != 0) = false := bne_eq_false_iff_eq.mpr c15
          clear c15
          by_cases c16 : 0 < (x4_2.length : Int)
          ·
           rw [if_pos c16] at H
           have c16b0 : decide (0 < (x4_2.length : Int)) = true := decide_eq_true c16
           have c16b1 : decide (0 < x4_2.length) = true := decide_eq_true (by omega)
           clear c16
           replace H := Option.bind_eq_some_iff.mp H
           obtain ⟨t181, A170, H⟩ := H
           replace H : (if 1 ≤ (x4_2.length : Int) then (merkle_Verify.l0 k2 a0 (wrap64 (Int.tdiv (wrap64 (x1_2 + 1)) 2)) (wrap64 (Int.tdiv x2_2 2)) t181 (x4_2.drop 1)) else (none)) = some r := H
           have A17 := Aside0.mk A170
           clear A170
           by_cases c18 : 1 ≤ (x4_2.length : Int)
           ·
            rw [if_pos c18] at H
            have c18b0 := eq_true c18
            have c18b1 : decide (1 ≤ (x4_2.length : Int)) = true := decide_eq_true c18
            clear c18
            obtain ⟨y182, hy182⟩ : ∃ y_ : List Int, y_ = (x4_2.drop 1) := ⟨_, rfl⟩
            replace H : (merkle_Verify.l0 k2 a0 (wrap64 (Int.tdiv (wrap64 (x1_2 + 1)) 2)) (wrap64 (Int.tdiv x2_2 2)) t181 y182) = some r := by first | (rw [hy182]; with_reducible exact H) | (have H2_ := (Option.bind_some _ _).symm.trans H; rw [hy182]; with_reducible exact H2_) | (have H2_ := (Option.bind_some _ _).symm.trans H; with_reducible exact H2_) | with_reducible exact H | (rw [hy182]; exact H) | exact H
            have Ny182 := Aside0.mk hy182
            clear hy182
            have H' := Aside0.mk H
            clear H
            obtain ⟨Ao19, co19, eo19⟩ := Kd.V_slice HO_4.out
            subst eo19
            have p180 : 0 ≤ (0 : Int) := (by omega)
            have q180 : 0 < (x4_2.length : Int) := of_decide_eq_true (by first | (with_reducible assumption) | assumption)
            obtain ⟨ad180, e180, hx180_0⟩ := Kd.at_int (Kd.V_reads' HO_4.out).2.2 0 p180 q180
            cases e180
            have qi180 : (0 < x4_2.length) = True := eq_true (by omega)
            (try rw [show ((0 : Int)).toNat = 0 from rfl] at hx180_0)
            (try rw [Addr.add_zero'] at hx180_0)
            replace p180 := eq_true p180
            replace q180 := eq_true q180
            go_wp2_with (first | ((with_reducible refine gate_callee (f := 64) rfl ?_); refine goesL_ (some 47) rfl rfl Try.func64 (by kernel_rfl) rfl #[.int .u64 x3_2, .int .u64 (rd x4_2 0)] rfl (by (try simp only [List.map_toArray, List.map_cons, List.map_nil]); first | done | rfl | (simp only [List.length_drop, List.length_take]; rfl)) ?_; (with_reducible refine (sum_Join.calls x3_2 (rd x4_2 0) t181 _ A17.out).mono ?_); rintro e w' ⟨rfl, ⟨nd, rfl⟩⟩; refine ⟨_, rfl, ?_⟩; have q20 : (1 : Int) ≤ ((x4_2.length : Int) : Int) := of_decide_eq_true (by first | (with_reducible assumption) | assumption); obtain ⟨i020, hi020, _, hsz20, _⟩ := info_parts info37; have hroom20 : x4_2.length ≤ co19 := (Kd.V_reads' HO_4.out).2.1; have hC20 : Kd.F (Kd.int .u64) _ _ (some ad180) x4_2.length x4_2 := (Kd.V_at (base := w.heap.size) HO_4.out).2.2; have hcut20 := cut_from (P := Try.prog) 35 37 .i64 Try.underlying35 hi020 1 hsz20 (some ad180) x4_2.length co19 1 (by omega) q20; have hr20 := Kd.F_cut (m := (1 : Int).toNat) (c := co19) hC20 (by omega) hroom20; obtain ⟨A20, hA20⟩ : ∃ A1, A1 = (if co19 = (1 : Int).toNat then (some ad180) else ((some ad180) : Option Addr).map (·.add ((1 : Int).toNat * 1))) := ⟨_, rfl⟩; obtain ⟨c20, hc20⟩ : ∃ c1, c1 = co19 - (1 : Int).toNat := ⟨_, rfl⟩; have hy20 : y182.length = x4_2.length - (1 : Int).toNat := (by rw [Ny182.out, List.length_drop] <;> omega); rw [show (x4_2).drop (1 : Int).toNat = y182 from Ny182.out.symm] at hr20; replace hr20 : Kd.F (Kd.int .u64) _ _ A20 y182.length y182 := (by rw [hA20]; exact hr20); rw [← hy20, ← hA20, ← hc20] at hcut20; have HO186 := Aside0.mk (show Kd.V (Kd.int .u64) 37 _ w.heap.size _ (.slice A20 y182.length c20) y182 from Kd.V_mk (by rw [hy20, hc20]; exact Nat.sub_le_sub_right hroom20 _) hr20); have HC186 := Aside0.mk (show y182.length ≤ c20 from by rw [hy20, hc20]; exact Nat.sub_le_sub_right hroom20 _); clear hr20 hC20 hroom20 hi020 hsz20 hc20; have KY20 := Aside0.mk hy20; have KA20 := Aside0.mk hA20; clear hy20 hA20; replace q20 := eq_true q20))
            go_roundg k2
            case measure => have := HJ5.out; have := HK2.out; omega
            case rel => exact ⟨(wrap64 (Int.tdiv (wrap64 (x1_2 + 1)) 2)), (wrap64 (Int.tdiv x2_2 2)), (t181), (y182), (by first | rfl | (simp; done) | (simp [*]; done)), (by first | rfl | (simp; done) | (simp [*]; done)), (by first | rfl | (simp; done) | (simp [*]; done)), H', ⟨by have := HJ5.out; have := HK2.out; omega⟩, ⟨by (with_reducible repeat (first | apply Kd.V_alloc | apply Kd.V_drewN | apply Kd.V_drew)); exact HO186.out⟩, ⟨by repeat (first | (with_reducible first | exact HB.out | apply below_alloc | apply pw_below_drewN | apply below_drew1) | exact HB.out)⟩⟩
           ·
            rw [if_neg c18] at H
            exact absurd H (by simp)
          ·
           rw [if_neg c16] at H
           exact absurd H (by simp)
         ·
          rw [if_neg c15] at H
          have c15b0 : ((Int.tmod x2_2 2) == 0) = false := beq_eq_false_iff_ne.mpr c15
          have c15b1 : ((Int.tmod x2_2 2) != 0) = true := bne_iff_ne.mpr c15
          by_cases c21 : 0 < (x4_2.length : Int)
          ·
           rw [if_pos c21] at H
           have c21b0 : decide (0 < (x4_2.length : Int)) = true := decide_eq_true c21
           have c21b1 : decide (0 < x4_2.length) = true := decide_eq_true (by omega)
           clear c21
           replace H := Option.bind_eq_some_iff.mp H
           obtain ⟨t188, A220, H⟩ := H
           replace H : (if 1 ≤ (x4_2.length : Int) then (merkle_Verify.l0 k2 a0 (wrap64 (Int.tdiv (wrap64 (x1_2 + 1)) 2)) (wrap64 (Int.tdiv x2_2 2)) t188 (x4_2.drop 1)) else (none)) = some r := H
           have A22 := Aside0.mk A220
           clear A220
           by_cases c23 : 1 ≤ (x4_2.length : Int)
           ·
            rw [if_pos c23] at H
            have c23b0 := eq_true c23
            have c23b1 : decide (1 ≤ (x4_2.length : Int)) = true := decide_eq_true c23
            clear c23
            obtain ⟨y189, hy189⟩ : ∃ y_ : List Int, y_ = (x4_2.drop 1) := ⟨_, rfl⟩
            replace H : (merkle_Verify.l0 k2 a0 (wrap64 (Int.tdiv (wrap64 (x1_2 + 1)) 2)) (wrap64 (Int.tdiv x2_2 2)) t188 y189) = some r := by first | (rw [hy189]; with_reducible exact H) | (have H2_ := (Option.bind_some _ _).symm.trans H; rw [hy189]; with_reducible exact H2_) | (have H2_ := (Option.bind_some _ _).symm.trans H; with_reducible exact H2_) | with_reducible exact H | (rw [hy189]; exact H) | exact H
            have Ny189 := Aside0.mk hy189
            clear hy189
            have H' := Aside0.mk H
            clear H
            obtain ⟨Ao24, co24, eo24⟩ := Kd.V_slice HO_4.out
            subst eo24
            have p187 : 0 ≤ (0 : Int) := (by omega)
            have q187 : 0 < (x4_2.length : Int) := of_decide_eq_true (by first | (with_reducible assumption) | assumption)
            obtain ⟨ad187, e187, hx187_0⟩ := Kd.at_int (Kd.V_reads' HO_4.out).2.2 0 p187 q187
            cases e187
            have qi187 : (0 < x4_2.length) = True := eq_true (by omega)
            (try rw [show ((0 : Int)).toNat = 0 from rfl] at hx187_0)
            (try rw [Addr.add_zero'] at hx187_0)
            replace p187 := eq_true p187
            replace q187 := eq_true q187
            go_wp2_with (first | ((with_reducible refine gate_callee (f := 64) rfl ?_); refine goesL_ (some 52) rfl rfl Try.func64 (by kernel_rfl) rfl #[.int .u64 (rd x4_2 0), .int .u64 x3_2] rfl (by (try simp only [List.map_toArray, List.map_cons, List.map_nil]); first | done | rfl | (simp only [List.length_drop, List.length_take]; rfl)) ?_; (with_reducible refine (sum_Join.calls (rd x4_2 0) x3_2 t188 _ A22.out).mono ?_); rintro e w' ⟨rfl, ⟨nd, rfl⟩⟩; refine ⟨_, rfl, ?_⟩; have q25 : (1 : Int) ≤ ((x4_2.length : Int) : Int) := of_decide_eq_true (by first | (with_reducible assumption) | assumption); obtain ⟨i025, hi025, _, hsz25, _⟩ := info_parts info37; have hroom25 : x4_2.length ≤ co24 := (Kd.V_reads' HO_4.out).2.1; have hC25 : Kd.F (Kd.int .u64) _ _ (some ad187) x4_2.length x4_2 := (Kd.V_at (base := w.heap.size) HO_4.out).2.2; have hcut25 := cut_from (P := Try.prog) 35 37 .i64 Try.underlying35 hi025 1 hsz25 (some ad187) x4_2.length co24 1 (by omega) q25; have hr25 := Kd.F_cut (m := (1 : Int).toNat) (c := co24) hC25 (by omega) hroom25; obtain ⟨A25, hA25⟩ : ∃ A1, A1 = (if co24 = (1 : Int).toNat then (some ad187) else ((some ad187) : Option Addr).map (·.add ((1 : Int).toNat * 1))) := ⟨_, rfl⟩; obtain ⟨c25, hc25⟩ : ∃ c1, c1 = co24 - (1 : Int).toNat := ⟨_, rfl⟩; have hy25 : y189.length = x4_2.length - (1 : Int).toNat := (by rw [Ny189.out, List.length_drop] <;> omega); rw [show (x4_2).drop (1 : Int).toNat = y189 from Ny189.out.symm] at hr25; replace hr25 : Kd.F (Kd.int .u64) _ _ A25 y189.length y189 := (by rw [hA25]; exact hr25); rw [← hy25, ← hA25, ← hc25] at hcut25; have HO193 := Aside0.mk (show Kd.V (Kd.int .u64) 37 _ w.heap.size _ (.slice A25 y189.length c25) y189 from Kd.V_mk (by rw [hy25, hc25]; exact Nat.sub_le_sub_right hroom25 _) hr25); have HC193 := Aside0.mk (show y189.length ≤ c25 from by rw [hy25, hc25]; exact Nat.sub_le_sub_right hroom25 _); clear hr25 hC25 hroom25 hi025 hsz25 hc25; have KY25 := Aside0.mk hy25; have KA25 := Aside0.mk hA25; clear hy25 hA25; replace q25 := eq_true q25))
            go_roundg k2
            case measure => have := HJ5.out; have := HK2.out; omega
            case rel => exact ⟨(wrap64 (Int.tdiv (wrap64 (x1_2 + 1)) 2)), (wrap64 (Int.tdiv x2_2 2)), (t188), (y189), (by first | rfl | (simp; done) | (simp [*]; done)), (by first | rfl | (simp; done) | (simp [*]; done)), (by first | rfl | (simp; done) | (simp [*]; done)), H', ⟨by have := HJ5.out; have := HK2.out; omega⟩, ⟨by (with_reducible repeat (first | apply Kd.V_alloc | apply Kd.V_drewN | apply Kd.V_drew)); exact HO193.out⟩, ⟨by repeat (first | (with_reducible first | exact HB.out | apply below_alloc | apply pw_below_drewN | apply below_drew1) | exact HB.out)⟩⟩
           ·
            rw [if_neg c23] at H
            exact absurd H (by simp)
          ·
           rw [if_neg c21] at H
           exact absurd H (by simp)
       ·
        rw [if_neg c12] at H
        have c12b0 : decide ((Go.bits .xor .i64 x2_2 1) < x1_2) = false := decide_eq_false c12
        clear c12
        have H' := Aside0.mk H
        clear H
        go_wp2
        go_roundg k2
        case measure => have := HJ5.out; have := HK2.out; omega
        case rel => exact ⟨(wrap64 (Int.tdiv (wrap64 (x1_2 + 1)) 2)), (wrap64 (Int.tdiv x2_2 2)), (x3_2), (x4_2), (by first | rfl | (simp; done) | (simp [*]; done)), (by first | rfl | (simp; done) | (simp [*]; done)), (by first | rfl | (simp; done) | (simp [*]; done)), H', ⟨by have := HJ5.out; have := HK2.out; omega⟩, ⟨by (with_reducible repeat (first | apply Kd.V_alloc | apply Kd.V_drewN | apply Kd.V_drew)); exact HO_4.out⟩, ⟨by repeat (first | (with_reducible first | exact HB.out | apply below_alloc | apply pw_below_drewN | apply below_drew1) | exact HB.out)⟩⟩
      ·
       rw [if_neg c11] at H
       have c11b0 : decide (1 < x1_2) = false := decide_eq_false c11
       clear c11
       by_cases c26 : (x4_2.length : Int) = 0
       ·
        rw [if_pos c26] at H
        have c26b0 : ((x4_2.length : Int) == 0) = true := beq_iff_eq.mpr c26
        have c26b1 : ((x4_2.length : Int) != 0) = false := bne_eq_false_iff_eq.mpr c26
        clear c26
        obtain rfl := Option.some.inj H
        obtain ⟨Ao27, co27, eo27⟩ := Kd.V_slice HO_4.out
        subst eo27
        go_wp2
        go_ret
        exact ⟨by first | rfl | (simp [errW_none, errW_some] <;> rfl) | (simp [*, errW_none, errW_some] <;> rfl), by repeat (first | (with_reducible first | exact HB.out | apply below_alloc | apply pw_below_drewN | apply below_drew1) | exact HB.out)⟩
       ·
        rw [if_neg c26] at H
        have c26b0 : ((x4_2.length : Int) == 0) = false := beq_eq_false_iff_ne.mpr c26
        have c26b1 : ((x4_2.length : Int) != 0) = true := bne_iff_ne.mpr c26
        have c26b2 : ¬ (x4_2 = []) := fun h_ => c26 (by rw [h_]; rfl)
        obtain rfl := Option.some.inj H
        obtain ⟨Ao28, co28, eo28⟩ := Kd.V_slice HO_4.out
        subst eo28
        go_wp2
        go_ret
        exact ⟨by first | rfl | (simp [errW_none, errW_some] <;> rfl) | (simp [*, errW_none, errW_some] <;> rfl), by repeat (first | (with_reducible first | exact HB.out | apply below_alloc | apply pw_below_drewN | apply below_drew1) | exact HB.out)⟩

end Go.Proofs.Ytknmlikjmnhgkaa.P
