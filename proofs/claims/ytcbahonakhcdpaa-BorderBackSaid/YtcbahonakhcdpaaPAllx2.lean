/- Functions of this seat in plain Lean and their contracts, written by a turned copy of the kit's print (turns: wip/pr/make.py of this session). No condition. Short rows. -/
import Derived.Test.YtcbahonakhcdpaaPAllx0
import Derived.Test.YtcbahonakhcdpaaPAllx1
namespace Go.Proofs.Ytcbahonakhcdpaa.P
open Go.RowKit Go.Proofs.YtcbahonakhcdpaaW.PrintWords Go.Proofs.YtcbahonakhcdpaaW.PrintLast Go.Proofs.YtcbahonakhcdpaaW.PrintMore
attribute [local go_sem] max2_int min2_int max_two min_two max_three min_three max_four min_four   -- for this text's walks alone
set_option linter.unusedVariables false
set_option linter.unusedSimpArgs false

/-! ### tourkeep1_BorderBack: function 7 -/
def tourkeep1_BorderBack.j0 : Nat → Int → Bool → Option (Bool)
 | 0, _, _ => none
 | k + 1, x0, x18 => if x18 = true then (none) else ((border_To.f x0).bind fun bt103 => ((fix_Clamp.f x0).bind fun t105 => (if t105 = x0 then ((border_From.f bt103.1).bind fun bt106 => (if bt103.2 = 0 then (if bt106.2 = 0 then (some (bt106.1 == x0)) else (none)) else (none))) else (if bt103.2 = 2 then (some (bt103.1 == 0)) else (none)))))
def tourkeep1_BorderBack.f (k : Nat) (a0 : Int) : Option (Bool) := (border_From.f 4609434218613702656).bind fun bt101 => (if bt101.1 = 98304 then (tourkeep1_BorderBack.j0 k a0 (bt101.2 != 0)) else (tourkeep1_BorderBack.j0 k a0 true))
theorem tourkeep1_BorderBack.mono_l : ∀ k, (∀ y0 y1, LeO (tourkeep1_BorderBack.j0 k y0 y1) (tourkeep1_BorderBack.j0 (k + 1) y0 y1))
 | 0 => fun _ _ r h => by simp [tourkeep1_BorderBack.j0] at h
 | k + 1 => by
  have ih0 := tourkeep1_BorderBack.mono_l k
  ·
   intro y0 y1
   unfold tourkeep1_BorderBack.j0
   repeat' first
   | (with_reducible exact ih0 _ _)
   | (with_reducible exact LeO.refl _)
   | (with_reducible exact LeO.none _)
   | (with_reducible refine LeO.ite ?_ ?_)
   | (with_reducible refine LeO.bind ?_ (fun _ => ?_))
   | exact ih0 _ _
   | exact LeO.none _
   | refine LeO.ite ?_ ?_
   | refine LeO.bind ?_ (fun _ => ?_)
theorem tourkeep1_BorderBack.mono : ∀ a0 k, LeO (tourkeep1_BorderBack.f k a0) (tourkeep1_BorderBack.f (k + 1) a0) := by
 intro a0 k
 have ih0 := tourkeep1_BorderBack.mono_l k
 unfold tourkeep1_BorderBack.f
 repeat' first
   | (with_reducible exact ih0 _ _)
   | (with_reducible exact LeO.refl _)
   | (with_reducible exact LeO.none _)
   | (with_reducible refine LeO.ite ?_ ?_)
   | (with_reducible refine LeO.bind ?_ (fun _ => ?_))
   | exact ih0 _ _
   | exact LeO.none _
   | refine LeO.ite ?_ ?_
   | refine LeO.bind ?_ (fun _ => ?_)
set_option maxHeartbeats 8000000 in
set_option maxRecDepth 100000 in
theorem tourkeep1_BorderBack.calls (k : Nat) (a0 : Int) (r : Bool) (w : World) (h : tourkeep1_BorderBack.f k a0 = some r) :
  Calls Try.prog 7 #[.int .i64 a0] w fun e w' => e = .returned (.bool r) ∧ Below w.heap.size w w' := by
 have HB := Aside0.mk (Below.refl w.heap.size w)
 have H : ((border_From.f 4609434218613702656).bind fun bt101 => (if bt101.1 = 98304 then (tourkeep1_BorderBack.j0 k a0 (bt101.2 != 0)) else (tourkeep1_BorderBack.j0 k a0 true))) = some r := h
 clear h
 replace H := Option.bind_eq_some_iff.mp H
 obtain ⟨⟨t101, t102⟩, A20, H⟩ := H
 replace H : (if t101 = 98304 then (tourkeep1_BorderBack.j0 k a0 (t102 != 0)) else (tourkeep1_BorderBack.j0 k a0 true)) = some r := H
 have A2 := Aside0.mk A20
 clear A20
 have HC3 := Aside0.mk H
 clear H
 go_enter Try.func7, Try.ntmps7
 go_upto_region 2 with (first | ((with_reducible refine gate_callee (f := 22) rfl ?_); refine goesL_ (some 10) rfl rfl Try.func22 (by kernel_rfl) rfl #[.int .u64 4609434218613702656] rfl (by (try simp only [List.map_toArray, List.map_cons, List.map_nil]); first | done | rfl | (simp only [List.length_drop, List.length_take]; rfl)) ?_; (with_reducible refine (border_From.calls 4609434218613702656 t101 t102 _ A2.out).mono ?_); rintro e w' ⟨rfl, ⟨nd, rfl⟩⟩; refine ⟨_, rfl, ?_⟩))
 (try simp only [Act.put, List.setIfInBounds_toArray, List.set_cons_zero, List.set_cons_succ])
 go_cut [18] (fun v18 wc => ∃ (kq : Nat) (x18_2 : Bool), v18 = .bool x18_2 ∧ Aside0 (tourkeep1_BorderBack.j0 kq a0 x18_2 = some r) ∧ Aside0 (kq ≤ k) ∧ Aside0 (Below w.heap.size w wc))
 case first =>
  have H := HC3.out
  clear HC3
  by_cases c4 : t101 = 98304
  ·
   rw [if_pos c4] at H
   have c4b0 : (t101 == 98304) = true := beq_iff_eq.mpr c4
   have c4b1 : (t101 != 98304) = false := bne_eq_false_iff_eq.mpr c4
   clear c4
   (first | rw [c4b0] | (simp only [i64_w, i32_w]; rw [c4b0]) | skip)
   have H' := Aside0.mk H
   clear H
   go_wp2
   go_meet
   case rel => exact ⟨_, ((t102 != 0)), (by first | rfl | (simp; done) | (simp [*]; done)), H', ⟨by first | omega | exact Nat.le_refl _⟩, ⟨by repeat (first | (with_reducible first | exact HB.out | apply below_alloc | apply pw_below_drewN | apply below_drew1) | exact HB.out)⟩⟩
  ·
   rw [if_neg c4] at H
   have c4b0 : (t101 == 98304) = false := beq_eq_false_iff_ne.mpr c4
   have c4b1 : (t101 != 98304) = true := bne_iff_ne.mpr c4
   (first | rw [c4b0] | (simp only [i64_w, i32_w]; rw [c4b0]) | skip)
   have H' := Aside0.mk H
   clear H
   go_wp2
   go_meet
   case rel => exact ⟨_, (true), (by first | rfl | (simp; done) | (simp [*]; done)), H', ⟨by first | omega | exact Nat.le_refl _⟩, ⟨by repeat (first | (with_reducible first | exact HB.out | apply below_alloc | apply pw_below_drewN | apply below_drew1) | exact HB.out)⟩⟩
 case rest =>
  clear HC3
  try clear p1
  try clear c2
  try clear p2
  try clear c4
  try clear c4b0
  try clear c4b1
  obtain ⟨kq, x18_2, rfl, HA, HJ2, HB⟩ := hcut
  cases kq with
  | zero => exact absurd HA.out (by simp [tourkeep1_BorderBack.j0])
  | succ kj2 =>
   have H := HA.out
   clear HA
   simp only [tourkeep1_BorderBack.j0] at H
   by_cases c5 : x18_2 = true
   ·
    subst c5
    have H1 : (none) = some r := by rw [if_pos rfl] at H; exact H
    clear H
    have H := H1
    clear H1
    exact absurd H (by simp)
   ·
    replace c5 := Bool.eq_false_iff.mpr c5
    subst c5
    have H1 : ((border_To.f a0).bind fun bt103 => ((fix_Clamp.f a0).bind fun t105 => (if t105 = a0 then ((border_From.f bt103.1).bind fun bt106 => (if bt103.2 = 0 then (if bt106.2 = 0 then (some (bt106.1 == a0)) else (none)) else (none))) else (if bt103.2 = 2 then (some (bt103.1 == 0)) else (none))))) = some r := by rw [if_neg (show ¬ (false = true) by decide)] at H; exact H
    clear H
    have H := H1
    clear H1
    replace H := Option.bind_eq_some_iff.mp H
    obtain ⟨⟨t103, t104⟩, A60, H⟩ := H
    replace H : ((fix_Clamp.f a0).bind fun t105 => (if t105 = a0 then ((border_From.f t103).bind fun bt106 => (if t104 = 0 then (if bt106.2 = 0 then (some (bt106.1 == a0)) else (none)) else (none))) else (if t104 = 2 then (some (t103 == 0)) else (none)))) = some r := H
    have A6 := Aside0.mk A60
    clear A60
    replace H := Option.bind_eq_some_iff.mp H
    obtain ⟨t105, A70, H⟩ := H
    replace H : (if t105 = a0 then ((border_From.f t103).bind fun bt106 => (if t104 = 0 then (if bt106.2 = 0 then (some (bt106.1 == a0)) else (none)) else (none))) else (if t104 = 2 then (some (t103 == 0)) else (none))) = some r := H
    have A7 := Aside0.mk A70
    clear A70
    by_cases c8 : t105 = a0
    ·
     rw [if_pos c8] at H
     have c8b0 : (t105 == a0) = true := beq_iff_eq.mpr c8
     have c8b1 : (t105 != a0) = false := bne_eq_false_iff_eq.mpr c8
     clear c8
     replace H := Option.bind_eq_some_iff.mp H
     obtain ⟨⟨t106, t107⟩, A90, H⟩ := H
     replace H : (if t104 = 0 then (if t107 = 0 then (some (t106 == a0)) else (none)) else (none)) = some r := H
     have A9 := Aside0.mk A90
     clear A90
     by_cases c10 : t104 = 0
     ·
      rw [if_pos c10] at H
      have c10b0 : (t104 == 0) = true := beq_iff_eq.mpr c10
      have c10b1 : (t104 != 0) = false := bne_eq_false_iff_eq.mpr c10
      clear c10
      by_cases c11 : t107 = 0
      ·
       rw [if_pos c11] at H
       have c11b0 : (t107 == 0) = true := beq_iff_eq.mpr c11
       have c11b1 : (t107 != 0) = false := bne_eq_false_iff_eq.mpr c11
       clear c11
       obtain rfl := Option.some.inj H
       go_wp2_with (first | ((with_reducible refine gate_callee (f := 23) rfl ?_); refine goesL_ (some 21) rfl rfl Try.func23 (by kernel_rfl) rfl #[.int .i64 a0] rfl (by (try simp only [List.map_toArray, List.map_cons, List.map_nil]); first | done | rfl | (simp only [List.length_drop, List.length_take]; rfl)) ?_; (with_reducible refine (border_To.calls a0 t103 t104 _ A6.out).mono ?_); rintro e w12 ⟨rfl, hb⟩; refine ⟨_, rfl, ?_⟩; have n0_ := Aside0.mk (below_step (by repeat (first | (with_reducible first | exact HB.out | apply below_alloc | apply pw_below_drewN | apply below_drew1) | exact HB.out)) hb); clear HB; have HB := n0_; clear n0_; (try clear hb); (try clear hb2); (try clear hk); (try clear hi)) | ((with_reducible refine gate_callee (f := 21) rfl ?_); refine goesL_ (some 25) rfl rfl Try.func21 (by kernel_rfl) rfl #[.int .i64 a0] rfl (by (try simp only [List.map_toArray, List.map_cons, List.map_nil]); first | done | rfl | (simp only [List.length_drop, List.length_take]; rfl)) ?_; (with_reducible refine (fix_Clamp.calls a0 t105 _ A7.out).mono ?_); rintro e w13 ⟨rfl, hb⟩; refine ⟨_, rfl, ?_⟩; have n0_ := Aside0.mk (below_step (by repeat (first | (with_reducible first | exact HB.out | apply below_alloc | apply pw_below_drewN | apply below_drew1) | exact HB.out)) hb); clear HB; have HB := n0_; clear n0_; (try clear hb); (try clear hb2); (try clear hk); (try clear hi)) | ((with_reducible refine gate_callee (f := 22) rfl ?_); refine goesL_ (some 36) rfl rfl Try.func22 (by kernel_rfl) rfl #[.int .u64 t103] rfl (by (try simp only [List.map_toArray, List.map_cons, List.map_nil]); first | done | rfl | (simp only [List.length_drop, List.length_take]; rfl)) ?_; (with_reducible refine (border_From.calls t103 t106 t107 _ A9.out).mono ?_); rintro e w' ⟨rfl, ⟨nd, rfl⟩⟩; refine ⟨_, rfl, ?_⟩))
       go_ret
       exact ⟨by first | rfl | (simp [errW_none, errW_some] <;> rfl) | (simp [*, errW_none, errW_some] <;> rfl), by repeat (first | (with_reducible first | exact HB.out | apply below_alloc | apply pw_below_drewN | apply below_drew1) | exact HB.out)⟩
      ·
       rw [if_neg c11] at H
       exact absurd H (by simp)
     ·
      rw [if_neg c10] at H
      exact absurd H (by simp)
    ·
     rw [if_neg c8] at H
     have c8b0 : (t105 == a0) = false := beq_eq_false_iff_ne.mpr c8
     have c8b1 : (t105 != a0) = true := bne_iff_ne.mpr c8
     by_cases c14 : t104 = 2
     ·
      rw [if_pos c14] at H
      have c14b0 : (t104 == 2) = true := beq_iff_eq.mpr c14
      have c14b1 : (t104 != 2) = false := bne_eq_false_iff_eq.mpr c14
      clear c14
      obtain rfl := Option.some.inj H
      go_wp2_with (first | ((with_reducible refine gate_callee (f := 23) rfl ?_); refine goesL_ (some 21) rfl rfl Try.func23 (by kernel_rfl) rfl #[.int .i64 a0] rfl (by (try simp only [List.map_toArray, List.map_cons, List.map_nil]); first | done | rfl | (simp only [List.length_drop, List.length_take]; rfl)) ?_; (with_reducible refine (border_To.calls a0 t103 t104 _ A6.out).mono ?_); rintro e w15 ⟨rfl, hb⟩; refine ⟨_, rfl, ?_⟩; have n0_ := Aside0.mk (below_step (by repeat (first | (with_reducible first | exact HB.out | apply below_alloc | apply pw_below_drewN | apply below_drew1) | exact HB.out)) hb); clear HB; have HB := n0_; clear n0_; (try clear hb); (try clear hb2); (try clear hk); (try clear hi)) | ((with_reducible refine gate_callee (f := 21) rfl ?_); refine goesL_ (some 25) rfl rfl Try.func21 (by kernel_rfl) rfl #[.int .i64 a0] rfl (by (try simp only [List.map_toArray, List.map_cons, List.map_nil]); first | done | rfl | (simp only [List.length_drop, List.length_take]; rfl)) ?_; (with_reducible refine (fix_Clamp.calls a0 t105 _ A7.out).mono ?_); rintro e w16 ⟨rfl, hb⟩; refine ⟨_, rfl, ?_⟩; have n0_ := Aside0.mk (below_step (by repeat (first | (with_reducible first | exact HB.out | apply below_alloc | apply pw_below_drewN | apply below_drew1) | exact HB.out)) hb); clear HB; have HB := n0_; clear n0_; (try clear hb); (try clear hb2); (try clear hk); (try clear hi)))
      go_ret
      exact ⟨by first | rfl | (simp [errW_none, errW_some] <;> rfl) | (simp [*, errW_none, errW_some] <;> rfl), by repeat (first | (with_reducible first | exact HB.out | apply below_alloc | apply pw_below_drewN | apply below_drew1) | exact HB.out)⟩
     ·
      rw [if_neg c14] at H
      exact absurd H (by simp)

/-- THE ONE PURE STATEMENT of tourkeep1_BorderBack: yours. -/
def tourkeep1_BorderBack.Pure : Prop := ∀ (a0 : Int), (Lit.int .i64 a0).wf = true → ∃ k, tourkeep1_BorderBack.f k a0 = some true
theorem tourkeep1_BorderBack.walk (P : tourkeep1_BorderBack.Pure) (a0 : Int) (w : World) (w0 : (Lit.int .i64 a0).wf = true) :
  Calls Try.prog 7 #[.int .i64 a0] w fun e w' => e = .returned (.bool true) ∧ Below w.heap.size w w' := by
 obtain ⟨k, h⟩ := P a0 w0
 refine (tourkeep1_BorderBack.calls k a0 true w h).mono ?_
 rintro e w' ⟨rfl, hd⟩
 exact ⟨rfl, hd⟩

end Go.Proofs.Ytcbahonakhcdpaa.P
