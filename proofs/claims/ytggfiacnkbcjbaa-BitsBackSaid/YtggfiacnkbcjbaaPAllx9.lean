/- Functions of this seat in plain Lean and their contracts, written by a turned copy of the kit's print (turns: wip/pr/make.py of this session). No condition. Short rows. -/
import Derived.Test.YtggfiacnkbcjbaaQGet
import Derived.Test.YtggfiacnkbcjbaaQNew
import Derived.Test.YtggfiacnkbcjbaaQPut
import Derived.Test.YtggfiacnkbcjbaaPAllx0
import Derived.Test.YtggfiacnkbcjbaaPAllx3
import Derived.Test.YtggfiacnkbcjbaaPAllx5
import Derived.Test.YtggfiacnkbcjbaaPAllx6
import Derived.Test.YtggfiacnkbcjbaaPAllx7
import Derived.Test.YtggfiacnkbcjbaaPAllx8
namespace Go.Proofs.Ytggfiacnkbcjbaa.P
open Go.RowKit Go.Proofs.YtggfiacnkbcjbaaW.PrintWords Go.Proofs.YtggfiacnkbcjbaaW.PrintLast Go.Proofs.YtggfiacnkbcjbaaW.PrintMore
attribute [local go_sem] max2_int min2_int max_two min_two max_three min_three max_four min_four   -- for this text's walks alone
set_option linter.unusedVariables false
set_option linter.unusedSimpArgs false

/-! ### tourkeep1_BitsBack: function 9 -/
mutual
def tourkeep1_BitsBack.l0 : Nat → List Int → List Int → Int → Int → ByteArray → Int → Option (Bool)
 | 0, _, _, _, _, _, _ => none
 | k + 1, x0, x27, x28, x29, x198000, x198001 => if x29 < x28 then (if 0 ≤ x29 then (if x29 < (x27.length : Int) then ((tourkeep1_BitsBack_1.f x29 (rd x27 x29)).bind fun t199 => ((tourkeep1_BitsBack_2.f (rd x27 x29) t199).bind fun t200 => ((tourkeep1_BitsBack_1.f x29 (rd x27 x29)).bind fun t201 => ((bits_Writer_Put.f x198000 x198001 t200 t199).bind fun bt202 => (if bt202.1 = 0 then ((bits_Writer_Nat.f k bt202.2.1 bt202.2.2 (IntKind.u64.wrap (rd x27 x29))).bind fun bt205 => (if bt205.1 = 0 then ((bits_Writer_Int.f k bt205.2.1 bt205.2.2 (rd x27 x29)).bind fun bt208 => (if bt208.1 = 0 then (tourkeep1_BitsBack.l0 k x0 x27 x28 (wrap64 (x29 + 1)) bt208.2.1 bt208.2.2) else (none))) else (none))) else (none)))))) else (none)) else (none)) else ((bits_Writer_Bytes.f x198000 x198001).bind fun bt211 => ((bits_New.f bt211.1).bind fun bt216 => (tourkeep1_BitsBack.l1 k x0 (x0.length : Int) 0 bt216.1 bt216.2)))
def tourkeep1_BitsBack.l1 : Nat → List Int → Int → Int → ByteArray → Int → Option (Bool)
 | 0, _, _, _, _, _ => none
 | k + 1, x61, x62, x63, x219000, x219001 => if x63 < x62 then (if 0 ≤ x63 then (if x63 < (x61.length : Int) then ((tourkeep1_BitsBack_1.f x63 (rd x61 x63)).bind fun t227 => ((bits_Reader_Get.f x219000 x219001 t227).bind fun bt228 => ((bits_Reader_Nat.f k bt228.2.2.1 bt228.2.2.2).bind fun bt232 => ((bits_Reader_Int.f k bt232.2.2.1 bt232.2.2.2).bind fun bt236 => (if bt228.2.1 = 0 then (if bt232.2.1 = 0 then (if bt236.2.1 = 0 then ((tourkeep1_BitsBack_1.f x63 (rd x61 x63)).bind fun t240 => ((tourkeep1_BitsBack_2.f (rd x61 x63) t227).bind fun t241 => (if bt228.1 = t241 then (if bt232.1 = (IntKind.u64.wrap (rd x61 x63)) then (if bt236.1 = (rd x61 x63) then (tourkeep1_BitsBack.l1 k x61 x62 (wrap64 (x63 + 1)) bt236.2.2.1 bt236.2.2.2) else (none)) else (none)) else (none)))) else (none)) else (none)) else (none)))))) else (none)) else (none)) else ((bits_Reader_Left.f x219000 x219001).bind fun bt219 => ((bits_Reader_Get.f bt219.2.1 bt219.2.2 (mn (mx bt219.1 0) 7)).bind fun bt222 => (if bt219.1 ≥ 0 then (if bt219.1 ≤ 7 then (if bt222.1 = 0 then (some (bt222.2.1 == 0)) else (none)) else (none)) else (none))))
end
def tourkeep1_BitsBack.f (k : Nat) (l0 : List Int) : Option (Bool) := (tourkeep1_bitsBegun.f k).bind fun t193 => (if t193 = true then (if 0 ≤ (mn (l0.length : Int) 200) then (if (mn (l0.length : Int) 200) ≤ (l0.length : Int) then ((objnew64.f).bind fun bt195 => (tourkeep1_BitsBack.l0 k (l0.take ((mn (l0.length : Int) 200) : Int).toNat) (l0.take ((mn (l0.length : Int) 200) : Int).toNat) ((l0.take ((mn (l0.length : Int) 200) : Int).toNat).length : Int) 0 bt195.1 bt195.2)) else (none)) else (none)) else (none))
theorem tourkeep1_BitsBack.mono_l : ∀ k, (∀ y0 y1 y2 y3 y4 y5, LeO (tourkeep1_BitsBack.l0 k y0 y1 y2 y3 y4 y5) (tourkeep1_BitsBack.l0 (k + 1) y0 y1 y2 y3 y4 y5)) ∧ (∀ y0 y1 y2 y3 y4, LeO (tourkeep1_BitsBack.l1 k y0 y1 y2 y3 y4) (tourkeep1_BitsBack.l1 (k + 1) y0 y1 y2 y3 y4))
 | 0 => ⟨fun _ _ _ _ _ _ r h => by simp [tourkeep1_BitsBack.l0] at h, fun _ _ _ _ _ r h => by simp [tourkeep1_BitsBack.l1] at h⟩
 | k + 1 => by
  obtain ⟨ih0, ih1⟩ := tourkeep1_BitsBack.mono_l k
  refine ⟨?_, ?_⟩
  ·
   intro y0 y1 y2 y3 y4 y5
   unfold tourkeep1_BitsBack.l0
   repeat' first
   | (with_reducible exact ih0 _ _ _ _ _ _)
   | (with_reducible exact ih1 _ _ _ _ _)
   | (with_reducible exact bits_Reader_Int.mono _ _ _)
   | (with_reducible exact bits_Reader_Nat.mono _ _ _)
   | (with_reducible exact bits_Writer_Int.mono _ _ _ _)
   | (with_reducible exact bits_Writer_Nat.mono _ _ _ _)
   | (with_reducible exact tourkeep1_bitsBegun.mono _)
   | (with_reducible exact LeO.refl _)
   | (with_reducible exact LeO.none _)
   | (with_reducible refine LeO.ite ?_ ?_)
   | (with_reducible refine LeO.bind ?_ (fun _ => ?_))
   | exact ih0 _ _ _ _ _ _
   | exact ih1 _ _ _ _ _
   | exact bits_Reader_Int.mono _ _ _
   | exact bits_Reader_Nat.mono _ _ _
   | exact bits_Writer_Int.mono _ _ _ _
   | exact bits_Writer_Nat.mono _ _ _ _
   | exact tourkeep1_bitsBegun.mono _
   | exact LeO.none _
   | refine LeO.ite ?_ ?_
   | refine LeO.bind ?_ (fun _ => ?_)
  ·
   intro y0 y1 y2 y3 y4
   unfold tourkeep1_BitsBack.l1
   repeat' first
   | (with_reducible exact ih0 _ _ _ _ _ _)
   | (with_reducible exact ih1 _ _ _ _ _)
   | (with_reducible exact bits_Reader_Int.mono _ _ _)
   | (with_reducible exact bits_Reader_Nat.mono _ _ _)
   | (with_reducible exact bits_Writer_Int.mono _ _ _ _)
   | (with_reducible exact bits_Writer_Nat.mono _ _ _ _)
   | (with_reducible exact tourkeep1_bitsBegun.mono _)
   | (with_reducible exact LeO.refl _)
   | (with_reducible exact LeO.none _)
   | (with_reducible refine LeO.ite ?_ ?_)
   | (with_reducible refine LeO.bind ?_ (fun _ => ?_))
   | exact ih0 _ _ _ _ _ _
   | exact ih1 _ _ _ _ _
   | exact bits_Reader_Int.mono _ _ _
   | exact bits_Reader_Nat.mono _ _ _
   | exact bits_Writer_Int.mono _ _ _ _
   | exact bits_Writer_Nat.mono _ _ _ _
   | exact tourkeep1_bitsBegun.mono _
   | exact LeO.none _
   | refine LeO.ite ?_ ?_
   | refine LeO.bind ?_ (fun _ => ?_)
theorem tourkeep1_BitsBack.mono : ∀ a0 k, LeO (tourkeep1_BitsBack.f k a0) (tourkeep1_BitsBack.f (k + 1) a0) := by
 intro a0 k
 obtain ⟨ih0, ih1⟩ := tourkeep1_BitsBack.mono_l k
 unfold tourkeep1_BitsBack.f
 repeat' first
   | (with_reducible exact ih0 _ _ _ _ _ _)
   | (with_reducible exact ih1 _ _ _ _ _)
   | (with_reducible exact bits_Reader_Int.mono _ _ _)
   | (with_reducible exact bits_Reader_Nat.mono _ _ _)
   | (with_reducible exact bits_Writer_Int.mono _ _ _ _)
   | (with_reducible exact bits_Writer_Nat.mono _ _ _ _)
   | (with_reducible exact tourkeep1_bitsBegun.mono _)
   | (with_reducible exact LeO.refl _)
   | (with_reducible exact LeO.none _)
   | (with_reducible refine LeO.ite ?_ ?_)
   | (with_reducible refine LeO.bind ?_ (fun _ => ?_))
   | exact ih0 _ _ _ _ _ _
   | exact ih1 _ _ _ _ _
   | exact bits_Reader_Int.mono _ _ _
   | exact bits_Reader_Nat.mono _ _ _
   | exact bits_Writer_Int.mono _ _ _ _
   | exact bits_Writer_Nat.mono _ _ _ _
   | exact tourkeep1_bitsBegun.mono _
   | exact LeO.none _
   | refine LeO.ite ?_ ?_
   | refine LeO.bind ?_ (fun _ => ?_)
set_option maxHeartbeats 8000000 in
set_option maxRecDepth 100000 in
theorem tourkeep1_BitsBack.calls (k : Nat) (A0 : Option Addr) (c0 : Nat) (l0 : List Int) (r : Bool) (w : World) (hr0 : Kd.C (Kd.int .i64) w A0 l0.length l0) (hc0 : l0.length ≤ c0) (h : tourkeep1_BitsBack.f k l0 = some r) :
  Calls Try.prog 9 #[.slice A0 l0.length c0] w fun e w' => e = .returned (.bool r) ∧ Below w.heap.size w w' := by
 have hu64 := Try.underlying64
 have HR0 := Aside0.mk hr0
 have HC0 := Aside0.mk hc0
 clear hr0 hc0
 have HB := Aside0.mk (Below.refl w.heap.size w)
 have H : ((tourkeep1_bitsBegun.f k).bind fun t193 => (if t193 = true then (if 0 ≤ (mn (l0.length : Int) 200) then (if (mn (l0.length : Int) 200) ≤ (l0.length : Int) then ((objnew64.f).bind fun bt195 => (tourkeep1_BitsBack.l0 k (l0.take ((mn (l0.length : Int) 200) : Int).toNat) (l0.take ((mn (l0.length : Int) 200) : Int).toNat) ((l0.take ((mn (l0.length : Int) 200) : Int).toNat).length : Int) 0 bt195.1 bt195.2)) else (none)) else (none)) else (none))) = some r := h
 clear h
 replace H := Option.bind_eq_some_iff.mp H
 obtain ⟨t193, A20, H⟩ := H
 replace H : (if t193 = true then (if 0 ≤ (mn (l0.length : Int) 200) then (if (mn (l0.length : Int) 200) ≤ (l0.length : Int) then ((objnew64.f).bind fun bt195 => (tourkeep1_BitsBack.l0 k (l0.take ((mn (l0.length : Int) 200) : Int).toNat) (l0.take ((mn (l0.length : Int) 200) : Int).toNat) ((l0.take ((mn (l0.length : Int) 200) : Int).toNat).length : Int) 0 bt195.1 bt195.2)) else (none)) else (none)) else (none)) = some r := H
 have A2 := Aside0.mk A20
 clear A20
 by_cases c3 : t193 = true
 ·
  subst c3
  have H1 : (if 0 ≤ (mn (l0.length : Int) 200) then (if (mn (l0.length : Int) 200) ≤ (l0.length : Int) then ((objnew64.f).bind fun bt195 => (tourkeep1_BitsBack.l0 k (l0.take ((mn (l0.length : Int) 200) : Int).toNat) (l0.take ((mn (l0.length : Int) 200) : Int).toNat) ((l0.take ((mn (l0.length : Int) 200) : Int).toNat).length : Int) 0 bt195.1 bt195.2)) else (none)) else (none)) = some r := by rw [if_pos rfl] at H; exact H
  clear H
  have H := H1
  clear H1
  obtain ⟨ji4, hji4⟩ : ∃ j_ : Int, (mn (l0.length : Int) 200) = j_ := ⟨_, rfl⟩
  replace H : (if 0 ≤ (ji4) then (if (ji4) ≤ (l0.length : Int) then ((objnew64.f).bind fun bt195 => (tourkeep1_BitsBack.l0 k (l0.take ((ji4) : Int).toNat) (l0.take ((ji4) : Int).toNat) ((l0.take ((ji4) : Int).toNat).length : Int) 0 bt195.1 bt195.2)) else (none)) else (none)) = some r := by first | (rw [hji4] at H; exact H) | (simp only [hji4] at H ⊢; exact H)
  (try rw [hji4] at A2)
  (try (have hji4h : ji4 ≤ 200 := by (rw [← hji4]; unfold mn; (repeat' split) <;> omega)))
  (try (have hji4g : ji4 ≤ 64 := by omega))
  (try (have hji4l : 0 ≤ ji4 := by (rw [← hji4]; unfold mn; (repeat' split) <;> omega)))
  (try (have hji4m : 0 ≤ ji4 := by omega))
  have hji4_ : (if 200 < (l0.length : Int) then 200 else (l0.length : Int)) = ji4 := hji4
  by_cases c5 : 0 ≤ (ji4)
  ·
   rw [if_pos c5] at H
   have c5b0 := eq_true c5
   have c5b1 : decide (0 ≤ (ji4)) = true := decide_eq_true c5
   clear c5
   by_cases c6 : (ji4) ≤ (l0.length : Int)
   ·
    rw [if_pos c6] at H
    have c6b0 := eq_true c6
    have c6b1 : decide ((ji4) ≤ (l0.length : Int)) = true := decide_eq_true c6
    clear c6
    replace H := Option.bind_eq_some_iff.mp H
    obtain ⟨⟨t195, t196⟩, A70, H⟩ := H
    replace H : (tourkeep1_BitsBack.l0 k (l0.take ((ji4) : Int).toNat) (l0.take ((ji4) : Int).toNat) ((l0.take ((ji4) : Int).toNat).length : Int) 0 t195 t196) = some r := H
    have A7 := Aside0.mk A70
    clear A70
    have H' := Aside0.mk H
    clear H
    go_enter Try.func9, Try.ntmps9
    go_wp2_with (first | ((with_reducible refine gate_callee (f := 41) rfl ?_); refine goesL_ (some 20) rfl rfl Try.func41 (by kernel_rfl) rfl #[] rfl (by (try simp only [List.map_toArray, List.map_cons, List.map_nil]); first | done | rfl | (simp only [List.length_drop, List.length_take]; rfl)) ?_; (with_reducible refine (tourkeep1_bitsBegun.calls k  true _ A2.out).mono ?_); rintro e w8 ⟨rfl, hb⟩; refine ⟨_, rfl, ?_⟩; have n0_ := Aside0.mk (below_step (by repeat (first | (with_reducible first | exact HB.out | apply below_alloc | apply pw_below_drewN | apply below_drew1) | exact HB.out)) hb); clear HB; have HB := n0_; clear n0_; (try clear hb); (try clear hb2); (try clear hk); (try clear hi); obtain ⟨i09, hi09, _, hsz9, _⟩ := info_parts info3; obtain ⟨hcut9, hA9, hC9⟩ := print_take_of (P := Try.prog) (Value.int .i64) 0 37 3 .i64 Try.underlying37 hi09 hsz9 A0 c0 l0 (ji4) (of_decide_eq_true (by first | (with_reducible assumption) | assumption)) (of_decide_eq_true (by first | (with_reducible assumption) | assumption)) HC0.out; have HR194 := Aside0.mk (Kd.C_of_reads (h1 := fun _ => rfl) (hA9 _ (Kd.reads_of_C HR0.out))); have HC194 := Aside0.mk hC9; clear hA9 hC9 hi09 hsz9) | ((with_reducible refine gate_alloc (t := 64) rfl ?_); refine objnew_event (w0 := w) A7.out rfl ?qrun ?side1 ?_; (case qrun => kernel_rfl); (case side1 => repeat (first | (with_reducible first | exact HB.out | apply below_alloc | apply pw_below_drewN | apply below_drew1) | exact HB.out)); intro g197 w10 hi hb hb2; have n0_ := Aside0.mk (hb); have n1_ := Aside0.mk (hi); clear HB; have HB := n0_; have HI197 := n1_; clear n0_ n1_; (try clear hb); (try clear hb2); (try clear hk); (try clear hi)))
    have hlt_ : (l0.take ji4.toNat).length = ji4.toNat := by rw [List.length_take]; have := of_eq_true c6b0; omega
    try rw [show (max ji4 0 : Int) = ((l0.take ji4.toNat).length : Int) from by rw [hlt_]; omega]
    try rw [show Value.slice A0 ji4.toNat c0 = Value.slice A0 (l0.take ji4.toNat).length c0 from by rw [hlt_]]
    clear hlt_
    generalize l0.take ji4.toNat = tl_ at *
    go_loopg [29] k (fun kq v29 w' => ∃ (x29_1 : Int) (x198000_1 : ByteArray) (x198001_1 : Int), v29 = .int .i64 x29_1 ∧ Aside0 (tourkeep1_BitsBack.l0 kq tl_ tl_ (tl_.length : Int) x29_1 x198000_1 x198001_1 = some r) ∧ Aside0 (kq ≤ k) ∧ Aside0 (IsS64 w w' g197 x198000_1 x198001_1) ∧ Aside0 (Below w.heap.size w w'))
    case atStart => exact ⟨(0), (t195), (t196), (by first | rfl | (simp; done) | (simp [*]; done)), H', ⟨Nat.le_refl _⟩, ⟨by repeat (first | (with_reducible first | exact HI197.out | apply IsS64.alloc | apply IsS64.drewN | apply IsS64.drew | apply IsS64.set_1) | exact HI197.out)⟩, ⟨by repeat (first | (with_reducible first | exact HB.out | apply below_alloc | apply pw_below_drewN | apply below_drew1 | refine below_set ?_ (IsS64.ge HI197.out)) | exact HB.out)⟩⟩
    case round =>
     clear H'
     try clear p1
     try clear p2
     try clear c3
     try clear c4
     try clear c5
     try clear c5b0
     try clear c5b1
     try clear c6
     try clear c6b0
     try clear c6b1
     try clear c9
     obtain ⟨x29_1, x198000_1, x198001_1, rfl, HA, HK1, HI197, HB⟩ := hrel
     cases gk with
     | zero => exact absurd HA.out (by simp [tourkeep1_BitsBack.l0])
     | succ k1 =>
      have H := HA.out
      clear HA
      simp only [tourkeep1_BitsBack.l0] at H
      by_cases c11 : x29_1 < (tl_.length : Int)
      ·
       rw [if_pos c11] at H
       have c11b0 : decide (x29_1 < (tl_.length : Int)) = true := decide_eq_true c11
       clear c11
       by_cases c12 : 0 ≤ x29_1
       ·
        rw [if_pos c12] at H
        have c12b0 : decide (0 ≤ x29_1) = true := decide_eq_true c12
        clear c12
        by_cases c13 : x29_1 < (tl_.length : Int)
        ·
         rw [if_pos c13] at H
         have c13b0 : decide (x29_1 < (tl_.length : Int)) = true := decide_eq_true c13
         clear c13
         replace H := Option.bind_eq_some_iff.mp H
         obtain ⟨t199, A140, H⟩ := H
         replace H : ((tourkeep1_BitsBack_2.f (rd tl_ x29_1) t199).bind fun t200 => ((tourkeep1_BitsBack_1.f x29_1 (rd tl_ x29_1)).bind fun t201 => ((bits_Writer_Put.f x198000_1 x198001_1 t200 t199).bind fun bt202 => (if bt202.1 = 0 then ((bits_Writer_Nat.f k1 bt202.2.1 bt202.2.2 (IntKind.u64.wrap (rd tl_ x29_1))).bind fun bt205 => (if bt205.1 = 0 then ((bits_Writer_Int.f k1 bt205.2.1 bt205.2.2 (rd tl_ x29_1)).bind fun bt208 => (if bt208.1 = 0 then (tourkeep1_BitsBack.l0 k1 tl_ tl_ (tl_.length : Int) (wrap64 (x29_1 + 1)) bt208.2.1 bt208.2.2) else (none))) else (none))) else (none))))) = some r := H
         have A14 := Aside0.mk A140
         clear A140
         replace H := Option.bind_eq_some_iff.mp H
         obtain ⟨t200, A150, H⟩ := H
         replace H : ((tourkeep1_BitsBack_1.f x29_1 (rd tl_ x29_1)).bind fun t201 => ((bits_Writer_Put.f x198000_1 x198001_1 t200 t199).bind fun bt202 => (if bt202.1 = 0 then ((bits_Writer_Nat.f k1 bt202.2.1 bt202.2.2 (IntKind.u64.wrap (rd tl_ x29_1))).bind fun bt205 => (if bt205.1 = 0 then ((bits_Writer_Int.f k1 bt205.2.1 bt205.2.2 (rd tl_ x29_1)).bind fun bt208 => (if bt208.1 = 0 then (tourkeep1_BitsBack.l0 k1 tl_ tl_ (tl_.length : Int) (wrap64 (x29_1 + 1)) bt208.2.1 bt208.2.2) else (none))) else (none))) else (none)))) = some r := H
         have A15 := Aside0.mk A150
         clear A150
         replace H := Option.bind_eq_some_iff.mp H
         obtain ⟨t201, A160, H⟩ := H
         replace H : ((bits_Writer_Put.f x198000_1 x198001_1 t200 t199).bind fun bt202 => (if bt202.1 = 0 then ((bits_Writer_Nat.f k1 bt202.2.1 bt202.2.2 (IntKind.u64.wrap (rd tl_ x29_1))).bind fun bt205 => (if bt205.1 = 0 then ((bits_Writer_Int.f k1 bt205.2.1 bt205.2.2 (rd tl_ x29_1)).bind fun bt208 => (if bt208.1 = 0 then (tourkeep1_BitsBack.l0 k1 tl_ tl_ (tl_.length : Int) (wrap64 (x29_1 + 1)) bt208.2.1 bt208.2.2) else (none))) else (none))) else (none))) = some r := H
         obtain rfl := Option.some.inj ((show Aside0 (tourkeep1_BitsBack_1.f x29_1 (rd tl_ x29_1) = some t199) by assumption).out.symm.trans A160)
         have A16 := Aside0.mk A160
         clear A160
         replace H := Option.bind_eq_some_iff.mp H
         obtain ⟨⟨t202, t203, t204⟩, A170, H⟩ := H
         replace H : (if t202 = 0 then ((bits_Writer_Nat.f k1 t203 t204 (IntKind.u64.wrap (rd tl_ x29_1))).bind fun bt205 => (if bt205.1 = 0 then ((bits_Writer_Int.f k1 bt205.2.1 bt205.2.2 (rd tl_ x29_1)).bind fun bt208 => (if bt208.1 = 0 then (tourkeep1_BitsBack.l0 k1 tl_ tl_ (tl_.length : Int) (wrap64 (x29_1 + 1)) bt208.2.1 bt208.2.2) else (none))) else (none))) else (none)) = some r := H
         have A17 := Aside0.mk A170
         clear A170
         by_cases c18 : t202 = 0
         ·
          rw [if_pos c18] at H
          have c18b0 : (t202 == 0) = true := beq_iff_eq.mpr c18
          have c18b1 : (t202 != 0) = false := bne_eq_false_iff_eq.mpr c18
          clear c18
          replace H := Option.bind_eq_some_iff.mp H
          obtain ⟨⟨t205, t206, t207⟩, A190, H⟩ := H
          replace H : (if t205 = 0 then ((bits_Writer_Int.f k1 t206 t207 (rd tl_ x29_1)).bind fun bt208 => (if bt208.1 = 0 then (tourkeep1_BitsBack.l0 k1 tl_ tl_ (tl_.length : Int) (wrap64 (x29_1 + 1)) bt208.2.1 bt208.2.2) else (none))) else (none)) = some r := H
          have A19 := Aside0.mk A190
          clear A190
          by_cases c20 : t205 = 0
          ·
           rw [if_pos c20] at H
           have c20b0 : (t205 == 0) = true := beq_iff_eq.mpr c20
           have c20b1 : (t205 != 0) = false := bne_eq_false_iff_eq.mpr c20
           clear c20
           replace H := Option.bind_eq_some_iff.mp H
           obtain ⟨⟨t208, t209, t210⟩, A210, H⟩ := H
           replace H : (if t208 = 0 then (tourkeep1_BitsBack.l0 k1 tl_ tl_ (tl_.length : Int) (wrap64 (x29_1 + 1)) t209 t210) else (none)) = some r := H
           have A21 := Aside0.mk A210
           clear A210
           by_cases c22 : t208 = 0
           ·
            rw [if_pos c22] at H
            have c22b0 : (t208 == 0) = true := beq_iff_eq.mpr c22
            have c22b1 : (t208 != 0) = false := bne_eq_false_iff_eq.mpr c22
            clear c22
            have H' := Aside0.mk H
            clear H
            have p198 : 0 ≤ (x29_1 : Int) := of_decide_eq_true (by first | (with_reducible assumption) | assumption)
            have q198 : x29_1 < (tl_.length : Int) := of_decide_eq_true (by first | (with_reducible assumption) | assumption)
            obtain ⟨ad198, e198, hx198_0⟩ := Kd.at_int HR194.out x29_1 p198 q198
            cases e198
            replace hx198_0 := (HB.out.cell (World.block_lt_of_cell? w _ hx198_0)).trans hx198_0
            replace p198 := eq_true p198
            replace q198 := eq_true q198
            go_wp2_with (first | (go_at_call 42; (with_reducible refine (tourkeep1_BitsBack_1.calls x29_1 (rd tl_ x29_1) t199 _ A14.out).mono ?_); rintro e w' ⟨rfl, ⟨nd, rfl⟩⟩) | (go_at_call 43; (with_reducible refine (tourkeep1_BitsBack_2.calls (rd tl_ x29_1) t199 t200 _ A15.out).mono ?_); rintro e w' ⟨rfl, ⟨nd, rfl⟩⟩) | (go_at_call 42; (with_reducible refine (tourkeep1_BitsBack_1.calls x29_1 (rd tl_ x29_1) t199 _ A16.out).mono ?_); rintro e w' ⟨rfl, ⟨nd, rfl⟩⟩) | ((with_reducible refine gate_callee (f := 44) rfl ?_); refine goesL_ (some 45) rfl rfl Try.func44 (by kernel_rfl) rfl #[.pointer (some ⟨g197, 0, none⟩), .int .u64 t200, .int .i64 t199] rfl (by (try simp only [List.map_toArray, List.map_cons, List.map_nil]); first | done | rfl | (simp only [List.length_drop, List.length_take]; rfl)) ?_; (with_reducible refine (bits_Writer_Put.calls g197 x198000_1 x198001_1 t200 t199 t202 t203 t204 w _ ?side1 ?side2 A17.out).mono ?_); (case side1 => repeat (first | (with_reducible first | exact HI197.out | apply IsS64.alloc | apply IsS64.drewN | apply IsS64.drew | apply IsS64.set_1) | exact HI197.out)); (case side2 => repeat (first | (with_reducible first | exact HB.out | apply below_alloc | apply pw_below_drewN | apply below_drew1 | refine below_set ?_ (IsS64.ge HI197.out)) | exact HB.out)); rintro e w23 ⟨rfl, hi, hb, hk⟩; refine ⟨_, rfl, ?_⟩; have n0_ := Aside0.mk (hb); have n1_ := Aside0.mk (hi); clear HB; clear HI197; have HB := n0_; have HI197 := n1_; clear n0_ n1_; (try clear hb); (try clear hb2); (try clear hk); (try clear hi)) | (go_at_call 45; (with_reducible refine (bits_Writer_Nat.calls k1 g197 t203 t204 (IntKind.u64.wrap (rd tl_ x29_1)) t205 t206 t207 w _ ?side1 ?side2 A19.out).mono ?_); (case side1 => repeat (first | (with_reducible first | exact HI197.out | apply IsS64.alloc | apply IsS64.drewN | apply IsS64.drew | apply IsS64.set_1) | exact HI197.out)); (case side2 => repeat (first | (with_reducible first | exact HB.out | apply below_alloc | apply pw_below_drewN | apply below_drew1 | refine below_set ?_ (IsS64.ge HI197.out)) | exact HB.out)); rintro e w24 ⟨rfl, hi, hb, hk⟩; have n0_ := Aside0.mk (hb); have n1_ := Aside0.mk (hi); clear HB; clear HI197; have HB := n0_; have HI197 := n1_; clear n0_ n1_; (try clear hb); (try clear hb2); (try clear hk); (try clear hi)) | (go_at_call 46; (with_reducible refine (bits_Writer_Int.calls k1 g197 t206 t207 (rd tl_ x29_1) t208 t209 t210 w _ ?side1 ?side2 A21.out).mono ?_); (case side1 => repeat (first | (with_reducible first | exact HI197.out | apply IsS64.alloc | apply IsS64.drewN | apply IsS64.drew | apply IsS64.set_1) | exact HI197.out)); (case side2 => repeat (first | (with_reducible first | exact HB.out | apply below_alloc | apply pw_below_drewN | apply below_drew1 | refine below_set ?_ (IsS64.ge HI197.out)) | exact HB.out)); rintro e w25 ⟨rfl, hi, hb, hk⟩; have n0_ := Aside0.mk (hb); have n1_ := Aside0.mk (hi); clear HB; clear HI197; have HB := n0_; have HI197 := n1_; clear n0_ n1_; (try clear hb); (try clear hb2); (try clear hk); (try clear hi)))
            go_roundg k1
            case measure => have := HK1.out; omega
            case rel => exact ⟨(wrap64 (x29_1 + 1)), (t209), (t210), (by first | rfl | (simp; done) | (simp [*]; done)), H', ⟨by have := HK1.out; omega⟩, ⟨by repeat (first | (with_reducible first | exact HI197.out | apply IsS64.alloc | apply IsS64.drewN | apply IsS64.drew | apply IsS64.set_1) | exact HI197.out)⟩, ⟨by repeat (first | (with_reducible first | exact HB.out | apply below_alloc | apply pw_below_drewN | apply below_drew1 | refine below_set ?_ (IsS64.ge HI197.out)) | exact HB.out)⟩⟩
           ·
            rw [if_neg c22] at H
            exact absurd H (by simp)
          ·
           rw [if_neg c20] at H
           exact absurd H (by simp)
         ·
          rw [if_neg c18] at H
          exact absurd H (by simp)
        ·
         rw [if_neg c13] at H
         exact absurd H (by simp)
       ·
        rw [if_neg c12] at H
        exact absurd H (by simp)
      ·
       rw [if_neg c11] at H
       have c11b0 : decide (x29_1 < (tl_.length : Int)) = false := decide_eq_false c11
       clear c11
       replace H := Option.bind_eq_some_iff.mp H
       obtain ⟨⟨t211, t214, t215⟩, A260, H⟩ := H
       replace H : ((bits_New.f t211).bind fun bt216 => (tourkeep1_BitsBack.l1 k1 tl_ (tl_.length : Int) 0 bt216.1 bt216.2)) = some r := H
       have A26 := Aside0.mk A260
       clear A260
       replace H := Option.bind_eq_some_iff.mp H
       obtain ⟨⟨t216, t217⟩, A270, H⟩ := H
       replace H : (tourkeep1_BitsBack.l1 k1 tl_ (tl_.length : Int) 0 t216 t217) = some r := H
       have A27 := Aside0.mk A270
       clear A270
       have H' := Aside0.mk H
       clear H
       go_wp2_with (first | ((with_reducible refine gate_callee (f := 39) rfl ?_); refine goesL_ (some 59) rfl rfl Try.func39 (by kernel_rfl) rfl #[.pointer (some ⟨g197, 0, none⟩)] rfl (by (try simp only [List.map_toArray, List.map_cons, List.map_nil]); first | done | rfl | (simp only [List.length_drop, List.length_take]; rfl)) ?_; (with_reducible refine (bits_Writer_Bytes.calls g197 x198000_1 x198001_1 t211 t214 t215 w _ ?side1 ?side2 A26.out).mono ?_); (case side1 => repeat (first | (with_reducible first | exact HI197.out | apply IsS64.alloc | apply IsS64.drewN | apply IsS64.drew | apply IsS64.set_1) | exact HI197.out)); (case side2 => repeat (first | (with_reducible first | exact HB.out | apply below_alloc | apply pw_below_drewN | apply below_drew1 | refine below_set ?_ (IsS64.ge HI197.out)) | exact HB.out)); rintro e w28 ⟨v212, rfl, ho0, hi, hb, hk⟩; refine ⟨_, rfl, ?_⟩; have n0_ := Aside0.mk (Kd.R_lower ho0 (below_size (by repeat (first | (with_reducible first | exact HB.out | apply below_alloc | apply pw_below_drewN | apply below_drew1 | refine below_set ?_ (IsS64.ge HI197.out)) | exact HB.out)))); have n1_ := Aside0.mk (hb); have n2_ := Aside0.mk (hi); clear HB; clear HI197; have HO213 := n0_; have HB := n1_; have HI197 := n2_; clear n0_ n1_ n2_; (try clear hb); (try clear hb2); (try clear hk); (try clear hi); (try clear ho0); obtain ⟨Ao29, co29, eo29⟩ := Kd.R_slice HO213.out; subst eo29) | ((with_reducible refine gate_callee (f := 38) rfl ?_); refine goesL_ (some 60) rfl rfl Try.func38 (by kernel_rfl) rfl #[.slice Ao29 t211.length co29] rfl (by (try simp only [List.map_toArray, List.map_cons, List.map_nil]); first | done | rfl | (simp only [List.length_drop, List.length_take]; rfl)) ?_; (with_reducible refine (bits_New.calls _ _ t211 t216 t217 w _ ?side1 ?side2 ?side3 A27.out).mono ?_); (case side1 => repeat (first | (with_reducible first | exact HB.out | apply below_alloc | apply pw_below_drewN | apply below_drew1 | refine below_set ?_ (IsS64.ge HI197.out)) | exact HB.out)); (case side2 => exact HO213.out); (case side3 => exact (Kd.R_reads' HO213.out).2.1); rintro e w30 ⟨g218, rfl, hi, hb, hb2⟩; refine ⟨_, rfl, ?_⟩; have n0_ := Aside0.mk (Kd.R_below (by (with_reducible repeat (first | apply Kd.R_alloc | apply Kd.R_drewN | apply Kd.R_drew)); exact HO213.out) hb2); have n1_ := Aside0.mk (hb); have n2_ := Aside0.mk (hi); clear HO213; clear HB; have HO213 := n0_; have HB := n1_; have HI218 := n2_; clear n0_ n1_ n2_; (try clear hb); (try clear hb2); (try clear hk); (try clear hi)))
       go_loopg [63] k1 (fun kq v63 w' => ∃ (x63_2 : Int) (x219000_2 : ByteArray) (x219001_2 : Int), v63 = .int .i64 x63_2 ∧ Aside0 (tourkeep1_BitsBack.l1 kq tl_ (tl_.length : Int) x63_2 x219000_2 x219001_2 = some r) ∧ Aside0 (kq ≤ k1) ∧ Aside0 (IsS91 w w' g218 x219000_2 x219001_2) ∧ Aside0 (Below w.heap.size w w'))
       case atStart => exact ⟨(0), (t216), (t217), (by first | rfl | (simp; done) | (simp [*]; done)), H', ⟨Nat.le_refl _⟩, ⟨by repeat (first | (with_reducible first | exact HI218.out | apply IsS91.alloc | apply IsS91.drewN | apply IsS91.drew | apply IsS91.set_1) | exact HI218.out)⟩, ⟨by repeat (first | (with_reducible first | exact HB.out | apply below_alloc | apply pw_below_drewN | apply below_drew1 | refine below_set ?_ (IsS91.ge HI218.out)) | exact HB.out)⟩⟩
       case round =>
        clear H'
        try clear c1
        try clear p1
        try clear q1
        try clear hx1
        try clear c2
        try clear p2
        try clear c3
        try clear c4
        try clear c5
        try clear c5b0
        try clear c5b1
        try clear c6
        try clear c6b0
        try clear c6b1
        try clear p6
        try clear c9
        try clear c11
        try clear c11b0
        try clear c12
        try clear c12b0
        try clear c13
        try clear c13b0
        try clear c18
        try clear c18b0
        try clear c18b1
        try clear p19
        try clear q19
        try clear hx19
        try clear c20
        try clear c20b0
        try clear c20b1
        try clear c22
        try clear c22b0
        try clear c22b1
        try clear hx198_0
        try clear p1
        try clear p198
        try clear p2
        try clear q198
        obtain ⟨x63_2, x219000_2, x219001_2, rfl, HA, HK2, HI218, HB⟩ := hrel
        cases gk with
        | zero => exact absurd HA.out (by simp [tourkeep1_BitsBack.l1])
        | succ k2 =>
         have H := HA.out
         clear HA
         simp only [tourkeep1_BitsBack.l1] at H
         by_cases c31 : x63_2 < (tl_.length : Int)
         ·
          rw [if_pos c31] at H
          have c31b0 : decide (x63_2 < (tl_.length : Int)) = true := decide_eq_true c31
          clear c31
          by_cases c32 : 0 ≤ x63_2
          ·
           rw [if_pos c32] at H
           have c32b0 : decide (0 ≤ x63_2) = true := decide_eq_true c32
           clear c32
           by_cases c33 : x63_2 < (tl_.length : Int)
           ·
            rw [if_pos c33] at H
            have c33b0 : decide (x63_2 < (tl_.length : Int)) = true := decide_eq_true c33
            clear c33
            replace H := Option.bind_eq_some_iff.mp H
            obtain ⟨t227, A340, H⟩ := H
            replace H : ((bits_Reader_Get.f x219000_2 x219001_2 t227).bind fun bt228 => ((bits_Reader_Nat.f k2 bt228.2.2.1 bt228.2.2.2).bind fun bt232 => ((bits_Reader_Int.f k2 bt232.2.2.1 bt232.2.2.2).bind fun bt236 => (if bt228.2.1 = 0 then (if bt232.2.1 = 0 then (if bt236.2.1 = 0 then ((tourkeep1_BitsBack_1.f x63_2 (rd tl_ x63_2)).bind fun t240 => ((tourkeep1_BitsBack_2.f (rd tl_ x63_2) t227).bind fun t241 => (if bt228.1 = t241 then (if bt232.1 = (IntKind.u64.wrap (rd tl_ x63_2)) then (if bt236.1 = (rd tl_ x63_2) then (tourkeep1_BitsBack.l1 k2 tl_ (tl_.length : Int) (wrap64 (x63_2 + 1)) bt236.2.2.1 bt236.2.2.2) else (none)) else (none)) else (none)))) else (none)) else (none)) else (none))))) = some r := H
            have A34 := Aside0.mk A340
            clear A340
            replace H := Option.bind_eq_some_iff.mp H
            obtain ⟨⟨t228, t229, t230, t231⟩, A350, H⟩ := H
            replace H : ((bits_Reader_Nat.f k2 t230 t231).bind fun bt232 => ((bits_Reader_Int.f k2 bt232.2.2.1 bt232.2.2.2).bind fun bt236 => (if t229 = 0 then (if bt232.2.1 = 0 then (if bt236.2.1 = 0 then ((tourkeep1_BitsBack_1.f x63_2 (rd tl_ x63_2)).bind fun t240 => ((tourkeep1_BitsBack_2.f (rd tl_ x63_2) t227).bind fun t241 => (if t228 = t241 then (if bt232.1 = (IntKind.u64.wrap (rd tl_ x63_2)) then (if bt236.1 = (rd tl_ x63_2) then (tourkeep1_BitsBack.l1 k2 tl_ (tl_.length : Int) (wrap64 (x63_2 + 1)) bt236.2.2.1 bt236.2.2.2) else (none)) else (none)) else (none)))) else (none)) else (none)) else (none)))) = some r := H
            have A35 := Aside0.mk A350
            clear A350
            replace H := Option.bind_eq_some_iff.mp H
            obtain ⟨⟨t232, t233, t234, t235⟩, A360, H⟩ := H
            replace H : ((bits_Reader_Int.f k2 t234 t235).bind fun bt236 => (if t229 = 0 then (if t233 = 0 then (if bt236.2.1 = 0 then ((tourkeep1_BitsBack_1.f x63_2 (rd tl_ x63_2)).bind fun t240 => ((tourkeep1_BitsBack_2.f (rd tl_ x63_2) t227).bind fun t241 => (if t228 = t241 then (if t232 = (IntKind.u64.wrap (rd tl_ x63_2)) then (if bt236.1 = (rd tl_ x63_2) then (tourkeep1_BitsBack.l1 k2 tl_ (tl_.length : Int) (wrap64 (x63_2 + 1)) bt236.2.2.1 bt236.2.2.2) else (none)) else (none)) else (none)))) else (none)) else (none)) else (none))) = some r := H
            have A36 := Aside0.mk A360
            clear A360
            replace H := Option.bind_eq_some_iff.mp H
            obtain ⟨⟨t236, t237, t238, t239⟩, A370, H⟩ := H
            replace H : (if t229 = 0 then (if t233 = 0 then (if t237 = 0 then ((tourkeep1_BitsBack_1.f x63_2 (rd tl_ x63_2)).bind fun t240 => ((tourkeep1_BitsBack_2.f (rd tl_ x63_2) t227).bind fun t241 => (if t228 = t241 then (if t232 = (IntKind.u64.wrap (rd tl_ x63_2)) then (if t236 = (rd tl_ x63_2) then (tourkeep1_BitsBack.l1 k2 tl_ (tl_.length : Int) (wrap64 (x63_2 + 1)) t238 t239) else (none)) else (none)) else (none)))) else (none)) else (none)) else (none)) = some r := H
            have A37 := Aside0.mk A370
            clear A370
            by_cases c38 : t229 = 0
            ·
             rw [if_pos c38] at H
             have c38b0 : (t229 == 0) = true := beq_iff_eq.mpr c38
             have c38b1 : (t229 != 0) = false := bne_eq_false_iff_eq.mpr c38
             clear c38
             by_cases c39 : t233 = 0
             ·
              rw [if_pos c39] at H
              have c39b0 : (t233 == 0) = true := beq_iff_eq.mpr c39
              have c39b1 : (t233 != 0) = false := bne_eq_false_iff_eq.mpr c39
              clear c39
              by_cases c40 : t237 = 0
              ·
               rw [if_pos c40] at H
               have c40b0 : (t237 == 0) = true := beq_iff_eq.mpr c40
               have c40b1 : (t237 != 0) = false := bne_eq_false_iff_eq.mpr c40
               clear c40
               replace H := Option.bind_eq_some_iff.mp H
               obtain ⟨t240, A410, H⟩ := H
               replace H : ((tourkeep1_BitsBack_2.f (rd tl_ x63_2) t227).bind fun t241 => (if t228 = t241 then (if t232 = (IntKind.u64.wrap (rd tl_ x63_2)) then (if t236 = (rd tl_ x63_2) then (tourkeep1_BitsBack.l1 k2 tl_ (tl_.length : Int) (wrap64 (x63_2 + 1)) t238 t239) else (none)) else (none)) else (none))) = some r := H
               obtain rfl := Option.some.inj ((show Aside0 (tourkeep1_BitsBack_1.f x63_2 (rd tl_ x63_2) = some t227) by assumption).out.symm.trans A410)
               have A41 := Aside0.mk A410
               clear A410
               replace H := Option.bind_eq_some_iff.mp H
               obtain ⟨t241, A420, H⟩ := H
               replace H : (if t228 = t241 then (if t232 = (IntKind.u64.wrap (rd tl_ x63_2)) then (if t236 = (rd tl_ x63_2) then (tourkeep1_BitsBack.l1 k2 tl_ (tl_.length : Int) (wrap64 (x63_2 + 1)) t238 t239) else (none)) else (none)) else (none)) = some r := H
               have A42 := Aside0.mk A420
               clear A420
               by_cases c43 : t228 = t241
               ·
                rw [if_pos c43] at H
                have c43b0 : (t228 == t241) = true := beq_iff_eq.mpr c43
                have c43b1 : (t228 != t241) = false := bne_eq_false_iff_eq.mpr c43
                clear c43
                by_cases c44 : t232 = (IntKind.u64.wrap (rd tl_ x63_2))
                ·
                 rw [if_pos c44] at H
                 have c44b0 : (t232 == (IntKind.u64.wrap (rd tl_ x63_2))) = true := beq_iff_eq.mpr c44
                 have c44b1 : (t232 != (IntKind.u64.wrap (rd tl_ x63_2))) = false := bne_eq_false_iff_eq.mpr c44
                 clear c44
                 by_cases c45 : t236 = (rd tl_ x63_2)
                 ·
                  rw [if_pos c45] at H
                  have c45b0 : (t236 == (rd tl_ x63_2)) = true := beq_iff_eq.mpr c45
                  have c45b1 : (t236 != (rd tl_ x63_2)) = false := bne_eq_false_iff_eq.mpr c45
                  clear c45
                  have H' := Aside0.mk H
                  clear H
                  have p226 : 0 ≤ (x63_2 : Int) := of_decide_eq_true (by first | (with_reducible assumption) | assumption)
                  have q226 : x63_2 < (tl_.length : Int) := of_decide_eq_true (by first | (with_reducible assumption) | assumption)
                  obtain ⟨ad226, e226, hx226_0⟩ := Kd.at_int HR194.out x63_2 p226 q226
                  cases e226
                  replace hx226_0 := (HB.out.cell (World.block_lt_of_cell? w _ hx226_0)).trans hx226_0
                  replace p226 := eq_true p226
                  replace q226 := eq_true q226
                  go_wp2_with (first | (go_at_call 42; (with_reducible refine (tourkeep1_BitsBack_1.calls x63_2 (rd tl_ x63_2) t227 _ A34.out).mono ?_); rintro e w' ⟨rfl, ⟨nd, rfl⟩⟩) | ((with_reducible refine gate_callee (f := 47) rfl ?_); refine goesL_ (some 74) rfl rfl Try.func47 (by kernel_rfl) rfl #[.pointer (some ⟨g218, 0, none⟩), .int .i64 t227] rfl (by (try simp only [List.map_toArray, List.map_cons, List.map_nil]); first | done | rfl | (simp only [List.length_drop, List.length_take]; rfl)) ?_; (with_reducible refine (bits_Reader_Get.calls g218 x219000_2 x219001_2 t227 t228 t229 t230 t231 w _ ?side1 ?side2 A35.out).mono ?_); (case side1 => repeat (first | (with_reducible first | exact HI218.out | apply IsS91.alloc | apply IsS91.drewN | apply IsS91.drew | apply IsS91.set_1) | exact HI218.out)); (case side2 => repeat (first | (with_reducible first | exact HB.out | apply below_alloc | apply pw_below_drewN | apply below_drew1 | refine below_set ?_ (IsS91.ge HI218.out)) | exact HB.out)); rintro e w46 ⟨rfl, hi, hb, hk⟩; refine ⟨_, rfl, ?_⟩; have n0_ := Aside0.mk (hb); have n1_ := Aside0.mk (hi); clear HB; clear HI218; have HB := n0_; have HI218 := n1_; clear n0_ n1_; (try clear hb); (try clear hb2); (try clear hk); (try clear hi)) | ((with_reducible refine gate_callee (f := 48) rfl ?_); refine goesL_ (some 79) rfl rfl Try.func48 (by kernel_rfl) rfl #[.pointer (some ⟨g218, 0, none⟩)] rfl (by (try simp only [List.map_toArray, List.map_cons, List.map_nil]); first | done | rfl | (simp only [List.length_drop, List.length_take]; rfl)) ?_; (with_reducible refine (bits_Reader_Nat.calls k2 g218 t230 t231 t232 t233 t234 t235 w _ ?side1 ?side2 A36.out).mono ?_); (case side1 => repeat (first | (with_reducible first | exact HI218.out | apply IsS91.alloc | apply IsS91.drewN | apply IsS91.drew | apply IsS91.set_1) | exact HI218.out)); (case side2 => repeat (first | (with_reducible first | exact HB.out | apply below_alloc | apply pw_below_drewN | apply below_drew1 | refine below_set ?_ (IsS91.ge HI218.out)) | exact HB.out)); rintro e w47 ⟨rfl, hi, hb, hk⟩; refine ⟨_, rfl, ?_⟩; have n0_ := Aside0.mk (hb); have n1_ := Aside0.mk (hi); clear HB; clear HI218; have HB := n0_; have HI218 := n1_; clear n0_ n1_; (try clear hb); (try clear hb2); (try clear hk); (try clear hi)) | ((with_reducible refine gate_callee (f := 49) rfl ?_); refine goesL_ (some 84) rfl rfl Try.func49 (by kernel_rfl) rfl #[.pointer (some ⟨g218, 0, none⟩)] rfl (by (try simp only [List.map_toArray, List.map_cons, List.map_nil]); first | done | rfl | (simp only [List.length_drop, List.length_take]; rfl)) ?_; (with_reducible refine (bits_Reader_Int.calls k2 g218 t234 t235 t236 t237 t238 t239 w _ ?side1 ?side2 A37.out).mono ?_); (case side1 => repeat (first | (with_reducible first | exact HI218.out | apply IsS91.alloc | apply IsS91.drewN | apply IsS91.drew | apply IsS91.set_1) | exact HI218.out)); (case side2 => repeat (first | (with_reducible first | exact HB.out | apply below_alloc | apply pw_below_drewN | apply below_drew1 | refine below_set ?_ (IsS91.ge HI218.out)) | exact HB.out)); rintro e w48 ⟨rfl, hi, hb, hk⟩; refine ⟨_, rfl, ?_⟩; have n0_ := Aside0.mk (hb); have n1_ := Aside0.mk (hi); clear HB; clear HI218; have HB := n0_; have HI218 := n1_; clear n0_ n1_; (try clear hb); (try clear hb2); (try clear hk); (try clear hi)) | (go_at_call 42; (with_reducible refine (tourkeep1_BitsBack_1.calls x63_2 (rd tl_ x63_2) t227 _ A41.out).mono ?_); rintro e w' ⟨rfl, ⟨nd, rfl⟩⟩) | (go_at_call 43; (with_reducible refine (tourkeep1_BitsBack_2.calls (rd tl_ x63_2) t227 t241 _ A42.out).mono ?_); rintro e w' ⟨rfl, ⟨nd, rfl⟩⟩))
                  go_roundg k2
                  case measure => have := HK1.out; have := HK2.out; omega
                  case rel => exact ⟨(wrap64 (x63_2 + 1)), (t238), (t239), (by first | rfl | (simp; done) | (simp [*]; done)), H', ⟨by have := HK1.out; have := HK2.out; omega⟩, ⟨by repeat (first | (with_reducible first | exact HI218.out | apply IsS91.alloc | apply IsS91.drewN | apply IsS91.drew | apply IsS91.set_1) | exact HI218.out)⟩, ⟨by repeat (first | (with_reducible first | exact HB.out | apply below_alloc | apply pw_below_drewN | apply below_drew1 | refine below_set ?_ (IsS91.ge HI218.out)) | exact HB.out)⟩⟩
                 ·
                  rw [if_neg c45] at H
                  exact absurd H (by simp)
                ·
                 rw [if_neg c44] at H
                 exact absurd H (by simp)
               ·
                rw [if_neg c43] at H
                exact absurd H (by simp)
              ·
               rw [if_neg c40] at H
               exact absurd H (by simp)
             ·
              rw [if_neg c39] at H
              exact absurd H (by simp)
            ·
             rw [if_neg c38] at H
             exact absurd H (by simp)
           ·
            rw [if_neg c33] at H
            exact absurd H (by simp)
          ·
           rw [if_neg c32] at H
           exact absurd H (by simp)
         ·
          rw [if_neg c31] at H
          have c31b0 : decide (x63_2 < (tl_.length : Int)) = false := decide_eq_false c31
          clear c31
          replace H := Option.bind_eq_some_iff.mp H
          obtain ⟨⟨t219, t220, t221⟩, A490, H⟩ := H
          replace H : ((bits_Reader_Get.f t220 t221 (mn (mx t219 0) 7)).bind fun bt222 => (if t219 ≥ 0 then (if t219 ≤ 7 then (if bt222.1 = 0 then (some (bt222.2.1 == 0)) else (none)) else (none)) else (none))) = some r := H
          have A49 := Aside0.mk A490
          clear A490
          obtain ⟨ji50, hji50⟩ : ∃ j_ : Int, (mx t219 0) = j_ := ⟨_, rfl⟩
          replace H : ((bits_Reader_Get.f t220 t221 (mn (ji50) 7)).bind fun bt222 => (if t219 ≥ 0 then (if t219 ≤ 7 then (if bt222.1 = 0 then (some (bt222.2.1 == 0)) else (none)) else (none)) else (none))) = some r := by first | (rw [hji50] at H; exact H) | (simp only [hji50] at H ⊢; exact H)
          (try rw [hji50] at A49)
          (try (have hji50l : 0 ≤ ji50 := by (rw [← hji50]; unfold mx; (repeat' split) <;> omega)))
          (try (have hji50m : 0 ≤ ji50 := by omega))
          have hji50_ : (if t219 < 0 then 0 else t219) = ji50 := hji50
          obtain ⟨ji51, hji51⟩ : ∃ j_ : Int, (mn (ji50) 7) = j_ := ⟨_, rfl⟩
          replace H : ((bits_Reader_Get.f t220 t221 (ji51)).bind fun bt222 => (if t219 ≥ 0 then (if t219 ≤ 7 then (if bt222.1 = 0 then (some (bt222.2.1 == 0)) else (none)) else (none)) else (none))) = some r := by first | (rw [hji51] at H; exact H) | (simp only [hji51] at H ⊢; exact H)
          (try rw [hji51] at A49)
          have hji51_ : (if 7 < (ji50) then 7 else (ji50)) = ji51 := hji51
          replace H := Option.bind_eq_some_iff.mp H
          obtain ⟨⟨t222, t223, t224, t225⟩, A520, H⟩ := H
          replace H : (if t219 ≥ 0 then (if t219 ≤ 7 then (if t222 = 0 then (some (t223 == 0)) else (none)) else (none)) else (none)) = some r := H
          have A52 := Aside0.mk A520
          clear A520
          by_cases c53 : t219 ≥ 0
          ·
           rw [if_pos c53] at H
           have c53b0 : decide (0 ≤ t219) = true := decide_eq_true c53
           clear c53
           by_cases c54 : t219 ≤ 7
           ·
            rw [if_pos c54] at H
            have c54b0 : decide (t219 ≤ 7) = true := decide_eq_true c54
            clear c54
            by_cases c55 : t222 = 0
            ·
             rw [if_pos c55] at H
             have c55b0 : (t222 == 0) = true := beq_iff_eq.mpr c55
             have c55b1 : (t222 != 0) = false := bne_eq_false_iff_eq.mpr c55
             clear c55
             obtain rfl := Option.some.inj H
             go_wp2_with (first | ((with_reducible refine gate_callee (f := 50) rfl ?_); refine goesL_ (some 121) rfl rfl Try.func50 (by kernel_rfl) rfl #[.pointer (some ⟨g218, 0, none⟩)] rfl (by (try simp only [List.map_toArray, List.map_cons, List.map_nil]); first | done | rfl | (simp only [List.length_drop, List.length_take]; rfl)) ?_; (with_reducible refine (bits_Reader_Left.calls g218 x219000_2 x219001_2 t219 t220 t221 w _ ?side1 ?side2 A49.out).mono ?_); (case side1 => repeat (first | (with_reducible first | exact HI218.out | apply IsS91.alloc | apply IsS91.drewN | apply IsS91.drew | apply IsS91.set_1) | exact HI218.out)); (case side2 => repeat (first | (with_reducible first | exact HB.out | apply below_alloc | apply pw_below_drewN | apply below_drew1 | refine below_set ?_ (IsS91.ge HI218.out)) | exact HB.out)); rintro e w56 ⟨rfl, hi, hb, hk⟩; refine ⟨_, rfl, ?_⟩; have n0_ := Aside0.mk (hb); have n1_ := Aside0.mk (hi); clear HB; clear HI218; have HB := n0_; have HI218 := n1_; clear n0_ n1_; (try clear hb); (try clear hb2); (try clear hk); (try clear hi)) | ((with_reducible refine gate_callee (f := 47) rfl ?_); refine goesL_ (some 127) rfl rfl Try.func47 (by kernel_rfl) rfl #[.pointer (some ⟨g218, 0, none⟩), .int .i64 ji51] rfl (by (try simp only [List.map_toArray, List.map_cons, List.map_nil]); first | done | (simp only [hji51]; rfl) | rfl | (simp only [List.length_drop, List.length_take]; rfl)) ?_; (with_reducible refine (bits_Reader_Get.calls g218 t220 t221 ji51 t222 t223 t224 t225 w _ ?side1 ?side2 A52.out).mono ?_); (case side1 => repeat (first | (with_reducible first | exact HI218.out | apply IsS91.alloc | apply IsS91.drewN | apply IsS91.drew | apply IsS91.set_1) | exact HI218.out)); (case side2 => repeat (first | (with_reducible first | exact HB.out | apply below_alloc | apply pw_below_drewN | apply below_drew1 | refine below_set ?_ (IsS91.ge HI218.out)) | exact HB.out)); rintro e w57 ⟨rfl, hi, hb, hk⟩; refine ⟨_, rfl, ?_⟩; have n0_ := Aside0.mk (hb); have n1_ := Aside0.mk (hi); clear HB; clear HI218; have HB := n0_; have HI218 := n1_; clear n0_ n1_; (try clear hb); (try clear hb2); (try clear hk); (try clear hi)))
             go_ret
             exact ⟨by first | rfl | (simp [errW_none, errW_some] <;> rfl) | (simp only [← hji4, ← hji50, ← hji51]; first | rfl | (simp [errW_none, errW_some] <;> rfl)) | (simp [*, errW_none, errW_some] <;> rfl), by repeat (first | (with_reducible first | exact HB.out | apply below_alloc | apply pw_below_drewN | apply below_drew1 | refine below_set ?_ (IsS91.ge HI218.out)) | exact HB.out)⟩
            ·
             rw [if_neg c55] at H
             exact absurd H (by simp)
           ·
            rw [if_neg c54] at H
            exact absurd H (by simp)
          ·
           rw [if_neg c53] at H
           exact absurd H (by simp)
   ·
    rw [if_neg c6] at H
    exact absurd H (by simp)
  ·
   rw [if_neg c5] at H
   exact absurd H (by simp)
 ·
  replace c3 := Bool.eq_false_iff.mpr c3
  subst c3
  have H1 : (none) = some r := by rw [if_neg (show ¬ (false = true) by decide)] at H; exact H
  clear H
  have H := H1
  clear H1
  exact absurd H (by simp)

/-- THE ONE PURE STATEMENT of tourkeep1_BitsBack: yours. -/
def tourkeep1_BitsBack.Pure : Prop := ∀ (l0 : List Int), l0.length ≤ maxLen → l0.length * 8 ≤ 140737488351232 → (∀ x ∈ l0, (Lit.int .i64 x).wf = true) → ∃ k, tourkeep1_BitsBack.f k l0 = some true
theorem tourkeep1_BitsBack.walk (P : tourkeep1_BitsBack.Pure) (a0 : Option Addr) (len0 cap0 : Nat) (z0 : List Int) (w : World) (w0 : (a0 = none ∧ len0 = 0 ∧ cap0 = 0 ∧ z0 = []) ∨ ∃ x, a0 = some x ∧ len0 ≤ cap0 ∧ cap0 ≤ maxLen ∧ z0.length = cap0 ∧ (∀ i, i < z0.length → w.cell? (x.add i) = some (.int .i64 (z0.getD i 0))) ∧ ∀ n ∈ z0, (Lit.int .i64 n).wf = true) (y0 : len0 * 8 ≤ 140737488351232) :
  Calls Try.prog 9 #[.slice a0 len0 cap0] w fun e w' => e = .returned (.bool true) ∧ Below w.heap.size w w' := by
 obtain ⟨l0, rfl, hr0, hm0, hw0, hc0⟩ := ReadsInt.ofRowC w0
 obtain ⟨k, h⟩ := P l0 hm0 y0 hw0
 refine (tourkeep1_BitsBack.calls k _ _ l0 true w (Kd.C_of_reads (d := (0 : Int)) (h1 := fun _ => rfl) hr0) hc0 h).mono ?_
 rintro e w' ⟨rfl, hd⟩
 exact ⟨rfl, hd⟩

end Go.Proofs.Ytggfiacnkbcjbaa.P
