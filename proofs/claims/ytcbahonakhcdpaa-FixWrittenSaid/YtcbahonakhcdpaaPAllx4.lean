/- Functions of this seat in plain Lean and their contracts, written by a turned copy of the kit's print (turns: wip/pr/make.py of this session). No condition. Short rows. -/
import Derived.Test.YtcbahonakhcdpaaQZ
import Derived.Test.YtcbahonakhcdpaaPAllx0
import Derived.Test.YtcbahonakhcdpaaPAllx3
namespace Go.Proofs.Ytcbahonakhcdpaa.P
open Go.RowKit Go.Proofs.YtcbahonakhcdpaaW.PrintWords Go.Proofs.YtcbahonakhcdpaaW.PrintLast Go.Proofs.YtcbahonakhcdpaaW.PrintMore
attribute [local go_sem] max2_int min2_int max_two min_two max_three min_three max_four min_four   -- for this text's walks alone
set_option linter.unusedVariables false
set_option linter.unusedSimpArgs false

/-! ### fix_fraction: function 44 -/
mutual
def fix_fraction.l0 : Nat → List Int → Int → Int → Option (Int × Bool)
 | 0, _, _, _ => none
 | k + 1, x4, x12, x13 => if x13 < x12 then (if 0 ≤ x13 then (if x13 < (x4.length : Int) then (fix_fraction.l0 k (x4.set (x13 : Int).toNat (((rd x4 x13) - 48) % 256)) x12 (wrap64 (x13 + 1))) else (none)) else (none)) else (fix_fraction.l1 k x4 0 0)
def fix_fraction.l1 : Nat → List Int → Int → Int → Option (Int × Bool)
 | 0, _, _, _ => none
 | k + 1, x4, x6, x23 => if x23 < 16 then ((fix_double.f k x4).bind fun bt134 => (fix_fraction.l1 k bt134.2 (Go.bits .or .i64 (wrap64 (x6 * 2)) bt134.1) (wrap64 (x23 + 1)))) else (fix_fraction.l2 k x4 x6 (x4.length : Int) 0)
def fix_fraction.l2 : Nat → List Int → Int → Int → Int → Option (Int × Bool)
 | 0, _, _, _, _ => none
 | k + 1, x4, x6, x32, x33 => if x33 < x32 then (if 0 ≤ x33 then (if x33 < (x4.length : Int) then (if (rd x4 x33) = 0 then (fix_fraction.l2 k x4 x6 x32 (wrap64 (x33 + 1))) else (some (0, false))) else (none)) else (none)) else (some (x6, true))
end
def fix_fraction.f (k : Nat) (a0 : ByteArray) : Option (Int × Bool) := if a0.size < 140737488355328 then ((some (bytesOf a0 : List Int)).bind fun y129 => (fix_fraction.l0 k y129 (y129.length : Int) 0)) else (none)
theorem fix_fraction.mono_l : ∀ k, (∀ y0 y1 y2, LeO (fix_fraction.l0 k y0 y1 y2) (fix_fraction.l0 (k + 1) y0 y1 y2)) ∧ (∀ y0 y1 y2, LeO (fix_fraction.l1 k y0 y1 y2) (fix_fraction.l1 (k + 1) y0 y1 y2)) ∧ (∀ y0 y1 y2 y3, LeO (fix_fraction.l2 k y0 y1 y2 y3) (fix_fraction.l2 (k + 1) y0 y1 y2 y3))
 | 0 => ⟨fun _ _ _ r h => by simp [fix_fraction.l0] at h, fun _ _ _ r h => by simp [fix_fraction.l1] at h, fun _ _ _ _ r h => by simp [fix_fraction.l2] at h⟩
 | k + 1 => by
  obtain ⟨ih0, ih1, ih2⟩ := fix_fraction.mono_l k
  refine ⟨?_, ?_, ?_⟩
  ·
   intro y0 y1 y2
   unfold fix_fraction.l0
   repeat' first
   | (with_reducible exact ih0 _ _ _)
   | (with_reducible exact ih1 _ _ _)
   | (with_reducible exact ih2 _ _ _ _)
   | (with_reducible exact fix_double.mono _ _)
   | (with_reducible exact LeO.refl _)
   | (with_reducible exact LeO.none _)
   | (with_reducible refine LeO.ite ?_ ?_)
   | (with_reducible refine LeO.bind ?_ (fun _ => ?_))
   | exact ih0 _ _ _
   | exact ih1 _ _ _
   | exact ih2 _ _ _ _
   | exact fix_double.mono _ _
   | exact LeO.none _
   | refine LeO.ite ?_ ?_
   | refine LeO.bind ?_ (fun _ => ?_)
  ·
   intro y0 y1 y2
   unfold fix_fraction.l1
   repeat' first
   | (with_reducible exact ih0 _ _ _)
   | (with_reducible exact ih1 _ _ _)
   | (with_reducible exact ih2 _ _ _ _)
   | (with_reducible exact fix_double.mono _ _)
   | (with_reducible exact LeO.refl _)
   | (with_reducible exact LeO.none _)
   | (with_reducible refine LeO.ite ?_ ?_)
   | (with_reducible refine LeO.bind ?_ (fun _ => ?_))
   | exact ih0 _ _ _
   | exact ih1 _ _ _
   | exact ih2 _ _ _ _
   | exact fix_double.mono _ _
   | exact LeO.none _
   | refine LeO.ite ?_ ?_
   | refine LeO.bind ?_ (fun _ => ?_)
  ·
   intro y0 y1 y2 y3
   unfold fix_fraction.l2
   repeat' first
   | (with_reducible exact ih0 _ _ _)
   | (with_reducible exact ih1 _ _ _)
   | (with_reducible exact ih2 _ _ _ _)
   | (with_reducible exact fix_double.mono _ _)
   | (with_reducible exact LeO.refl _)
   | (with_reducible exact LeO.none _)
   | (with_reducible refine LeO.ite ?_ ?_)
   | (with_reducible refine LeO.bind ?_ (fun _ => ?_))
   | exact ih0 _ _ _
   | exact ih1 _ _ _
   | exact ih2 _ _ _ _
   | exact fix_double.mono _ _
   | exact LeO.none _
   | refine LeO.ite ?_ ?_
   | refine LeO.bind ?_ (fun _ => ?_)
theorem fix_fraction.mono : ∀ a0 k, LeO (fix_fraction.f k a0) (fix_fraction.f (k + 1) a0) := by
 intro a0 k
 obtain ⟨ih0, ih1, ih2⟩ := fix_fraction.mono_l k
 unfold fix_fraction.f
 repeat' first
   | (with_reducible exact ih0 _ _ _)
   | (with_reducible exact ih1 _ _ _)
   | (with_reducible exact ih2 _ _ _ _)
   | (with_reducible exact fix_double.mono _ _)
   | (with_reducible exact LeO.refl _)
   | (with_reducible exact LeO.none _)
   | (with_reducible refine LeO.ite ?_ ?_)
   | (with_reducible refine LeO.bind ?_ (fun _ => ?_))
   | exact ih0 _ _ _
   | exact ih1 _ _ _
   | exact ih2 _ _ _ _
   | exact fix_double.mono _ _
   | exact LeO.none _
   | refine LeO.ite ?_ ?_
   | refine LeO.bind ?_ (fun _ => ?_)
set_option maxHeartbeats 8000000 in
set_option maxRecDepth 100000 in
theorem fix_fraction.calls (k : Nat) (a0 : ByteArray) (r1 : Int) (r2 : Bool) (w : World) (h : fix_fraction.f k a0 = some (r1, r2)) :
  Calls Try.prog 44 #[.string a0] w fun e w' => e = .returned (.tuple #[.int .i64 r1, .bool r2]) ∧ Below w.heap.size w w' := by
 have HB := Aside0.mk (Below.refl w.heap.size w)
 have H : (if a0.size < 140737488355328 then ((some (bytesOf a0 : List Int)).bind fun y129 => (fix_fraction.l0 k y129 (y129.length : Int) 0)) else (none)) = some (r1, r2) := h
 clear h
 by_cases c2 : a0.size < 140737488355328
 ·
  rw [if_pos c2] at H
  have LMc2 := Aside0.mk c2
  clear c2
  obtain ⟨y129, hy129⟩ : ∃ y_ : List Int, y_ = (bytesOf a0) := ⟨_, rfl⟩
  replace H : (fix_fraction.l0 k y129 (y129.length : Int) 0) = some (r1, r2) := by first | (rw [hy129]; with_reducible exact H) | (have H2_ := (Option.bind_some _ _).symm.trans H; rw [hy129]; with_reducible exact H2_) | (have H2_ := (Option.bind_some _ _).symm.trans H; with_reducible exact H2_) | with_reducible exact H | (rw [hy129]; exact H) | exact H
  have Ny129 := Aside0.mk hy129
  clear hy129
  have H' := Aside0.mk H
  clear H
  go_enter Try.func44, Try.ntmps44
  go_wp2_with (first | ((with_reducible refine gate_conv (src := 9) (dst := 45) rfl ?_); refine conv_event (w0 := w) w.heap.size rfl _ 9 45 5 rfl Try.underlying9 Try.underlying45 Try.underlying5 a0 rfl ?aB ?aS ?aL ?_; (case aB => exact (by repeat (first | (with_reducible first | exact HB.out | apply below_alloc | apply pw_below_drewN | apply below_drew1) | exact HB.out))); (case aS => exact (below_size (by repeat (first | (with_reducible first | exact HB.out | apply below_alloc | apply pw_below_drewN | apply below_drew1) | exact HB.out)))); (case aL => have := LMc2.out; omega); intro v130 w3 ho hb; rw [← Ny129.out] at ho; have n0_ := Aside0.mk (hb); have n1_ := Aside0.mk (ho); clear HB; have HB := n0_; have HO131 := n1_; clear n0_ n1_; clear ho hb; obtain ⟨Ao4, co4, eo4⟩ := Zr_slice HO131.out; subst eo4))
  go_loopg [13] k (fun kq v13 w' => ∃ (x4_1 : List Int) (x13_1 : Int), v13 = .int .i64 x13_1 ∧ Aside0 (fix_fraction.l0 kq x4_1 (y129.length : Int) x13_1 = some (r1, r2)) ∧ Aside0 (kq ≤ k) ∧ Aside0 (Zr 5 w' w.heap.size (fun _ => True) (.slice Ao4 y129.length co4) x4_1) ∧ Aside0 (Below w.heap.size w w'))
  case atStart => exact ⟨(y129), (0), (by first | rfl | (simp; done) | (simp [*]; done)), H', ⟨Nat.le_refl _⟩, ⟨by (with_reducible repeat (first | apply Zr_alloc | apply Zr_drewN | apply Zr_drew)); exact HO131.out⟩, ⟨by repeat (first | (with_reducible first | exact HB.out | apply below_alloc | apply pw_below_drewN | apply below_drew1) | exact HB.out)⟩⟩
  case round =>
   clear H'
   try clear c2
   try clear p2
   try clear c4
   obtain ⟨x4_1, x13_1, rfl, HA, HK1, HO_4, HB⟩ := hrel
   have hl4_1 := (Zr_reads' HO_4.out).1
   rw [hl4_1] at HO_4
   (try simp only [hl4_1])
   cases gk with
   | zero => exact absurd HA.out (by simp [fix_fraction.l0])
   | succ k1 =>
    have H := HA.out
    clear HA
    simp only [fix_fraction.l0] at H
    by_cases c5 : x13_1 < (y129.length : Int)
    ·
     rw [if_pos c5] at H
     have c5b0 : decide (x13_1 < (y129.length : Int)) = true := decide_eq_true c5
     clear c5
     have c5b0x := c5b0
     (try simp only [hl4_1] at c5b0x)
     by_cases c6 : 0 ≤ x13_1
     ·
      rw [if_pos c6] at H
      have c6b0 : decide (0 ≤ x13_1) = true := decide_eq_true c6
      clear c6
      by_cases c7 : x13_1 < (x4_1.length : Int)
      ·
       rw [if_pos c7] at H
       have c7b0 : decide (x13_1 < (x4_1.length : Int)) = true := decide_eq_true c7
       clear c7
       have c7b0x := c7b0
       (try simp only [hl4_1] at c7b0x)
       obtain ⟨y133, hy133⟩ : ∃ y_ : List Int, y_ = (x4_1.set (x13_1 : Int).toNat (((rd x4_1 x13_1) - 48) % 256)) := ⟨_, rfl⟩
       replace H : (fix_fraction.l0 k1 y133 (y129.length : Int) (wrap64 (x13_1 + 1))) = some (r1, r2) := by first | (rw [hy133]; with_reducible exact H) | (have H2_ := (Option.bind_some _ _).symm.trans H; rw [hy133]; with_reducible exact H2_) | (have H2_ := (Option.bind_some _ _).symm.trans H; with_reducible exact H2_) | with_reducible exact H | (rw [hy133]; exact H) | exact H
       have Ny133 := Aside0.mk hy133
       clear hy133
       have H' := Aside0.mk H
       clear H
       have p132 : 0 ≤ (x13_1 : Int) := of_decide_eq_true (by first | (with_reducible assumption) | assumption)
       have q132 : x13_1 < (x4_1.length : Int) := of_decide_eq_true (by first | (with_reducible assumption) | assumption)
       obtain ⟨ad132, e132, hx132_0⟩ := Kd.at_int (Zr_reads' HO_4.out).2.2 x13_1 p132 q132
       cases e132
       replace p132 := eq_true p132
       replace q132 := eq_true q132
       have p8 : 0 ≤ (x13_1 : Int) := of_decide_eq_true (by first | (with_reducible assumption) | assumption)
       have q8 : (x13_1 : Int) < ((x4_1.length : Int) : Int) := of_decide_eq_true (by first | (with_reducible assumption) | assumption)
       obtain ⟨go8, co8, eo8, gb8, gl8, cl8, HG8⟩ := Zr_form HO_4.out (by omega)
       (first | cases eo8 | (injection eo8 with ea_ en_ ec_; (first | subst ea_ | (injection ea_ with ea_; subst ea_)); subst ec_; clear en_))
       have GB8 := Aside0.mk gb8
       have GG8 := Aside0.mk HG8
       clear gb8 gl8 HG8
       (first | simp only [add_plain] at hx132_0 | skip)
       obtain ⟨hx8_0, hf8_0⟩ := Zr_celln 0 HO_4.out (x13_1 : Int) p8 q8
       replace p8 := eq_true p8
       replace q8 := eq_true q8
       have HP9 := Zr_putg HO_4.out (x13_1 : Int) (((rd x4_1 x13_1) - 48) % 256)
       go_wp2_with (first | ((with_reducible refine gate_store (t := 5) (p := 21) rfl ?_); refine store_event (t := 5) (p := 21) (v := ?vo_w10) (w1 := (wr.setCell ⟨go8, (x13_1 : Int).toNat, none⟩ (.int .u8 (((rd x4_1 x13_1) - 48) % 256)))) ?hg ?ho ?hn ?hr ?_; (case ho => rfl); (case hg => rfl); (case hn => rfl); (case hr => first | (go_simp; done) | (go_simp; rfl)); intro w10 hw; have hg : wr.grownBy w10 (some go8) := (by rw [hw]; exact HP9.2); have hp_ : Zr 5 w10 w.heap.size (fun _ => True) (.slice (some ⟨go8, 0, none⟩) x4_1.length co4) y133 := (by rw [hw, Ny133.out]; exact HP9.1); clear HP9; have n0_ := Aside0.mk (hp_); have n1_ := Aside0.mk ((by rw [hw]; exact below_set (HB.out) GB8.out : Below w.heap.size w w10)); clear HO_4; clear HB; have HO_4 := n0_; have HB := n1_; clear n0_ n1_; clear hg hw hp_))
       (try simp only [← hl4_1])
       go_roundg k1
       case measure => have := HK1.out; omega
       case rel => exact ⟨(y133), (wrap64 (x13_1 + 1)), (by first | rfl | (simp; done) | (simp [*]; done)), H', ⟨by have := HK1.out; omega⟩, ⟨by (try simp only [hl4_1]); (with_reducible repeat (first | apply Zr_alloc | apply Zr_drewN | apply Zr_drew)); exact HO_4.out⟩, ⟨by repeat (first | (with_reducible first | exact HB.out | apply below_alloc | apply pw_below_drewN | apply below_drew1) | exact HB.out)⟩⟩
      ·
       rw [if_neg c7] at H
       exact absurd H (by simp)
     ·
      rw [if_neg c6] at H
      exact absurd H (by simp)
    ·
     rw [if_neg c5] at H
     have c5b0 : decide (x13_1 < (y129.length : Int)) = false := decide_eq_false c5
     clear c5
     have c5b0x := c5b0
     (try simp only [hl4_1] at c5b0x)
     have H' := Aside0.mk H
     clear H
     go_wp2
     go_loopg [6, 23] k1 (fun kq v6 v23 w' => ∃ (x4_2 : List Int) (x6_2 : Int) (x23_2 : Int), v6 = .int .i64 x6_2 ∧ v23 = .int .i64 x23_2 ∧ Aside0 (fix_fraction.l1 kq x4_2 x6_2 x23_2 = some (r1, r2)) ∧ Aside0 (kq ≤ k1) ∧ Aside0 (Zr 5 w' w.heap.size (fun _ => True) (.slice Ao4 x4_1.length co4) x4_2) ∧ Aside0 (Below w.heap.size w w'))
     case atStart => exact ⟨(x4_1), (0), (0), (by first | rfl | (simp; done) | (simp [*]; done)), (by first | rfl | (simp; done) | (simp [*]; done)), H', ⟨Nat.le_refl _⟩, ⟨by (try simp only [hl4_1]); (with_reducible repeat (first | apply Zr_alloc | apply Zr_drewN | apply Zr_drew)); exact HO_4.out⟩, ⟨by repeat (first | (with_reducible first | exact HB.out | apply below_alloc | apply pw_below_drewN | apply below_drew1) | exact HB.out)⟩⟩
     case round =>
      clear H'
      try clear p1
      try clear q1
      try clear hx1
      try clear c2
      try clear p2
      try clear c4
      try clear c5
      try clear c5b0
      try clear c6
      try clear c6b0
      try clear p6
      try clear c7
      try clear c7b0
      try clear p8
      try clear q8
      try clear hx8
      try clear hf8
      try clear hx132_0
      try clear hx8_0
      try clear p132
      try clear p2
      try clear p8
      try clear q132
      try clear q8
      obtain ⟨x4_2, x6_2, x23_2, rfl, rfl, HA, HK2, HO_4, HB⟩ := hrel
      have hl4_2 := (Zr_reads' HO_4.out).1
      rw [hl4_2] at HO_4
      (try simp only [hl4_2])
      cases gk with
      | zero => exact absurd HA.out (by simp [fix_fraction.l1])
      | succ k2 =>
       have H := HA.out
       clear HA
       simp only [fix_fraction.l1] at H
       by_cases c11 : x23_2 < 16
       ·
        rw [if_pos c11] at H
        have c11b0 : decide (x23_2 < 16) = true := decide_eq_true c11
        clear c11
        replace H := Option.bind_eq_some_iff.mp H
        obtain ⟨⟨t134, t135⟩, A120, H⟩ := H
        replace H : (fix_fraction.l1 k2 t135 (Go.bits .or .i64 (wrap64 (x6_2 * 2)) t134) (wrap64 (x23_2 + 1))) = some (r1, r2) := H
        have A12 := Aside0.mk A120
        clear A120
        have H' := Aside0.mk H
        clear H
        go_wp2_with (first | ((with_reducible refine gate_callee (f := 51) rfl ?_); refine goesL_ (some 28) rfl rfl Try.func51 (by kernel_rfl) rfl #[.slice Ao4 x4_2.length co4] rfl (by (try simp only [List.map_toArray, List.map_cons, List.map_nil]); first | done | rfl | (simp only [List.length_drop, List.length_take]; rfl)) ?_; (with_reducible refine (fix_double.calls k2 (fun k_ => some k_ = (.slice Ao4 x4_2.length co4 : Value).ownBlock) (.slice Ao4 x4_2.length co4) x4_2 t134 t135 w _ ?side1 ?side2 A12.out).mono ?_); (case side1 => repeat (first | (with_reducible first | exact HB.out | apply below_alloc | apply pw_below_drewN | apply below_drew1) | exact HB.out)); (case side2 => exact Zr_tight rfl HO_4.out); rintro e w13 ⟨rfl, hy0, hb, hkp⟩; refine ⟨_, rfl, ?_⟩; have n0_ := Aside0.mk (Zr_reok rfl hy0 (fun k_ e_ => HO_4.out.1 k_ e_)); have n1_ := Aside0.mk (hb); clear HO_4; clear HB; have HO_4 := n0_; have HB := n1_; clear n0_ n1_; (try clear hb); (try clear hkp); (try clear hy0)))
        (try simp only [← hl4_2])
        go_roundg k2
        case measure => have := HK1.out; have := HK2.out; omega
        case rel => exact ⟨(t135), (Go.bits .or .i64 (wrap64 (x6_2 * 2)) t134), (wrap64 (x23_2 + 1)), (by first | rfl | (simp; done) | (simp [*]; done)), (by first | rfl | (simp; done) | (simp [*]; done)), H', ⟨by have := HK1.out; have := HK2.out; omega⟩, ⟨by (try simp only [hl4_1]); (try simp only [hl4_2]); (with_reducible repeat (first | apply Zr_alloc | apply Zr_drewN | apply Zr_drew)); exact HO_4.out⟩, ⟨by repeat (first | (with_reducible first | exact HB.out | apply below_alloc | apply pw_below_drewN | apply below_drew1) | exact HB.out)⟩⟩
       ·
        rw [if_neg c11] at H
        have c11b0 : decide (x23_2 < 16) = false := decide_eq_false c11
        clear c11
        have H' := Aside0.mk H
        clear H
        go_wp2
        go_loopg [33] k2 (fun kq v33 w' => ∃ (x33_3 : Int), v33 = .int .i64 x33_3 ∧ Aside0 (fix_fraction.l2 kq x4_2 x6_2 (x4_2.length : Int) x33_3 = some (r1, r2)) ∧ Aside0 (kq ≤ k2) ∧ Aside0 (Zr 5 w' w.heap.size (fun _ => True) (.slice Ao4 x4_2.length co4) x4_2) ∧ Aside0 (Below w.heap.size w w'))
        case atStart => exact ⟨(0), (by first | rfl | (simp; done) | (simp [*]; done)), H', ⟨Nat.le_refl _⟩, ⟨by (try simp only [hl4_1]); (try simp only [hl4_2]); (with_reducible repeat (first | apply Zr_alloc | apply Zr_drewN | apply Zr_drew)); exact HO_4.out⟩, ⟨by repeat (first | (with_reducible first | exact HB.out | apply below_alloc | apply pw_below_drewN | apply below_drew1) | exact HB.out)⟩⟩
        case round =>
         clear H'
         try clear c1
         try clear p1
         try clear q1
         try clear hx1
         try clear c2
         try clear p2
         try clear c4
         try clear c5
         try clear c5b0
         try clear c6
         try clear c6b0
         try clear p6
         try clear c7
         try clear c7b0
         try clear p8
         try clear q8
         try clear hx8
         try clear hf8
         try clear c11
         try clear c11b0
         try clear p13
         try clear q13
         try clear hx13
         try clear hx132_0
         try clear hx8_0
         try clear p1
         try clear p132
         try clear p2
         try clear p6
         try clear p8
         try clear q1
         try clear q132
         try clear q8
         obtain ⟨x33_3, rfl, HA, HK3, HO_4, HB⟩ := hrel
         cases gk with
         | zero => exact absurd HA.out (by simp [fix_fraction.l2])
         | succ k3 =>
          have H := HA.out
          clear HA
          simp only [fix_fraction.l2] at H
          by_cases c14 : x33_3 < (x4_2.length : Int)
          ·
           rw [if_pos c14] at H
           have c14b0 : decide (x33_3 < (x4_2.length : Int)) = true := decide_eq_true c14
           clear c14
           have c14b0x := c14b0
           (try simp only [hl4_1, hl4_2] at c14b0x)
           by_cases c15 : 0 ≤ x33_3
           ·
            rw [if_pos c15] at H
            have c15b0 : decide (0 ≤ x33_3) = true := decide_eq_true c15
            clear c15
            by_cases c16 : x33_3 < (x4_2.length : Int)
            ·
             rw [if_pos c16] at H
             have c16b0 : decide (x33_3 < (x4_2.length : Int)) = true := decide_eq_true c16
             clear c16
             have c16b0x := c16b0
             (try simp only [hl4_1, hl4_2] at c16b0x)
             by_cases c17 : (rd x4_2 x33_3) = 0
             ·
              rw [if_pos c17] at H
              have c17b0 : ((rd x4_2 x33_3) == 0) = true := beq_iff_eq.mpr c17
              have c17b1 : ((rd x4_2 x33_3) != 0) = false := bne_eq_false_iff_eq.mpr c17
              clear c17
              have H' := Aside0.mk H
              clear H
              have p136 : 0 ≤ (x33_3 : Int) := of_decide_eq_true (by first | (with_reducible assumption) | assumption)
              have q136 : x33_3 < (x4_2.length : Int) := of_decide_eq_true (by first | (with_reducible assumption) | assumption)
              obtain ⟨ad136, e136, hx136_0⟩ := Kd.at_int (Zr_reads' HO_4.out).2.2 x33_3 p136 q136
              cases e136
              replace p136 := eq_true p136
              replace q136 := eq_true q136
              go_wp2
              go_roundg k3
              case measure => have := HK1.out; have := HK2.out; have := HK3.out; omega
              case rel => exact ⟨(wrap64 (x33_3 + 1)), (by first | rfl | (simp; done) | (simp [*]; done)), H', ⟨by have := HK1.out; have := HK2.out; have := HK3.out; omega⟩, ⟨by (try simp only [hl4_1]); (try simp only [hl4_2]); (with_reducible repeat (first | apply Zr_alloc | apply Zr_drewN | apply Zr_drew)); exact HO_4.out⟩, ⟨by repeat (first | (with_reducible first | exact HB.out | apply below_alloc | apply pw_below_drewN | apply below_drew1) | exact HB.out)⟩⟩
             ·
              rw [if_neg c17] at H
              have c17b0 : ((rd x4_2 x33_3) == 0) = false := beq_eq_false_iff_ne.mpr c17
              have c17b1 : ((rd x4_2 x33_3) != 0) = true := bne_iff_ne.mpr c17
              simp only [Option.some.injEq, Prod.mk.injEq] at H
              obtain ⟨rfl, rfl⟩ := H
              have p136 : 0 ≤ (x33_3 : Int) := of_decide_eq_true (by first | (with_reducible assumption) | assumption)
              have q136 : x33_3 < (x4_2.length : Int) := of_decide_eq_true (by first | (with_reducible assumption) | assumption)
              obtain ⟨ad136, e136, hx136_0⟩ := Kd.at_int (Zr_reads' HO_4.out).2.2 x33_3 p136 q136
              cases e136
              replace p136 := eq_true p136
              replace q136 := eq_true q136
              go_wp2
              go_ret2
              exact ⟨by first | rfl | (simp [errW_none, errW_some] <;> rfl) | (simp [*, errW_none, errW_some] <;> rfl), by repeat (first | (with_reducible first | exact HB.out | apply below_alloc | apply pw_below_drewN | apply below_drew1) | exact HB.out)⟩
            ·
             rw [if_neg c16] at H
             exact absurd H (by simp)
           ·
            rw [if_neg c15] at H
            exact absurd H (by simp)
          ·
           rw [if_neg c14] at H
           have c14b0 : decide (x33_3 < (x4_2.length : Int)) = false := decide_eq_false c14
           clear c14
           have c14b0x := c14b0
           (try simp only [hl4_1, hl4_2] at c14b0x)
           simp only [Option.some.injEq, Prod.mk.injEq] at H
           obtain ⟨rfl, rfl⟩ := H
           go_wp2
           go_ret2
           exact ⟨by first | rfl | (simp [errW_none, errW_some] <;> rfl) | (simp [*, errW_none, errW_some] <;> rfl), by repeat (first | (with_reducible first | exact HB.out | apply below_alloc | apply pw_below_drewN | apply below_drew1) | exact HB.out)⟩
 ·
  rw [if_neg c2] at H
  exact absurd H (by simp)

end Go.Proofs.Ytcbahonakhcdpaa.P
