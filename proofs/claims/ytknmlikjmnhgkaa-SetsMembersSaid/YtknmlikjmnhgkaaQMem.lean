/- SetsMembers: the walk. No condition. -/
import Derived.Deep.RegionHeld3
import Derived.Test.YtknmlikjmnhgkaaPAllx3
import Derived.Test.YtknmlikjmnhgkaaQElems
namespace Go.Proofs.Ytknmlikjmnhgkaa.P
open Go.RowKit Go.Shelf Go.Proofs.YtknmlikjmnhgkaaW.PrintWords Go.Proofs.YtknmlikjmnhgkaaW.PrintLast Go.Proofs.YtknmlikjmnhgkaaW.PrintMore Go.Proofs.Ytknmlikjmnhgkaa.Pure
attribute [local go_sem] Oper.semAt_some
set_option linter.unusedVariables false
set_option linter.unusedSimpArgs false

theorem box_below {W W' : World} {B : Nat} {t : TypeId} {v : Value} (h : Boxed W B t v) (hb : Below W.heap.size W W') : Boxed W' B t v := (hb.block _ h.lt).trans h
theorem box_alloc (W : World) (t : TypeId) (z v : Value) : (W.alloc (.cells #[z] t)).setCell ⟨W.heap.size, 0, none⟩ v = W.alloc (.cells #[v] t) := by
  have h : ((W.alloc (.cells #[z] t)).setCell ⟨W.heap.size, 0, none⟩ v).heap = (W.alloc (.cells #[v] t)).heap := by
    apply Array.ext_getElem?
    intro i
    show ((W.heap.push _).modify W.heap.size _)[i]? = (W.heap.push _)[i]?
    rw [Array.getElem?_modify, Array.getElem?_push, Array.getElem?_push]
    by_cases hi : W.heap.size = i
    · subst hi; simp
    · rw [if_neg hi, if_neg (fun e => hi e.symm), if_neg (fun e => hi e.symm)]
  show ({ W with heap := _ } : World) = { W with heap := _ }
  exact congrArg (fun q => ({ W with heap := q } : World)) h
theorem lit_R (W : World) (k : IntKind) (e base : Nat) (xs : List Int) (hb : base ≤ W.heap.size) (hm : xs.length ≤ maxLen) : Kd.R (Kd.int k) e (W.alloc (.cells (xs.map (Value.int k)).toArray e)) base (fun _ => True) (.slice (some ⟨W.heap.size, 0, none⟩) xs.length xs.length) xs := by
  refine Kd.R_of_own ⟨?_, .inr ⟨W.heap.size, xs.length, _, rfl, hb, World.alloc_heap_new W _, Nat.le_refl _, hm, ?_, ?_⟩⟩ (fun _ _ => trivial)
  · simp [encs]
  · simp
  · rw [encs, List.take_of_length_le (by simp)]
theorem two_one_of (k : Nat) (hk : 3 ≤ k) : sets_Of.f k [64, 1] = some [2, 1] := by
  rw [of_f [64, 1] (by decide) k (by simp; omega)]
  decide +kernel
/-- all blocks of w0 but two lie as they lay -/
structure KeepX (g m : Nat) (w0 W : World) : Prop where
  size : w0.heap.size ≤ W.heap.size
  same : ∀ b, b < w0.heap.size → b ≠ g → b ≠ m → W.heap[b]? = w0.heap[b]?
theorem keepX_refl (g m : Nat) (w0 : World) : KeepX g m w0 w0 := ⟨Nat.le_refl _, fun _ _ _ _ => rfl⟩
theorem keepX_set {g m : Nat} {w0 W : World} (h : KeepX g m w0 W) (b : Nat) (hb : b = g ∨ b = m) (v : Value) : KeepX g m w0 (W.setCell ⟨b, 0, none⟩ v) :=
  ⟨by rw [World.size_setCell]; exact h.size, fun c hc h1 h2 => (Below.heap_setCell W ⟨b, 0, none⟩ v c (by show c ≠ b; rcases hb with rfl | rfl <;> assumption)).trans (h.same c hc h1 h2)⟩
theorem keepX_drew {g m : Nat} {w0 W : World} (h : KeepX g m w0 W) (n : Nat) : KeepX g m w0 (W.drewN n) := ⟨h.size, h.same⟩
theorem keepX_own {β : Type} (g m : Nat) (w0 : World) : OwnFrom (β := β) w0.heap.size (fun _ W => KeepX g m w0 W) := fun s A B row hs hg hr =>
  ⟨Nat.le_trans hs.size hg.size, fun b hb h1 h2 => (hg.block b (Nat.lt_of_lt_of_le hb hs.size) (fun e => by have := (hr b e.symm).1; omega)).trans (hs.same b hb h1 h2)⟩
theorem keepX_box {g m : Nat} {w0 W : World} (h : KeepX g m w0 W) {B : Nat} {t : TypeId} {v : Value} (b : Boxed w0 B t v) (h1 : B ≠ g) (h2 : B ≠ m) : Boxed W B t v := (h.same B b.lt h1 h2).trans b
theorem keepX_R {g m : Nat} {w0 W : World} (h : KeepX g m w0 W) {u1 u2 v : Value} (b1 : Boxed w0 g 3 u1) (b2 : Boxed w0 m 3 u2) {base : Nat} {ok : Nat → Prop} {xs : List Int} (hR : Kd.R (Kd.int .u64) 37 w0 base ok v xs) : Kd.R (Kd.int .u64) 37 W base (fun _ => True) v xs :=
  Kd.R_mono (Kd.R_step (Kd.R_types (Kd.R_types hR b1 (by decide)) b2 (by decide)) (fun k hk hlt => h.same k hlt hk.1.2 hk.2)) (fun _ _ => trivial)
theorem mem_keeps (B : Nat) (W : World) (n g m : Nat) (u v : Value) : KeepsFrom B W (((W.drewN n).setCell ⟨g, 0, none⟩ u).setCell ⟨m, 0, none⟩ v) := by
  have h := ((KeepsOthers.setCell (W.drewN n) ⟨g, 0, none⟩ u).trans (KeepsOthers.setCell ((W.drewN n).setCell ⟨g, 0, none⟩ u) ⟨m, 0, none⟩ v)).from B
  exact ⟨h.size, h.same⟩
theorem mem_boxes {W : World} {g m : Nat} {a b : Value} (n : Nat) (u v : Value) (hgm : g ≠ m) (b1 : Boxed W g 3 a) (b2 : Boxed W m 3 b) :
    Boxed (((W.drewN n).setCell ⟨g, 0, none⟩ u).setCell ⟨m, 0, none⟩ v) g 3 u ∧ Boxed (((W.drewN n).setCell ⟨g, 0, none⟩ u).setCell ⟨m, 0, none⟩ v) m 3 v := by
  have c1 : Boxed (W.drewN n) g 3 a := b1
  have c2 : Boxed (W.drewN n) m 3 b := b2
  exact ⟨(c1.set u).other hgm v, (c2.other (Ne.symm hgm) u).set v⟩
theorem mem_keepV {v9 : Value} (W : World) (n g m : Nat) (u v : Value) (h : ∀ b, v9.ownBlock = some b → b ≠ g ∧ b ≠ m) : KeepV v9 W (((W.drewN n).setCell ⟨g, 0, none⟩ u).setCell ⟨m, 0, none⟩ v) := fun b e =>
  (Below.heap_setCell _ ⟨m, 0, none⟩ v b (h b e).2).trans (Below.heap_setCell (W.drewN n) ⟨g, 0, none⟩ u b (h b e).1)
def below4096 (x : Int) : Int := if Int.tmod x 4096 < 0 then Int.tmod x 4096 + 4096 else Int.tmod x 4096
theorem below4096_range (x : Int) : 0 ≤ below4096 x ∧ below4096 x < 4096 := by
  unfold below4096
  have h1 : Int.tmod x 4096 < 4096 := Int.tmod_lt_of_pos x (by omega)
  have h2 : -4096 < Int.tmod x 4096 := by
    rcases Int.lt_or_le x 0 with h | h
    · have e : Int.tmod x 4096 = - ((-x) % 4096) := by
        rw [← Int.tmod_eq_emod_of_nonneg (show 0 ≤ -x by omega), Int.neg_tmod]; omega
      omega
    · rw [Int.tmod_eq_emod_of_nonneg h]; omega
  split <;> omega
theorem below4096_f (x : Int) : tourmake_Below.f x 4096 = some (below4096 x) := by
  have h := below4096_range x
  unfold tourmake_Below.f below4096
  unfold below4096 at h
  rw [if_neg (by omega)]
  split
  · rename_i h1
    rw [if_pos h1] at h
    rw [wrap64_in _ (by omega) (by omega)]
  · rfl
theorem Without_f (s : List Int) (i : Int) : sets_Set_Without.f s i = some (dif s (oneL i)) := by
  unfold sets_Set_Without.f
  rw [one_f, Option.bind_some, Minus_f, Option.bind_some]
set_option maxHeartbeats 4000000 in
set_option maxRecDepth 100000 in
theorem tourkeep1_SetsMembers.calls (A0 : Option Addr) (c0 : Nat) (l0 : List Int) (a1 : Int) (w : World) (hr0 : Kd.C (Kd.int .i64) w A0 l0.length l0) (hc0 : l0.length ≤ c0) (hl : l0.length * 8 ≤ 140737488351232) :
    Calls Try.prog 5 #[.slice A0 l0.length c0, .int .i64 a1] w fun e w' => e = .returned (.bool true) ∧ Below w.heap.size w w' := by
  have H0 := Aside0.mk hr0
  have HC0 := Aside0.mk hc0
  have HL := Aside0.mk hl
  clear hr0 hc0 hl
  refine (callsIn_wide (n := 9)).1 ?_
  refine callsIn_of_wp_marks Try.func5 rfl trivial ?_ rfl
  refine wpIn_wide.2 ?_
  simp only [Try.ntmps5, List.size_toArray, List.length_cons, List.length_nil, Nat.reduceAdd, Nat.reduceSub, Array.replicate_succ, Array.replicate_zero, List.push_toArray, List.append_toArray, List.nil_append, List.cons_append]
  go_wp2_with (fail "at the call")
  obtain ⟨wa, hwa⟩ : ∃ W, (w.alloc (.cells #[.int .i64 a1] 3)).alloc (.cells #[.bool false] 4) = W := ⟨_, rfl⟩
  have sza : wa.heap.size = w.heap.size + 1 + 1 := by rw [← hwa]; simp
  have bI : Boxed wa w.heap.size 3 (.int .i64 a1) := by rw [← hwa]; exact (Boxed.new _ _ _).alloc _
  have bR : Boxed wa (w.heap.size + 1) 4 (.bool false) := by
    rw [← hwa]
    have := Boxed.new (w.alloc (.cells #[.int .i64 a1] 3)) 4 (.bool false)
    rwa [World.size_alloc] at this
  have B0 : Below w.heap.size w wa := by rw [← hwa]; exact ((Below.refl _ w).alloc (Nat.le_refl _) _).alloc (by simp) _
  rw [hwa]
  clear hwa
  have hR := lit_R wa .i64 3 w.heap.size [64, 1] (by omega) (by decide)
  simp only [List.map_cons, List.map_nil, List.length_cons, List.length_nil] at hR
  have B1 := B0.alloc (by omega) (.cells #[.int .i64 64, .int .i64 1] 3)
  have bI1 := bI.alloc (.cells #[.int .i64 64, .int .i64 1] 3)
  have bR1 := bR.alloc (.cells #[.int .i64 64, .int .i64 1] 3)
  have sz1 : (wa.alloc (.cells #[.int .i64 64, .int .i64 1] 3)).heap.size = w.heap.size + 1 + 1 + 1 := by rw [World.size_alloc, sza]
  rw [sza] at hR
  obtain ⟨wb, hwb⟩ : ∃ W, wa.alloc (.cells #[.int .i64 64, .int .i64 1] 3) = W := ⟨_, rfl⟩
  rw [hwb] at hR B1 bI1 bR1 sz1 ⊢
  clear hwb B0 bI bR sza wa
  refine (sets_Of.calls 200 _ _ [64, 1] [2, 1] wb (Kd.R_reads' hR).2.2 (by simp) (two_one_of 200 (by omega))).mono ?_
  rintro e w1 ⟨v1, rfl, hR1, hb1⟩
  have B2 := B1.trans (hb1.mono (by omega))
  have bI2 := box_below bI1 hb1
  have bR2 := box_below bR1 hb1
  have HS1 := Aside0.mk (And.intro hb1.size sz1)
  clear hR B1 bI1 bR1 hb1 sz1
  obtain ⟨A1, c1, rfl⟩ := Kd.R_slice hR1
  have HR1 := Aside0.mk hR1
  have HB2 := Aside0.mk B2
  have HI2 := Aside0.mk bI2
  have HRR2 := Aside0.mk bR2
  clear hR1 B2 bI2 bR2
  go_wp2_with (fail "at the call")
  have hR := lit_R w1 .u64 37 w.heap.size [2, 1] HB2.out.size (by decide)
  simp only [List.map_cons, List.map_nil, List.length_cons, List.length_nil] at hR
  have B3 := HB2.out.alloc HB2.out.size (.cells #[.int .u64 2, .int .u64 1] 37)
  have bI3 := HI2.out.alloc (.cells #[.int .u64 2, .int .u64 1] 37)
  have bR3 := HRR2.out.alloc (.cells #[.int .u64 2, .int .u64 1] 37)
  have hR2 := Kd.R_alloc HR1.out (o := .cells #[.int .u64 2, .int .u64 1] 37)
  obtain ⟨w2, hw2⟩ : ∃ W, w1.alloc (.cells #[.int .u64 2, .int .u64 1] 37) = W := ⟨_, rfl⟩
  rw [hw2] at hR B3 bI3 bR3 hR2 ⊢
  have s2 : w2.heap.size = w1.heap.size + 1 := by rw [← hw2, World.size_alloc]
  clear hw2
  refine (sets_Set_uint64.calls 200 A1 c1 [2, 1] _ _ [2, 1] true w2 (Kd.R_reads' hR2).2.2 (Kd.R_reads' hR2).2.1 (Kd.R_reads' hR).2.2 (by simp) (equal_f (a := [2, 1]) (by decide) 200 (by omega))).mono ?_
  rintro e w3 ⟨rfl, hd⟩
  have hb3 := hd.below
  have HB := Aside0.mk (B3.trans (hb3.mono B3.size))
  have HI := Aside0.mk (box_below bI3 hb3)
  have HRR := Aside0.mk (box_below bR3 hb3)
  have HS := Aside0.mk (show w.heap.size + 1 + 1 ≤ w3.heap.size by have := HS1.out; have := hb3.size; omega)
  clear hR B3 bI3 bR3 hR2 hd hb3 s2 HB2 HI2 HRR2 HR1 HS1
  go_wp2_with (fail "at the call")
  refine (tourkeep1_setOf.calls (2 * l0.length + 200) A0 c0 l0 (setL l0) w3 (Kd.C_below H0.out HB.out) HC0.out (setOf_f l0 HL.out _ (by omega))).mono ?_
  rintro e w4 ⟨v4, rfl, hR4, hb4⟩
  obtain ⟨As, cs, rfl⟩ := Kd.R_slice hR4
  have B5 := (HB.out.trans (hb4.mono HB.out.size))
  have hS4 : w.heap.size + 1 + 1 ≤ w4.heap.size := Nat.le_trans HS.out hb4.size
  have bI5 := (box_below HI.out hb4).alloc (.cells #[.slice As (setL l0).length cs] 36)
  have bR5 := (box_below HRR.out hb4).alloc (.cells #[.slice As (setL l0).length cs] 36)
  have hR5 := Kd.R_alloc (Kd.R_lower hR4 HB.out.size) (.cells #[.slice As (setL l0).length cs] 36)
  have bS5 := Boxed.new w4 36 (.slice As (setL l0).length cs)
  have B6 := B5.alloc B5.size (.cells #[.slice As (setL l0).length cs] 36)
  have e5 := box_alloc w4 36 (.slice none 0 0) (.slice As (setL l0).length cs)
  obtain ⟨w5, hw5⟩ : ∃ W, w4.alloc (.cells #[.slice As (setL l0).length cs] 36) = W := ⟨_, rfl⟩
  rw [hw5] at bI5 bR5 hR5 bS5 B6 e5
  have s5 : w5.heap.size = w4.heap.size + 1 := by rw [← hw5, World.size_alloc]
  obtain ⟨gS, hgS⟩ : ∃ g, w4.heap.size = g := ⟨_, rfl⟩
  have cI5 := bI5.cell
  have fI5 := bI5.frozen
  have HB := Aside0.mk B6
  have HI := Aside0.mk bI5
  have HRR := Aside0.mk bR5
  have HSS := Aside0.mk bS5
  have HR := Aside0.mk hR5
  have HS := Aside0.mk (And.intro hS4 s5)
  clear hb4 hR4 B5 hw5 bI5 bR5 hR5 bS5 B6 hS4 s5 hgS gS
  go_wp2_with (fail "at the call")
  obtain ⟨i, hi⟩ : ∃ i, below4096 a1 = i := ⟨_, rfl⟩
  have hir := below4096_range a1
  rw [hi] at hir
  refine (tourmake_Below.calls a1 4096 i w5 (by rw [below4096_f, hi])).mono ?_
  rintro e w6 ⟨rfl, hd⟩
  have hb6 := hd.below
  have bI6 := box_below HI.out hb6
  have cI6 := bI6.cell
  have fI6 := bI6.frozen
  have HI6 := Aside0.mk bI6
  have HD := Aside0.mk hd
  clear hd hb6 bI6 cI5 fI5 e5
  go_wp2_with (fail "at the call")
  have hb6 := HD.out.below
  have bI7 := HI6.out.set (.int .i64 i)
  have bR7 := (box_below HRR.out hb6).other (B' := w.heap.size) (by omega) (.int .i64 i)
  have bS7 := (box_below HSS.out hb6).other (B' := w.heap.size) (by have := HS.out; omega) (.int .i64 i)
  have hR7 := Kd.R_set (Kd.R_below HR.out hb6) HI6.out (by decide) 0 (.int .i64 i)
  have hB7 := (HB.out.trans (hb6.mono HB.out.size)).setCell (p := ⟨w.heap.size, 0, none⟩) (Nat.le_refl _) (.int .i64 i)
  obtain ⟨w7, hw7⟩ : ∃ W, w6.setCell ⟨w.heap.size, 0, none⟩ (.int .i64 i) = W := ⟨_, rfl⟩
  rw [hw7] at bI7 bR7 bS7 hR7 hB7 ⊢
  obtain ⟨gS, hgS⟩ : ∃ g, w4.heap.size = g := ⟨_, rfl⟩
  rw [hgS] at bS7 ⊢
  have HI7 := Aside0.mk bI7
  have HRR7 := Aside0.mk bR7
  have HS7 := Aside0.mk bS7
  have HR7 := Aside0.mk hR7
  have HB7 := Aside0.mk hB7
  have hsl := good_setL l0
  generalize setL l0 = sl at HR7 HS7 hsl ⊢
  have HSL := Aside0.mk hsl
  have cI7 := bI7.cell
  have cS7 := HS7.out.cell
  have HZ := Aside0.mk (show w.heap.size + 1 < gS by have := HS.out; omega)
  clear hb6 bI7 bR7 bS7 hR7 hB7 hw7 hgS HI6 HD HB HI HRR HSS HR HS hsl cI6 fI6 H0 HC0 HL
  go_cut [6, 7] from 6 to 25 (fun v6 v7 wc => ∃ (g : Nat) (Aw : Option Addr) (cw : Nat) (Ao : Option Addr) (co : Nat), v6 = .pointer (some ⟨g, 0, none⟩) ∧ v7 = .slice Ao (dif sl (oneL i)).length co ∧ Aside0 (w7.heap.size ≤ g ∧ Boxed wc g 36 (.slice Aw (uni sl (oneL i)).length cw) ∧ Kd.R (Kd.int .u64) 37 wc w7.heap.size (fun _ => True) (.slice Aw (uni sl (oneL i)).length cw) (uni sl (oneL i)) ∧ Kd.R (Kd.int .u64) 37 wc w7.heap.size (fun _ => True) (.slice Ao (dif sl (oneL i)).length co) (dif sl (oneL i)) ∧ Below w7.heap.size w7 wc))
  case first =>
    have HK := Aside0.mk (show ∀ w', Below w7.heap.size w7 w' → w'.cell? ⟨w.heap.size, 0, none⟩ = some (.int .i64 i) ∧ w'.cell? ⟨gS, 0, none⟩ = some (.slice As sl.length cs) ∧ Below w7.heap.size w7 w' from fun w' hb => ⟨(box_below HI7.out hb).cell, (box_below HS7.out hb).cell, hb⟩)
    have B0 := Below.refl w7.heap.size w7
    go_region_held3 (fun w' => w'.cell? ⟨w.heap.size, 0, none⟩ = some (.int .i64 i) ∧ w'.cell? ⟨gS, 0, none⟩ = some (.slice As sl.length cs) ∧ Below w7.heap.size w7 w')
      (exact HK.out _ (by repeat (first | assumption | apply below_drew1 | apply pw_below_drewN | apply below_alloc | exact hB9.setCell (p := ⟨_, 0, none⟩) hB8.size _ | exact hB9.setCell (p := ⟨_, 0, none⟩) (Nat.le_refl _) _)))
      (first
        | (go_at_call 25; (with_reducible refine (sets_Set_With.calls As cs sl i (uni sl (oneL i)) _ (Kd.R_reads' (Kd.R_below HR7.out (by repeat (first | assumption | apply below_drew1 | apply pw_below_drewN | apply below_alloc)))).2.2 (Kd.R_reads' HR7.out).2.1 (With_f sl i)).mono ?_); rintro e w8 ⟨v8, rfl, hR8, hb8⟩; obtain ⟨A8, c8, rfl⟩ := Kd.R_slice hR8; have hB8 : Below w7.heap.size w7 w8 := below_step (by repeat (first | assumption | apply below_drew1 | apply pw_below_drewN | apply below_alloc)) hb8; (try (have cN : Boxed w8 w7.heap.size 36 (.slice none 0 0) := (hb8.block _ (by simp)).trans (Boxed.new w7 36 _); have cNc := cN.cell; have cNf := cN.frozen; have HN := Aside0.mk cN; clear cN)); have HR8 := Aside0.mk hR8; clear hb8 hR8)
        | (go_at_call 26; (with_reducible refine (sets_Set_Without.calls As cs sl i (dif sl (oneL i)) _ (Kd.R_reads' (Kd.R_below HR7.out (by repeat (first | assumption | apply below_drew1 | apply pw_below_drewN | apply below_alloc)))).2.2 (Kd.R_reads' HR7.out).2.1 (Without_f sl i)).mono ?_); rintro e w9 ⟨v9, rfl, hR9, hb9⟩; obtain ⟨A9, c9, rfl⟩ := Kd.R_slice hR9; have hB9 : Below w7.heap.size w7 w9 := below_step (by repeat (first | assumption | apply below_drew1 | apply pw_below_drewN | apply below_alloc)) hb9; (try (have cN2 : Boxed w9 w7.heap.size 36 (.slice none 0 0) := (hb9.block _ HN.out.lt).trans HN.out; have cNc2 := cN2.cell; have cNf2 := cN2.frozen; have HN2 := Aside0.mk cN2; clear cN2)); (try (have cN2 : Boxed w9 w8.heap.size 36 (.slice none 0 0) := (hb9.block _ (by simp)).trans (Boxed.new w8 36 _); have cNc2 := cN2.cell; have cNf2 := cN2.frozen; have HN2 := Aside0.mk cN2; clear cN2)); have HR9 := Aside0.mk hR9; have hR8b := Kd.R_below (by (with_reducible repeat (first | apply Kd.R_alloc | apply Kd.R_drewN | apply Kd.R_drew)); exact HR8.out) hb9; have HR8b := Aside0.mk hR8b; clear hb9 hR9 hR8b))
    · go_wp2
      go_meet
      case rel =>
        refine ⟨_, A8, c8, A9, c9, rfl, rfl, ⟨hB9.size, Boxed.new _ _ _, ?_, ?_, hB9.alloc hB9.size _⟩⟩
        · exact Kd.R_lower (Kd.R_alloc HR8b.out _) (by simp)
        · exact Kd.R_lower (Kd.R_alloc HR9.out _) (by simpa using hB8.size)
    · go_wp2
      go_meet
      case rel =>
        refine ⟨_, A8, c8, A9, c9, rfl, rfl, ⟨hB8.size, HN2.out.set _, ?_, ?_, hB9.setCell (p := ⟨_, 0, none⟩) hB8.size _⟩⟩
        · exact Kd.R_lower (Kd.R_set HR8b.out HN2.out (by decide) 0 _) (by simp)
        · exact Kd.R_lower (Kd.R_set HR9.out HN2.out (by decide) 0 _) (by simp; exact Nat.le_succ_of_le hB8.size)
    · go_wp2
      go_meet
      case rel =>
        refine ⟨_, A8, c8, A9, c9, rfl, rfl, ⟨Nat.le_refl _, HN2.out.set _, ?_, ?_, hB9.setCell (p := ⟨_, 0, none⟩) (Nat.le_refl _) _⟩⟩
        · exact Kd.R_lower (Kd.R_set HR8b.out HN2.out (by decide) 0 _) (by simp)
        · exact Kd.R_lower (Kd.R_set HR9.out HN2.out (by decide) 0 _) (by simpa using hB8.size)
  case rest =>
    obtain ⟨g, Aw, cw, Ao, co, rfl, rfl, HC⟩ := hcut
    obtain ⟨hg7, bW, hRW, hRO, hB⟩ := HC.out
    have bI := box_below HI7.out hB
    have bR := box_below HRR7.out hB
    have bS := box_below HS7.out hB
    have hRS := Kd.R_below HR7.out hB
    have hBw := HB7.out.trans (hB.mono HB7.out.size)
    have hlt := HI7.out.lt
    have hltS := HS7.out.lt
    have HZ2 := Aside0.mk (And.intro hg7 (And.intro hB.size hltS))
    clear HC HI7 HRR7 HS7 HR7 HB7 hg7 hB hlt hltS cI7 cS7
    have hX := (good_uni sl (oneL i))
    have hY := (good_dif sl (oneL i))
    have HX := Aside0.mk (And.intro hX hY)
    clear hX hY
    obtain ⟨X, hX⟩ : ∃ X, uni sl (oneL i) = X := ⟨_, rfl⟩
    obtain ⟨Y, hY⟩ : ∃ Y, dif sl (oneL i) = Y := ⟨_, rfl⟩
    rw [hX] at bW hRW HX
    rw [hY] at hRO HX ⊢
    have HXY := Aside0.mk (And.intro hX hY)
    clear hX hY
    have bN := Boxed.new wc 3 (.int .i64 (-1))
    have bM := Boxed.new (wc.alloc (.cells #[.int .i64 (-1)] 3)) 3 (.int .i64 0)
    rw [World.size_alloc] at bM
    have bI8 := (bI.alloc (.cells #[.int .i64 (-1)] 3)).alloc (.cells #[.int .i64 0] 3)
    have bR8 := (bR.alloc (.cells #[.int .i64 (-1)] 3)).alloc (.cells #[.int .i64 0] 3)
    have bS8 := (bS.alloc (.cells #[.int .i64 (-1)] 3)).alloc (.cells #[.int .i64 0] 3)
    have bW8 := (bW.alloc (.cells #[.int .i64 (-1)] 3)).alloc (.cells #[.int .i64 0] 3)
    have bN8 := bN.alloc (.cells #[.int .i64 0] 3)
    have hRW8 := Kd.R_alloc (Kd.R_alloc hRW (.cells #[.int .i64 (-1)] 3)) (.cells #[.int .i64 0] 3)
    have hRO8 := Kd.R_alloc (Kd.R_alloc hRO (.cells #[.int .i64 (-1)] 3)) (.cells #[.int .i64 0] 3)
    have hRS8 := Kd.R_alloc (Kd.R_alloc hRS (.cells #[.int .i64 (-1)] 3)) (.cells #[.int .i64 0] 3)
    have hB8 := (hBw.alloc hBw.size (.cells #[.int .i64 (-1)] 3)).alloc (by rw [World.size_alloc]; exact Nat.le_succ_of_le hBw.size) (.cells #[.int .i64 0] 3)
    have s8 : ((wc.alloc (.cells #[.int .i64 (-1)] 3)).alloc (.cells #[.int .i64 0] 3)).heap.size = wc.heap.size + 1 + 1 := by rw [World.size_alloc, World.size_alloc]
    obtain ⟨w8, hw8⟩ : ∃ W, (wc.alloc (.cells #[.int .i64 (-1)] 3)).alloc (.cells #[.int .i64 0] 3) = W := ⟨_, rfl⟩
    have e2 := box_alloc (wc.alloc (.cells #[.int .i64 (-1)] 3)) 3 (.int .i64 0) (.int .i64 0)
    rw [hw8, World.size_alloc] at e2
    rw [hw8] at bI8 bR8 bS8 bW8 bN8 bM hRW8 hRO8 hRS8 hB8 s8
    have cW := bW8.cell
    have cM8 := bM.cell
    have fM8 := bM.frozen
    have H8 := Aside0.mk (And.intro bI8 (And.intro bR8 (And.intro bS8 (And.intro bW8 (And.intro bN8 (And.intro bM (And.intro hRW8 (And.intro hRO8 (And.intro hRS8 (And.intro hB8 s8))))))))))
    have HBW := Aside0.mk (And.intro bW.lt (And.intro bS.lt hBw.size))
    clear bI8 bR8 bS8 bW8 bN8 bM hRW8 hRO8 hRS8 hB8 s8 bI bR bS bW bN hRW hRO hRS hBw
    go_wp2_with (fail "at the call")
    clear hw8 cW cM8 fM8 e2
    have h8 := H8.out
    obtain ⟨bI8, bR8, bS8, bW8, bN8, bM8, hRW8, hRO8, hRS8, hB8, s8⟩ := h8
    refine (sets_Set_All.calls Aw cw X w8 (Kd.R_reads' hRW8).2.2 (Kd.R_reads' hRW8).2.1).mono ?_
    rintro e w9 ⟨rfl, v9, hcl9, hR9, hlt9, hb9⟩
    rw [walked_good HX.out.1] at hR9
    rw [s8] at hcl9 hR9 hlt9
    have bI9 := box_below bI8 hb9
    have bR9 := box_below bR8 hb9
    have bS9 := box_below bS8 hb9
    have bW9 := box_below bW8 hb9
    have bN9 := box_below bN8 hb9
    have bM9 := box_below bM8 hb9
    have hRW9 := Kd.R_below hRW8 hb9
    have hRO9 := Kd.R_below hRO8 hb9
    have hRS9 := Kd.R_below hRS8 hb9
    have hB9 := hB8.trans (hb9.mono hB8.size)
    have hv9 : ∀ b, v9.ownBlock = some b → wc.heap.size + 1 + 1 < b ∧ b < w9.heap.size := fun b e => by
      have := (Kd.R_bound hR9).1 b e
      omega
    clear hb9 bI8 bR8 bS8 bW8 bN8 bM8 hRW8 hRO8 hRS8 hB8 H8
    simp only [s8]
    clear s8 w8
    go_wp2_with (fail "at the call")
    have H9 := Aside0.mk (And.intro bI9 (And.intro bR9 (And.intro bS9 (And.intro bW9 (And.intro hRW9 (And.intro hRO9 hRS9))))))
    have H9b := Aside0.mk (And.intro bN9 bM9)
    have H9c := Aside0.mk (And.intro hv9 hlt9)
    have h00 : w.heap.size < wc.heap.size ∧ w.heap.size + 1 < wc.heap.size ∧ gS < wc.heap.size ∧ g < wc.heap.size := by
      have := HBW.out
      have := HZ.out
      omega
    have hXs := elems_sorted X 0 HX.out.1.words
    have hXm := fun (y : Int) (hy : y ∈ elems 0 X) => (elems_has HX.out.1 y).1 hy
    refine (wpIn_wide (n := 9)).1 ?_
    refine wpIn_rangeFunc_ownG rfl (by omega) (gf := 58) (lb := #[.pointer (some ⟨wc.heap.size + 1 + 1, 0, none⟩)]) rfl trivial (enters_of Try.func58 (by kernel_rfl) rfl)
      (sets_walk_stops Fence.wide (9 - 1) trivial rfl (by omega) (fun x => x ∈ elems 0 X) (wc.heap.size + 1 + 1) (wc.heap.size + 1 + 1 + 1) (fun _ => True) v9 X HX.out.1.len HX.out.1.words (fun _ h => h) w9 (by omega) hcl9 hR9) keepV_t (putObj_keepV (fun b e => (hv9 b e).2)) (Below.refl _ _) (fun _ => rfl)
      (fun pre W => ((Boxed W wc.heap.size 3 (.int .i64 (lastOf (pre.map (·.1)))) ∧ Boxed W (wc.heap.size + 1) 3 (.int .i64 (pre.length : Int))) ∧ (∀ y ∈ pre, y.1 ≠ i)) ∧ KeepX wc.heap.size (wc.heap.size + 1) w9 W ∧ Below w.heap.size w W)
      (fun c pre W => (c = .ret ∧ ∃ ini y, pre = ini ++ [y] ∧ y.1 ≤ lastOf (ini.map (·.1))) ∨ (((c = .exit 0 ∧ pre ≠ []) ∧ (Boxed W wc.heap.size 3 (.int .i64 i) ∧ Boxed W (wc.heap.size + 1) 3 (.int .i64 (pre.length : Int)))) ∧ KeepX wc.heap.size (wc.heap.size + 1) w9 W ∧ Below w.heap.size w W))
      (OwnFrom.and (OwnFrom.and (OwnFrom.and (Own.from (boxed_own _ 3 (fun (pre : List {x : Int // x ∈ elems 0 X}) => .int .i64 (lastOf (pre.map (·.1))))) _) (Own.from (boxed_own _ 3 (fun (pre : List {x : Int // x ∈ elems 0 X}) => .int .i64 ((pre.length : Nat) : Int))) _)) (fun s A B row hs _ _ => hs)) (OwnFrom.and (keepX_own _ _ _) (ownFrom_below (by omega) (by omega))))
      (fun c => fun s A B row hs hg hr => by
        rcases hs with hs | hs
        · exact .inl hs
        · refine .inr ?_
          exact (OwnFrom.and (OwnFrom.and (show OwnFrom w9.heap.size (fun (s : List {x : Int // x ∈ elems 0 X}) (_ : World) => c = Code.exit 0 ∧ s ≠ []) from fun s A B row hs _ _ => hs) (OwnFrom.and (Own.from (boxed_own _ 3 (fun (pre : List {x : Int // x ∈ elems 0 X}) => .int .i64 i)) _) (Own.from (boxed_own _ 3 (fun (pre : List {x : Int // x ∈ elems 0 X}) => .int .i64 ((pre.length : Nat) : Int))) _))) (OwnFrom.and (keepX_own wc.heap.size (wc.heap.size + 1) w9) (ownFrom_below (n₀ := w.heap.size) (w₀ := w) (Nat.le_refl _) (by omega)))) s A B row hs hg hr)
      ⟨⟨⟨bN9, bM9⟩, fun y hy => by cases hy⟩, keepX_refl _ _ _, hB9⟩
      (fun x => { tmps := #[.slice A0 l0.length c0, .int .i64 a1, undef, .pointer (some ⟨w.heap.size, 0, none⟩), .pointer (some ⟨w.heap.size + 1, 0, none⟩), .pointer (some ⟨gS, 0, none⟩), .pointer (some ⟨g, 0, none⟩), .slice Ao Y.length co, .pointer (some ⟨wc.heap.size, 0, none⟩), .pointer (some ⟨wc.heap.size + 1, 0, none⟩), .int .i64 x.1, u11, u12, u13, u14, u15, u16, u17, u18, u19, u20, u21, u22, u23, u24, u25, .slice Aw X.length cw, .func (.func 58) #[] #[.pointer (some ⟨wc.heap.size + 1 + 1, 0, none⟩)], .int .i64 x.1, undef, undef, undef, undef, undef, undef, undef, undef, undef, undef, undef, undef, undef, undef, undef, undef, undef, undef, undef, undef, undef, undef, undef, undef, undef, undef, undef, undef, undef, undef, undef, undef, undef, undef, undef, undef, undef, undef, undef, undef, undef, undef, undef, undef, undef, undef, undef, undef, undef, undef, undef, undef, undef, undef, undef, undef, undef, undef, undef, undef, undef, undef, undef, undef, undef, undef], defers := [] }) ?assign ?body ?done ?stop
    case assign =>
      intro l x W K hK
      gi_wp2
      first | exact hK | simpa using hK
    case body =>
      rintro l pre ⟨x, hx⟩ W ⟨⟨⟨bn, bm⟩, hne⟩, hK, hBW⟩ hlen
      obtain ⟨x0, x1, xb⟩ := hXm x hx
      have h9 := H9.out
      obtain ⟨bI9, bR9, bS9, bW9, hRW9, hRO9, hRS9⟩ := h9
      have bI := keepX_box hK bI9 (by omega) (by omega)
      have bR := keepX_box hK bR9 (by omega) (by omega)
      have bS := keepX_box hK bS9 (by omega) (by omega)
      have bW := keepX_box hK bW9 (by omega) (by omega)
      have hRW := keepX_R hK H9b.out.1 H9b.out.2 hRW9
      have hRS := keepX_R hK H9b.out.1 H9b.out.2 hRS9
      clear bI9 bR9 bS9 bW9 hRW9 hRO9 hRS9
      have cI := bI.cell
      have cR := bR.cell
      have fR := bR.frozen
      have cS := bS.cell
      have cW := bW.cell
      have cN := bn.cell
      have fN := bn.frozen
      have cM := bm.cell
      have fM := bm.frozen
      have HB1 := Aside0.mk (And.intro bR (And.intro bn bm))
      have HRs := Aside0.mk (And.intro hRW hRS)
      have HKB := Aside0.mk (And.intro hK hBW)
      have hlen2 : pre.length < 4096 := by
        have := elems_length X 0 HX.out.1.words
        have := HX.out.1.len
        omega
      have HL2 := Aside0.mk hlen2
      clear bI bR bS bW bn bm hRW hRS hK hBW hlen
      obtain ⟨lst, hlst⟩ : ∃ q, lastOf (pre.map (·.1)) = q := ⟨_, rfl⟩
      rw [hlst] at cN HB1
      have hwr : IntKind.i64.wrap ((pre.length : Int) + 1) = (pre.length : Int) + 1 := by rw [IntKind.wrap_i64]; omega
      have hne1 : ¬ w.heap.size = wc.heap.size := by omega
      have hne2 : ¬ w.heap.size = wc.heap.size + 1 := by omega
      by_cases h1 : x ≤ lst
      · have d1 : decide (x ≤ lst) = true := decide_eq_true h1
        gi_wp2
        all_goals (try (rename_i q1 q2; exact absurd q1 (by simp [undef]; done)))
        refine ⟨trivial, ?_⟩
        gi_wp2
        all_goals (try (rename_i q1 q2; exact absurd q1 (by simp [undef]; done)))
        refine ⟨trivial, ?_⟩
        gi_wp2
        exact ⟨(KeepsOthers.setCell _ _ _).from _, .inl ⟨rfl, pre, ⟨x, hx⟩, rfl, by rw [hlst]; exact h1⟩⟩
      · have h1' : lst < x := by omega
        clear h1
        gi_wp2
        refine ⟨trivial, ?_⟩
        refine (CallsIn.inRound l (callsIn_wide.2 (sets_Set_Has.calls Aw cw X x true W (Kd.R_reads' HRs.out.1).2.2 (Kd.R_reads' HRs.out.1).2.1 (by rw [Has_f HX.out.1.words x x0 x1, xb])))).mono ?_
        rintro e w' ⟨rfl, ⟨nd, rfl⟩⟩
        by_cases h2 : x = i
        · gi_wp2
          refine ⟨trivial, ?_⟩
          gi_wp2
          gi_region
          all_goals gi_wp2
          all_goals exact ⟨mem_keeps _ _ _ _ _ _ _, .inr ⟨⟨⟨rfl, by simp⟩, ⟨by rw [← h2]; exact (mem_boxes _ _ _ (by omega) HB1.out.2.1 HB1.out.2.2).1, by rw [List.length_append]; exact (mem_boxes _ _ _ (by omega) HB1.out.2.1 HB1.out.2.2).2⟩⟩, keepX_set (keepX_set (keepX_drew HKB.out.1 _) _ (.inl rfl) _) _ (.inr rfl) _, ((pw_below_drewN HKB.out.2 _).setCell (p := ⟨wc.heap.size, 0, none⟩) (Nat.le_of_lt h00.1) _).setCell (p := ⟨wc.heap.size + 1, 0, none⟩) (Nat.le_succ_of_le (Nat.le_of_lt h00.1)) _⟩⟩
        · have d2 : (x != i) = true := by simpa using h2
          gi_wp2
          refine ⟨trivial, ?_⟩
          refine (CallsIn.inRound l (callsIn_wide.2 (sets_Set_Has.calls As cs sl x true (W.drewN nd) (Kd.R_reads' (Kd.R_drewN HRs.out.2 nd)).2.2 (Kd.R_reads' HRs.out.2).2.1 (by rw [Has_f HSL.out.words x x0 x1, has_other sl i x hir.1 hir.2 (by rw [HXY.out.1]; exact hx) h2])))).mono ?_
          rintro e w' ⟨rfl, ⟨nd2, rfl⟩⟩
          gi_wp2
          gi_region
          all_goals gi_wp2
          all_goals exact ⟨mem_keeps _ _ _ _ _ _ _, mem_keepV _ _ _ _ _ _ (fun b e => by have := (H9c.out.1 b e).1; omega), ⟨⟨⟨by rw [List.map_append, List.map_cons, List.map_nil, lastOf_snoc]; exact (mem_boxes _ _ _ (by omega) HB1.out.2.1 HB1.out.2.2).1, by rw [List.length_append]; exact (mem_boxes _ _ _ (by omega) HB1.out.2.1 HB1.out.2.2).2⟩, fun y hy => by rcases List.mem_append.1 hy with hy | hy; exact hne y hy; rw [List.mem_singleton.1 hy]; exact h2⟩, keepX_set (keepX_set (keepX_drew HKB.out.1 _) _ (.inl rfl) _) _ (.inr rfl) _, ((pw_below_drewN HKB.out.2 _).setCell (p := ⟨wc.heap.size, 0, none⟩) (Nat.le_of_lt h00.1) _).setCell (p := ⟨wc.heap.size + 1, 0, none⟩) (Nat.le_succ_of_le (Nat.le_of_lt h00.1)) _⟩⟩
    case done =>
      rintro D ys W hD hys ⟨⟨⟨bn, bm⟩, hne⟩, hK, hBW⟩ hKD
      have hi : i ∈ elems 0 X := by
        rw [← HXY.out.1]
        exact (elems_has (good_uni _ _) i).2 ⟨hir.1, hir.2, has_with sl i hir.1 hir.2⟩
      rw [← hys, List.mem_map] at hi
      obtain ⟨y, hy, rfl⟩ := hi
      exact (hne y hy rfl).elim
    case stop =>
      rintro D c pre W hD hpre h hKD
      rcases h with ⟨rfl, ini, y, rfl, hle⟩ | ⟨⟨⟨rfl, hne⟩, bn, bm⟩, hK, hBW⟩
      · rw [List.map_append] at hpre
        exact absurd (prefix_rises hXs (fun y hy => (hXm y hy).1) hpre) (Int.not_lt.2 hle)
      · have hDz : w.heap.size + 1 < D := by omega
        have h9 := H9.out
        obtain ⟨bI9, bR9, bS9, bW9, hRW9, hRO9, hRS9⟩ := h9
        have bI := keepX_box hK bI9 (by omega) (by omega)
        have bR := keepX_box hK bR9 (by omega) (by omega)
        have bS := keepX_box hK bS9 (by omega) (by omega)
        have bW := keepX_box hK bW9 (by omega) (by omega)
        have hRW := keepX_R hK H9b.out.1 H9b.out.2 hRW9
        have hRS := keepX_R hK H9b.out.1 H9b.out.2 hRS9
        have hRO := keepX_R hK H9b.out.1 H9b.out.2 hRO9
        have hn1 : 1 ≤ (pre.length : Int) := by
          cases pre with
          | nil => exact absurd rfl hne
          | cons a q => simp; omega
        have hszW := hK.size
        clear bI9 bR9 bS9 bW9 hRW9 hRO9 hRS9
        clear H9 H9b H9c hXs hXm hv9 hlt9 hcl9 hR9 bN9 bM9
        refine wpIn_wide.2 ?_
        go_wp2_with (fail "at the region")
        obtain ⟨np, hnp⟩ : ∃ q, (pre.length : Int) = q := ⟨_, rfl⟩
        rw [hnp] at bm hn1
        have B0 := Below.refl W.heap.size W
        have HK := Aside0.mk (show ∀ w', Below W.heap.size W w' → (w'.cell? ⟨w.heap.size, 0, none⟩ = some (.int .i64 i) ∧ w'.cell? ⟨g, 0, none⟩ = some (.slice Aw X.length cw) ∧ w'.cell? ⟨wc.heap.size, 0, none⟩ = some (.int .i64 i) ∧ w'.cell? ⟨wc.heap.size + 1, 0, none⟩ = some (.int .i64 np)) ∧ Boxed w' (w.heap.size + 1) 4 (.bool false) from
          fun w' hb => ⟨⟨(box_below bI hb).cell, (box_below bW hb).cell, (box_below bn hb).cell, (box_below bm hb).cell⟩, box_below bR hb⟩)
        have HK2 := Aside0.mk (show ∀ w', Below W.heap.size W w' → (w'.setCell ⟨w.heap.size + 1, 0, none⟩ (.bool true)).cell? ⟨w.heap.size, 0, none⟩ = some (.int .i64 i) ∧ (w'.setCell ⟨w.heap.size + 1, 0, none⟩ (.bool true)).cell? ⟨g, 0, none⟩ = some (.slice Aw X.length cw) ∧ (w'.setCell ⟨w.heap.size + 1, 0, none⟩ (.bool true)).cell? ⟨wc.heap.size, 0, none⟩ = some (.int .i64 i) ∧ (w'.setCell ⟨w.heap.size + 1, 0, none⟩ (.bool true)).cell? ⟨wc.heap.size + 1, 0, none⟩ = some (.int .i64 np) from
          fun w' hb => ⟨((box_below bI hb).other (by omega) _).cell, ((box_below bW hb).other (by have := HZ2.out; have := HZ.out; omega) _).cell, ((box_below bn hb).other (by omega) _).cell, ((box_below bm hb).other (by omega) _).cell⟩)
        have cI := bI.cell
        have cW := bW.cell
        have cn := bn.cell
        have cm := bm.cell
        have HX2 := Aside0.mk hRW
        have HY2 := Aside0.mk hRO
        have hcard := card_more sl i hir.1 hir.2
        rw [HXY.out.1, HXY.out.2] at hcard
        obtain ⟨nX, hnX⟩ : ∃ q, (card X : Int) = q := ⟨_, rfl⟩
        obtain ⟨nY, hnY⟩ : ∃ q, (card Y : Int) = q := ⟨_, rfl⟩
        have hXY : nX = nY + 1 := by omega
        have hYr : 0 ≤ nY ∧ nY ≤ 4096 := by have := card_le Y; omega
        have hwr : IntKind.i64.wrap (nY + 1) = nY + 1 := by rw [IntKind.wrap_i64]; omega
        have HLX := Aside0.mk (show sets_Set_Len.f X = some nX by rw [len_f HX.out.1, hnX])
        have HLY := Aside0.mk (show sets_Set_Len.f Y = some nY by rw [len_f HX.out.2, hnY])
        have HHX := Aside0.mk (show sets_Set_Has.f X i = some true by rw [Has_f HX.out.1.words i hir.1 hir.2, ← HXY.out.1, has_with sl i hir.1 hir.2])
        have HHY := Aside0.mk (show sets_Set_Has.f Y i = some false by rw [Has_f HX.out.2.words i hir.1 hir.2, ← HXY.out.2, has_without sl i hir.1 hir.2])
        have HWX := Aside0.mk (show sets_Set_Without.f X i = some Y by rw [Without_f, ← HXY.out.1, with_without, HXY.out.2])
        have HWY := Aside0.mk (show sets_Set_With.f Y i = some X by rw [With_f, ← HXY.out.2, without_with, HXY.out.1])
        have HEX := Aside0.mk (equal_f HX.out.1.len 200 (by omega))
        have HEY := Aside0.mk (equal_f HX.out.2.len 200 (by omega))
        have HF := Aside0.mk (And.intro bR (And.intro hBW (And.intro hKD hszW)))
        clear bI bR bS bW bn bm hRW hRO hRS hK hBW hKD hszW hpre hne hcard hnX hnY hYr hnp HX HXY HSL
        go_region_held3 (fun w' => w'.cell? ⟨w.heap.size, 0, none⟩ = some (.int .i64 i) ∧ w'.cell? ⟨g, 0, none⟩ = some (.slice Aw X.length cw) ∧ w'.cell? ⟨wc.heap.size, 0, none⟩ = some (.int .i64 i) ∧ w'.cell? ⟨wc.heap.size + 1, 0, none⟩ = some (.int .i64 np))
          (first | exact HK2.out _ hB18 | exact (HK.out _ (by with_reducible repeat (first | assumption | apply pw_below_drewN | apply below_drew1 | apply below_alloc))).1)
          (first
            | (go_at_call 28; (with_reducible refine (sets_Set_Has.calls Aw cw X i true _ (Kd.R_reads' (Kd.R_below HX2.out (by with_reducible repeat (first | assumption | apply pw_below_drewN | apply below_drew1 | apply below_alloc)))).2.2 (Kd.R_reads' HX2.out).2.1 HHX.out).mono ?_); rintro e w11 ⟨rfl, ⟨nd1, rfl⟩⟩)
            | (go_at_call 28; (with_reducible refine (sets_Set_Has.calls Ao co Y i false _ (Kd.R_reads' (Kd.R_below HY2.out (by with_reducible repeat (first | assumption | apply pw_below_drewN | apply below_drew1 | apply below_alloc)))).2.2 (Kd.R_reads' HY2.out).2.1 HHY.out).mono ?_); rintro e w12 ⟨rfl, ⟨nd2, rfl⟩⟩)
            | (go_at_call 26; (with_reducible refine (sets_Set_Without.calls Aw cw X i Y _ (Kd.R_reads' (Kd.R_below HX2.out (by with_reducible repeat (first | assumption | apply pw_below_drewN | apply below_drew1 | apply below_alloc)))).2.2 (Kd.R_reads' HX2.out).2.1 HWX.out).mono ?_); rintro e w14 ⟨v14, rfl, hR14, hb14⟩; obtain ⟨A14, c14, rfl⟩ := Kd.R_slice hR14; have hB14 : Below W.heap.size W w14 := below_step (by with_reducible repeat (first | assumption | apply pw_below_drewN | apply below_drew1 | apply below_alloc)) hb14; have HR14 := Aside0.mk hR14; clear hb14 hR14)
            | (go_at_call 17; (with_reducible refine (sets_Set_uint64.calls 200 A14 c14 Y Ao co Y true _ (Kd.R_reads' (by with_reducible repeat (first | exact HR14.out | apply Kd.R_drewN | apply Kd.R_drew))).2.2 (Kd.R_reads' HR14.out).2.1 (Kd.R_reads' (Kd.R_below HY2.out (by with_reducible repeat (first | assumption | apply pw_below_drewN | apply below_drew1 | apply below_alloc)))).2.2 (Kd.R_reads' HY2.out).2.1 HEY.out).mono ?_); rintro e w13 ⟨rfl, ⟨nd3, rfl⟩⟩)
            | (go_at_call 25; (with_reducible refine (sets_Set_With.calls Ao co Y i X _ (Kd.R_reads' (Kd.R_below HY2.out (by with_reducible repeat (first | assumption | apply pw_below_drewN | apply below_drew1 | apply below_alloc)))).2.2 (Kd.R_reads' HY2.out).2.1 HWY.out).mono ?_); rintro e w15 ⟨v15, rfl, hR15, hb15⟩; obtain ⟨A15, c15, rfl⟩ := Kd.R_slice hR15; have hB15 : Below W.heap.size W w15 := below_step (by with_reducible repeat (first | assumption | apply pw_below_drewN | apply below_drew1 | apply below_alloc)) hb15; have HR15 := Aside0.mk hR15; clear hb15 hR15)
            | (go_at_call 17; (with_reducible refine (sets_Set_uint64.calls 200 A15 c15 X Aw cw X true _ (Kd.R_reads' (by with_reducible repeat (first | exact HR15.out | apply Kd.R_drewN | apply Kd.R_drew))).2.2 (Kd.R_reads' HR15.out).2.1 (Kd.R_reads' (Kd.R_below HX2.out (by with_reducible repeat (first | assumption | apply pw_below_drewN | apply below_drew1 | apply below_alloc)))).2.2 (Kd.R_reads' HX2.out).2.1 HEX.out).mono ?_); rintro e w16 ⟨rfl, ⟨nd4, rfl⟩⟩)
            | (go_at_call 24; (with_reducible refine (sets_Set_Len.calls Aw cw X nX _ (Kd.R_reads' (Kd.R_below HX2.out (by with_reducible repeat (first | assumption | apply pw_below_drewN | apply below_drew1 | apply below_alloc)))).2.2 (Kd.R_reads' HX2.out).2.1 HLX.out).mono ?_); rintro e w17 ⟨rfl, hb17⟩; have hB17 : Below W.heap.size W w17 := below_step (by with_reducible repeat (first | assumption | apply pw_below_drewN | apply below_drew1 | apply below_alloc)) hb17; clear hb17)
            | (go_at_call 24; (with_reducible refine (sets_Set_Len.calls Ao co Y nY _ (Kd.R_reads' (Kd.R_below HY2.out (by with_reducible repeat (first | assumption | apply pw_below_drewN | apply below_drew1 | apply below_alloc)))).2.2 (Kd.R_reads' HY2.out).2.1 HLY.out).mono ?_); rintro e w18 ⟨rfl, hb18⟩; have hB18 : Below W.heap.size W w18 := below_step (by with_reducible repeat (first | assumption | apply pw_below_drewN | apply below_drew1 | apply below_alloc)) hb18; have bF := (HK.out w18 hB18).2; have cF := bF.cell; have fF := bF.frozen; have HBF := Aside0.mk bF; clear hb18 bF))
        go_wp2
        have hb18 := hB18
        have bT := HBF.out.set (.bool true)
        have hBT := (HF.out.2.1.trans (hb18.mono HF.out.2.1.size)).setCell (p := ⟨w.heap.size + 1, 0, none⟩) (Nat.le_succ _) (.bool true)
        have hKD2 : (w18.setCell ⟨w.heap.size + 1, 0, none⟩ (.bool true)).heap[D]? = some (.deferred (some [])) :=
          (Below.heap_setCell w18 ⟨w.heap.size + 1, 0, none⟩ (.bool true) D (by show D ≠ w.heap.size + 1; omega)).trans ((hb18.block D (Array.getElem?_eq_some_iff.1 HF.out.2.2.1).1).trans HF.out.2.2.1)
        obtain ⟨wz, hwz⟩ : ∃ q, w18.setCell ⟨w.heap.size + 1, 0, none⟩ (.bool true) = q := ⟨_, rfl⟩
        rw [hwz] at bT hBT hKD2 ⊢
        refine ⟨by simp, .inl ⟨_, _, rfl, run_takeDeferred hKD2, ?_⟩⟩
        have hc5 := cell_kept bT.cell (grownBy_putObj' _ D (.deferred none)) (fun r e => by cases e; exact ⟨_, hKD2, rfl⟩)
        refine ⟨.bool true, ?_, rfl, hBT.trans (belowK_b (w := w) (Nat.le_refl _) wz D _ _ (by omega) hKD2 rfl rfl)⟩
        simp [results, Try.f5, go_sem, hc5]
theorem tourkeep1_SetsMembers.walk (a0 : Option Addr) (len0 cap0 : Nat) (z0 : List Int) (a1 : Int) (w : World) (w0 : (a0 = none ∧ len0 = 0 ∧ cap0 = 0 ∧ z0 = []) ∨ ∃ x, a0 = some x ∧ len0 ≤ cap0 ∧ cap0 ≤ maxLen ∧ z0.length = cap0 ∧ (∀ i, i < z0.length → w.cell? (x.add i) = some (.int .i64 (z0.getD i 0))) ∧ ∀ n ∈ z0, (Lit.int .i64 n).wf = true) (y0 : len0 * 8 ≤ 140737488351232) :
    Calls Try.prog 5 #[.slice a0 len0 cap0, .int .i64 a1] w fun e w' => e = .returned (.bool true) ∧ Below w.heap.size w w' := by
  obtain ⟨l0, rfl, hr0, hm0, hw0, hc0⟩ := ReadsInt.ofRowC w0
  exact tourkeep1_SetsMembers.calls _ _ l0 a1 w (Kd.C_of_reads (d := (0 : Int)) (h1 := fun _ => rfl) hr0) hc0 y0
end Go.Proofs.Ytknmlikjmnhgkaa.P
