/- Package slots: Take when there is no slot left (printed by wip/gen/takefull.py). No condition. -/
import Derived.Test.YtknmlikjmnhgkaaQTakeT
namespace Go.Proofs.Ytknmlikjmnhgkaa.P
open Go.RowKit Go.Shelf Go.Proofs.YtknmlikjmnhgkaaW.PrintWords Go.Proofs.YtknmlikjmnhgkaaW.PrintLast Go.Proofs.YtknmlikjmnhgkaaW.PrintMore Go.Proofs.Ytknmlikjmnhgkaa.Pure
attribute [local go_sem] Oper.semAt_some
set_option linter.unusedVariables false
set_option linter.unusedSimpArgs false
set_option maxHeartbeats 4000000 in
set_option maxRecDepth 100000 in
theorem T_takeFull (w w0 : World) (g : Nat) (gens used free : List Int) (N : Nat) (hNN : nextN gens free = N) (h : IsT w0 w g gens used free) (hB : Below w0.heap.size w0 w) (hf : GoodS free) (hl : gens.length ≤ 256) (hN : N = 256) (hfl : ∀ x ∈ elems 0 free, 0 ≤ x ∧ x < gens.length) :
    Calls Try.prog 41 #[.pointer (some ⟨g, 0, none⟩)] w fun e w' => e = .returned (.tuple #[.agg #[.int .i64 0, .int .i64 0], .int .i64 6]) ∧ Below w0.heap.size w0 w' := by
  have HN := Aside0.mk hNN
  clear hNN
  have HX := Aside0.mk hf
  have HB0 := Aside0.mk hB
  have HFL := Aside0.mk hfl
  refine (callsIn_wide (n := 9)).1 ?_
  refine callsIn_of_wp_marks Try.func41 rfl trivial ?_ rfl
  refine wpIn_wide.2 ?_
  simp only [Try.ntmps41, List.size_toArray, List.length_cons, List.length_nil, Nat.reduceAdd, Nat.reduceSub, Array.replicate_succ, Array.replicate_zero, List.push_toArray, List.append_toArray, List.nil_append, List.cons_append]
  go_upto_region 1 with (fail)
  have B1 := below_alloc (Below.refl w.heap.size w) (.cells #[.int .i64 0, .int .i64 0] 64)
  have bE : (w.alloc (.cells #[.int .i64 0, .int .i64 0] 64)).heap[w.heap.size]? = some (.cells #[.int .i64 0, .int .i64 0] 64 (0, 0)) := Array.getElem?_push_size
  obtain ⟨wa, hwa⟩ : ∃ W, w.alloc (.cells #[.int .i64 0, .int .i64 0] 64) = W := ⟨_, rfl⟩
  have sza : wa.heap.size = w.heap.size + 1 := by rw [← hwa]; simp
  rw [hwa] at B1 bE ⊢
  have hT1 := h.below B1
  obtain ⟨vg, vu, vf, b1, b2, b3, b4, b5⟩ := hT1
  obtain ⟨Ag, cg, rfl⟩ := Kd.R_slice b3
  have c0 := cell3_0 b1
  have HT1 := Aside0.mk (h.below B1)
  have HB1 := Aside0.mk (hB.trans (B1.mono hB.size))
  have HBW := Aside0.mk B1
  have HE1 := Aside0.mk bE
  have HOWN := Aside0.mk (show ∀ vg vu vf, w.heap[g]? = some (.cells #[vg, vu, vf] 94 (0, 0)) → ∀ k, vg.ownBlock = some k → k < w.heap.size from by
    intro vg vu vf hv k e
    obtain ⟨vg', vu', vf', h1, _, h3, _⟩ := h
    rw [hv] at h1
    simp at h1
    obtain ⟨rfl, rfl, rfl⟩ := h1
    obtain ⟨inner, ho⟩ := Kd.R_own h3
    exact own_lt ho k e)
  have HGL := Aside0.mk (show g < w.heap.size from by obtain ⟨_, _, _, h1, _⟩ := h; exact blk_lt h1)
  clear b1 b2 b3 b4 b5 hwa
  go_upto_region 2 with (fail)
  have B2 := below_alloc (Below.refl wa.heap.size wa) (.cells #[.int .i64 gens.length] 3)
  have bN := Boxed.new wa 3 (.int .i64 gens.length)
  rw [sza] at bN
  obtain ⟨wb, hwb⟩ : ∃ W, wa.alloc (.cells #[.int .i64 gens.length] 3) = W := ⟨_, rfl⟩
  have szb : wb.heap.size = w.heap.size + 1 + 1 := by rw [← hwb, World.size_alloc, sza]
  rw [hwb] at B2 bN ⊢
  have hT2 := HT1.out.below B2
  have bE2 := (B2.block _ (blk_lt HE1.out)).trans HE1.out
  have HB2 := Aside0.mk (HB1.out.trans (B2.mono HB1.out.size))
  have HBW2 := Aside0.mk (HBW.out.trans (B2.mono HBW.out.size))
  clear hwb B1 B2 HT1 HB1 HE1 HBW c0 bE h hB
  have HT2 := Aside0.mk hT2
  have HE2 := Aside0.mk bE2
  have HN2 := Aside0.mk bN
  obtain ⟨vg, vu, vf, b1, b2, b3, b4, b5⟩ := hT2
  obtain ⟨Af, cf, rfl⟩ := Kd.R_slice b5
  have c2 := cell3_2 b1
  have HR5 := Aside0.mk b5
  clear b1 b2 b3 b4 b5 bE2 bN
  go_wp2_with (fail)
  refine (sets_Set_All.calls Af cf free wb (Kd.R_reads' HR5.out).2.2 (Kd.R_reads' HR5.out).2.1).mono ?_
  rintro e w9 ⟨rfl, v9, hcl9, hR9, hlt9, hb9⟩
  rw [walked_good HX.out] at hR9
  rw [szb] at hcl9 hR9 hlt9
  have HT9 := Aside0.mk (HT2.out.below hb9)
  have HE9 := Aside0.mk ((hb9.block _ (blk_lt HE2.out)).trans HE2.out)
  have HN9 := Aside0.mk (box_below HN2.out hb9)
  have HB9 := Aside0.mk (HB2.out.trans (hb9.mono HB2.out.size))
  have HBW9 := Aside0.mk (HBW2.out.trans (hb9.mono HBW2.out.size))
  have hv9 : ∀ b, v9.ownBlock = some b → w.heap.size + 1 + 1 < b ∧ b < w9.heap.size := fun b e => by
    have := (Kd.R_bound hR9).1 b e
    omega
  have hs9 : w.heap.size + 1 + 1 ≤ w9.heap.size := by have := hb9.size; omega
  clear hb9 HT2 HE2 HN2 HB2 HBW2 HR5 c2
  simp only [szb]
  clear szb sza
  go_wp2_with (fail)
  have hFAR : ∀ vg vu vf, w9.heap[g]? = some (.cells #[vg, vu, vf] 94 (0, 0)) → vg.ownBlock ≠ some (w.heap.size + 1) := by
    intro vg vu vf hv e
    have := HOWN.out vg vu vf ((HBW9.out.block g HGL.out).symm.trans hv) _ e
    omega
  have HFAR := Aside0.mk hFAR
  clear hFAR
  rename_i K1 hK1
  have REST : ∀ (D : Nat) (W : World), TkAt w0 w W g w.heap.size (w.heap.size + 1) D gens used free N (.int .i64 0, .int .i64 0) → w.heap.size ≤ D → K1 { tmps := #[.pointer (some ⟨g, 0, none⟩), undef, .pointer (some ⟨w.heap.size, 0, none⟩), .int .i64 0, .pointer (some ⟨w.heap.size + 1, 0, none⟩), undef, .pointer (some ⟨g, 0, none⟩), .pointer (some ⟨g, 0, none⟩), .pointer (some ⟨g, 0, none⟩), .slice Ag gens.length cg, .int .i64 gens.length, .pointer (some ⟨g, 0, none⟩), .pointer (some ⟨g, 0, none⟩), .pointer (some ⟨g, 2, none⟩), .slice Af free.length cf, .func (.func 58) #[] #[.pointer (some ⟨w.heap.size + 1 + 1, 0, none⟩)], undef, undef, undef, undef, undef, undef, undef, undef, undef, undef, undef, undef, undef, undef, undef, undef, undef, undef, undef, undef, undef, undef, undef, undef, undef, undef, undef, undef, undef, undef, undef, undef, undef, undef, undef, undef, undef, undef, undef, undef, undef, undef, undef, undef, undef, undef, undef, undef], defers := [{ target := Target.collected D, args := #[] }] } W := by
    intro D W hW hDle
    have HW := Aside0.mk hW
    clear hW
    dsimp only
    refine hK1 _ _ ?_
    obtain ⟨vg, vu, vf, b1, b2, b3, b4, b5⟩ := HW.out.t
    obtain ⟨Ag', cg', rfl⟩ := Kd.R_slice b3
    have HB1' := Aside0.mk b1
    have HR3 := Aside0.mk b3
    have c0 := cell3_0 b1
    have cN : W.cell? ⟨w.heap.size + 1, 0, none⟩ = some (.int .i64 (N : Int)) := by have := HW.out.n; simp [World.cell?, this]
    have d0 : ((N : Int) == 256) = true := by simp [hN]
    clear b1 b3 b4 b5
    have e0 := cell2_0 HW.out.e
    have e1 := cell2_1 HW.out.e
    have z0 := blk_frozen HW.out.e 0
    have z1 := blk_frozen HW.out.e 1
    go_wp2
    have n6 := HW.out.ne.2.2.2.2.1
    have t2 := blk_set (blk_set HW.out.e 0 (.int .i64 0)) 1 (.int .i64 0)
    have t3 := (HW.out.b.setCell (p := ⟨w.heap.size, 0, none⟩) HB0.out.size (.int .i64 0)).setCell (p := ⟨w.heap.size, 1, none⟩) HB0.out.size (.int .i64 0)
    have t5 : ((W.setCell ⟨w.heap.size, 0, none⟩ (.int .i64 0)).setCell ⟨w.heap.size, 1, none⟩ (.int .i64 0)).heap[D]? = _ := (Below.heap_setCell _ ⟨w.heap.size, 1, none⟩ _ D n6).trans ((Below.heap_setCell _ ⟨w.heap.size, 0, none⟩ _ D n6).trans HW.out.d)
    obtain ⟨wy, hwy⟩ : ∃ X, (W.setCell ⟨w.heap.size, 0, none⟩ (.int .i64 0)).setCell ⟨w.heap.size, 1, none⟩ (.int .i64 0) = X := ⟨_, rfl⟩
    rw [hwy] at t2 t3 t5 ⊢
    have t2 : wy.heap[w.heap.size]? = some (.cells #[.int .i64 0, .int .i64 0] 64 (0, 0)) := t2
    have c5 := cell_kept (cell2_0 t2) (grownBy_putObj' wy D (.deferred none)) (fun r e => by cases e; exact ⟨_, t5, rfl⟩)
    have c6 := cell_kept (cell2_1 t2) (grownBy_putObj' wy D (.deferred none)) (fun r e => by cases e; exact ⟨_, t5, rfl⟩)
    refine ⟨by simp, .inl ⟨_, _, rfl, run_takeDeferred t5, ?_⟩⟩
    refine ⟨.tuple #[.agg #[.int .i64 0, .int .i64 0], .int .i64 6], ?_, rfl, ?_⟩
    · simp [results, Try.f41, go_sem, c5, c6]
    · exact t3.trans (belowK_b (w := w) HB0.out.size wy D _ _ (by omega) t5 rfl rfl)
  refine (wpIn_wide (n := 9)).1 ?_
  refine wpIn_rangeFunc_ownG rfl (by omega) (gf := 58) (lb := #[.pointer (some ⟨w.heap.size + 1 + 1, 0, none⟩)]) rfl trivial (enters_of Try.func58 (by kernel_rfl) rfl)
    (sets_walk_stops Fence.wide (9 - 1) trivial rfl (by omega) (fun x => x ∈ elems 0 free) (w.heap.size + 1 + 1) (w.heap.size + 1 + 1 + 1) (fun _ => True) v9 free HX.out.len HX.out.words (fun _ h => h) w9 (by omega) hcl9 hR9) keepV_t (putObj_keepV (fun b e => (hv9 b e).2)) (Below.refl _ _) (fun _ => rfl)
    (fun pre W => (pre = [] ∧ Boxed W (w.heap.size + 1) 3 (.int .i64 gens.length)) ∧ KeepY (w.heap.size + 1) w9 W ∧ Below w.heap.size w W)
    (fun c pre W => ((c = .exit 0 ∧ ∃ x, pre = [x]) ∧ Boxed W (w.heap.size + 1) 3 (.int .i64 (pre.map (·.1)).getLast!)) ∧ KeepY (w.heap.size + 1) w9 W ∧ Below w.heap.size w W)
    (OwnFrom.and (OwnFrom.and (fun s A B row hs _ _ => hs) (Own.from (boxed_own _ 3 (fun (pre : List {x : Int // x ∈ elems 0 free}) => .int .i64 ((gens.length : Nat) : Int))) _)) (OwnFrom.and (keepY_own _ _) (ownFrom_below (by omega) (by omega))))
    (fun c => OwnFrom.and (OwnFrom.and (fun s A B row hs _ _ => hs) (Own.from (boxed_own _ 3 (fun (pre : List {x : Int // x ∈ elems 0 free}) => .int .i64 (pre.map (·.1)).getLast!)) _)) (OwnFrom.and (keepY_own _ _) (ownFrom_below (by omega) (by omega))))
    ⟨⟨rfl, HN9.out⟩, keepY_refl _ _, HBW9.out⟩
    (fun x => { tmps := #[.pointer (some ⟨g, 0, none⟩), undef, .pointer (some ⟨w.heap.size, 0, none⟩), .int .i64 0, .pointer (some ⟨w.heap.size + 1, 0, none⟩), .int .i64 x.1, .pointer (some ⟨g, 0, none⟩), .pointer (some ⟨g, 0, none⟩), .pointer (some ⟨g, 0, none⟩), .slice Ag gens.length cg, .int .i64 gens.length, .pointer (some ⟨g, 0, none⟩), .pointer (some ⟨g, 0, none⟩), .pointer (some ⟨g, 2, none⟩), .slice Af free.length cf, .func (.func 58) #[] #[.pointer (some ⟨w.heap.size + 1 + 1, 0, none⟩)], .int .i64 x.1, undef, undef, undef, undef, undef, undef, undef, undef, undef, undef, undef, undef, undef, undef, undef, undef, undef, undef, undef, undef, undef, undef, undef, undef, undef, undef, undef, undef, undef, undef, undef, undef, undef, undef, undef, undef, undef, undef, undef, undef, undef, undef, undef, undef, undef, undef, undef], defers := [] }) ?assign ?body ?done ?stop
  case assign =>
    intro l x W K hK
    gi_wp2
    first | exact hK | simpa using hK
  case body =>
    rintro l pre ⟨x, hx⟩ W ⟨⟨rfl, bn⟩, hK, hBW⟩ hlen
    have cN := bn.cell
    have fN := bn.frozen
    gi_wp2
    exact ⟨(KeepsOthers.setCell _ _ _).from _, ⟨⟨rfl, x, hx, rfl⟩, bn.set _⟩, keepY_set hK _, hBW.setCell (p := ⟨w.heap.size + 1, 0, none⟩) (Nat.le_succ _) _⟩
  case done =>
    rintro D ys W hD hys ⟨⟨rfl, bn⟩, hK, hBW⟩ hKD
    have hN0 : N = gens.length := by rw [← HN.out]; unfold nextN; rw [← hys]; rfl
    exact REST D W ⟨HT9.out.keepY HN9.out rfl HFAR.out hK, (hK.same _ (blk_lt HE9.out) (by omega)).trans HE9.out, by rw [hN0]; exact bn, HB0.out.trans (hBW.mono HB0.out.size), (Fr.refl w g).below hBW, hKD, fun a b c hv => HFAR.out a b c ((hK.same g (Nat.lt_of_lt_of_le HGL.out HBW9.out.size) (fun e => by have := HGL.out; omega)).symm.trans hv)⟩ (by omega)
  case stop =>
    rintro D c pre W hD hpre ⟨⟨⟨rfl, x, rfl⟩, bn⟩, hK, hBW⟩ hKD
    have hN0 : (N : Int) = x.1 := by
      rw [← HN.out]
      have h0 := (HFL.out x.1 x.2).1
      exact head_prefix hpre h0
    refine wpIn_wide.2 ?_
    refine wp_exit ?_
    exact REST D W ⟨HT9.out.keepY HN9.out rfl HFAR.out hK, (hK.same _ (blk_lt HE9.out) (by omega)).trans HE9.out, by rw [hN0]; exact bn, HB0.out.trans (hBW.mono HB0.out.size), (Fr.refl w g).below hBW, hKD, fun a b c hv => HFAR.out a b c ((hK.same g (Nat.lt_of_lt_of_le HGL.out HBW9.out.size) (fun e => by have := HGL.out; omega)).symm.trans hv)⟩ (by omega)
end Go.Proofs.Ytknmlikjmnhgkaa.P
