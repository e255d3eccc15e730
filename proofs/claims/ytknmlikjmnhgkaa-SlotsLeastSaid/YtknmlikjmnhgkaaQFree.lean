/- Package slots: Free. Under way. No condition. -/
import Derived.Test.YtknmlikjmnhgkaaQSlots
namespace Go.Proofs.Ytknmlikjmnhgkaa.P
open Go.RowKit Go.Shelf Go.Proofs.YtknmlikjmnhgkaaW.PrintWords Go.Proofs.YtknmlikjmnhgkaaW.PrintLast Go.Proofs.YtknmlikjmnhgkaaW.PrintMore Go.Proofs.Ytknmlikjmnhgkaa.Pure
set_option linter.unusedVariables false
set_option linter.unusedSimpArgs false

set_option maxHeartbeats 4000000 in
set_option maxRecDepth 100000 in
theorem T_free0 (w w0 : World) (g : Nat) (gens used free : List Int) (n gen : Int) (h : IsT w0 w g gens used free) (hu : GoodS used) (h0 : 0 ≤ n) (h1 : n < 4096) (hi : hasB used n.toNat = true → n < gens.length) (ha : aliveF gens used n gen = false) :
    Calls Try.prog 40 #[.pointer (some ⟨g, 0, none⟩), .agg #[.int .i64 n, .int .i64 gen]] w fun e w' => e = .returned (.int .i64 4) ∧ Below w.heap.size w w' := by
  have B1 := below_alloc (Below.refl w.heap.size w) (.cells #[.int .i64 n, .int .i64 gen] 64)
  have hE : (w.alloc (.cells #[.int .i64 n, .int .i64 gen] 64)).heap[w.heap.size]? = some (.cells #[.int .i64 n, .int .i64 gen] 64 (0, 0)) := Array.getElem?_push_size
  have hT := h.below B1
  clear h
  go_enter Try.func40, Try.ntmps40
  go_upto_region 1 with (fail)
  obtain ⟨wa, hwa⟩ : ∃ W, w.alloc (.cells #[.int .i64 n, .int .i64 gen] 64) = W := ⟨_, rfl⟩
  rw [hwa] at B1 hE hT ⊢
  obtain ⟨k, hk⟩ : ∃ k, w.heap.size = k := ⟨_, rfl⟩
  have HB1 := Aside0.mk B1
  rw [hk] at hE ⊢
  have d0 := cell2_0 hE
  have d1 := cell2_1 hE
  have HT := Aside0.mk hT
  clear hwa B1 hT hE
  go_wp2_with (fail)
  refine (T_alive wa w0 g gens used free n gen HT.out hu h0 h1 hi).mono ?_
  rintro e w2 ⟨rfl, B2⟩
  rw [ha]
  have HB2 := Aside0.mk (HB1.out.trans (B2.mono HB1.out.size))
  clear B2 d0 d1
  go_wp2
  go_ret
  exact ⟨rfl, HB2.out⟩
set_option maxHeartbeats 4000000 in
set_option maxRecDepth 100000 in
theorem T_free (w w0 : World) (g : Nat) (gens used free : List Int) (n : Nat) (gen : Int) (h : IsT w0 w g gens used free) (hB : Below w0.heap.size w0 w) (hu : GoodS used) (hf : GoodS free) (hi : n < gens.length) (h1 : n < 4096) (ha : aliveF gens used n gen = true) (hg0 : 0 ≤ gen) (hg1 : gen + 1 < 1073741824) :
    Calls Try.prog 40 #[.pointer (some ⟨g, 0, none⟩), .agg #[.int .i64 n, .int .i64 gen]] w fun e w' => e = .returned (.int .i64 0) ∧ IsT w0 w' g (gens.set n (gen + 1)) (dif used (oneL n)) (uni free (oneL n)) ∧ Below w0.heap.size w0 w' ∧ Fr w w' g := by
  have B1 := below_alloc (Below.refl w.heap.size w) (.cells #[.int .i64 n, .int .i64 gen] 64)
  have hE : (w.alloc (.cells #[.int .i64 n, .int .i64 gen] 64)).heap[w.heap.size]? = some (.cells #[.int .i64 n, .int .i64 gen] 64 (0, 0)) := Array.getElem?_push_size
  have hT := h.below B1
  have hgl : g < w.heap.size := by obtain ⟨_, _, _, hb, _⟩ := h; exact blk_lt hb
  have hB1 := hB.trans (B1.mono hB.size)
  have hgen : rd gens n = gen := by unfold aliveF at ha; simp only [Bool.and_eq_true, beq_iff_eq] at ha; exact ha.2
  have hfr := (Fr.refl w g).below B1
  go_enter Try.func40, Try.ntmps40
  go_upto_region 1 with (fail)
  obtain ⟨wa, hwa⟩ : ∃ W, w.alloc (.cells #[.int .i64 n, .int .i64 gen] 64) = W := ⟨_, rfl⟩
  rw [hwa] at B1 hE hT hB1 hfr ⊢
  obtain ⟨k, hk⟩ : ∃ k, w.heap.size = k := ⟨_, rfl⟩
  have hkg : k ≠ g := by omega
  rw [hk] at hE ⊢
  have d0 := cell2_0 hE
  have d1 := cell2_1 hE
  have HT := Aside0.mk hT
  have HE := Aside0.mk hE
  have HB1 := Aside0.mk hB1
  have HF := Aside0.mk hfr
  have HKG := Aside0.mk hkg
  clear hwa hk B1 hT hE hB1 hfr h hB hgl hkg
  go_wp2_with (fail)
  refine (T_alive wa w0 g gens used free n gen HT.out hu (by omega) (by omega) (fun _ => by omega)).mono ?_
  rintro e w2 ⟨rfl, B2⟩
  rw [ha]
  have HT2 := Aside0.mk (HT.out.below B2)
  have HE2 := Aside0.mk ((B2.block k (blk_lt HE.out)).trans HE.out)
  have HB2 := Aside0.mk (HB1.out.trans (B2.mono HB1.out.size))
  have HF2 := Aside0.mk (HF.out.below B2)
  clear B2 d0 d1 HT HE HB1 HF
  obtain ⟨gb, c, A, B, hb, hgb, ⟨cs, hcs⟩, hcell⟩ := HT2.out.blk (by omega)
  have hx := hcell n hi
  rw [hgen] at hx
  have HBK := Aside0.mk hb
  have HC3 := Aside0.mk hcs
  have HGB := Aside0.mk hgb
  have c0 := cell3_0 hb
  have d0 := cell2_0 HE2.out
  have z0 := blk_frozen hcs n
  have f0 : (0 : Int) ≤ (n : Int) := by omega
  have f1 : (n : Int) < (gens.length : Int) := by omega
  have hw1 : IntKind.i64.wrap (gen + 1) = gen + 1 := by rw [IntKind.wrap_i64]; omega
  clear hb hgb hcs hcell
  go_upto_region 3 with (fail)
  go_region
  all_goals
    have HT3 := (HT2.out.seti HBK.out n hi (gen + 1)).below (below_drew (Below.refl _ _))
    have hkb : k ≠ gb := blk_ne HE2.out HC3.out (by decide)
    have hE3 : ((w2.setCell ⟨gb, n, none⟩ (.int .i64 (gen + 1))).drew).heap[k]? = _ := (Below.heap_setCell w2 ⟨gb, n, none⟩ _ k hkb).trans HE2.out
    have hB3 := below_drew (HB2.out.setCell (p := ⟨gb, n, none⟩) HGB.out (.int .i64 (gen + 1)))
    have hF3 := (HF2.out.set3 HC3.out n (.int .i64 (gen + 1))).below (below_drew (Below.refl _ _))
    have hRU : ∃ Au cu, IsT w0 ((w2.setCell ⟨gb, n, none⟩ (.int .i64 (gen + 1))).drew) g (gens.set n (gen + 1)) used free := ⟨0, 0, HT3⟩
    obtain ⟨w3, hw3⟩ : ∃ W, (w2.setCell ⟨gb, n, none⟩ (.int .i64 (gen + 1))).drew = W := ⟨_, rfl⟩
    rw [hw3] at HT3 hE3 hB3 hF3 ⊢
    have H3 := Aside0.mk (And.intro HT3 (And.intro hE3 (And.intro hB3 hF3)))
    clear HT3 hE3 hB3 hF3 hw3 hRU hx c0 d0 z0 HT2 HE2 HB2 HF2 HBK HC3 HGB
    go_upto_region 4 with (fail)
    go_cut [26] (fun v26 wc => Aside0 (IsT w0 wc g (gens.set n (gen + 1)) (dif used (oneL n)) free ∧ wc.heap[k]? = some (.cells #[.int .i64 n, .int .i64 gen] 64 (0, 0)) ∧ Below w0.heap.size w0 wc ∧ Fr w wc g))
    case rest =>
      have H4 := hcut
      obtain ⟨gb4, c4, A4, B4, b4, hgb4, ⟨cs4, hcs4⟩, hcell4⟩ := H4.out.1.blk (by rw [List.length_set]; omega)
      have hx := hcell4 n (by rw [List.length_set]; exact hi)
      have hr4 : rd (gens.set n (gen + 1)) n = gen + 1 := by
        unfold rd
        rw [Int.toNat_natCast, List.getD_eq_getElem?_getD, List.getElem?_set_self hi]
        rfl
      rw [hr4] at hx
      have c0 := cell3_0 b4
      have d0 := cell2_0 H4.out.2.1
      rw [List.length_set] at c0
      have d9 : gen + 1 < 1073741824 := hg1
      clear b4 hgb4 hcs4 hcell4 H3
      go_upto_region 5 with (fail)
      go_quiet (fail)
      have H5 := Aside0.mk (show IsT w0 (wc.drewN nq) g (gens.set n (gen + 1)) (dif used (oneL n)) free ∧ (wc.drewN nq).heap[k]? = some (.cells #[.int .i64 n, .int .i64 gen] 64 (0, 0)) ∧ Below w0.heap.size w0 (wc.drewN nq) ∧ Fr w (wc.drewN nq) g from
        ⟨H4.out.1.below (pw_below_drewN (Below.refl _ _) _), H4.out.2.1, pw_below_drewN H4.out.2.2.1 _, H4.out.2.2.2.below (pw_below_drewN (Below.refl _ _) _)⟩)
      obtain ⟨w5, hw5⟩ : ∃ W, wc.drewN nq = W := ⟨_, rfl⟩
      rw [hw5] at H5 ⊢
      clear hw5 hx c0 d0 H4 hcut hr4
      go_upto_region 6 with (fail)
      go_cut [45] (fun v45 wc => Aside0 (IsT w0 wc g (gens.set n (gen + 1)) (dif used (oneL n)) (uni free (oneL n)) ∧ Below w0.heap.size w0 wc ∧ Fr w wc g))
      case rest =>
        have H6 := hcut
        go_wp2
        go_ret
        exact ⟨rfl, H6.out⟩
      case first =>
        obtain ⟨vg, vu, vf, b1, b2, b3, b4, b5⟩ := H5.out.1
        obtain ⟨Au, cu, rfl⟩ := Kd.R_slice b5
        have c1 := cell3_2 b1
        have z1 := blk_frozen b1 2
        have d0 := cell2_0 H5.out.2.1
        have hgl3 : g < w5.heap.size := blk_lt b1
        have HB4 := Aside0.mk b5
        have HBB := Aside0.mk b1
        clear b1 b3 b4 b5
        go_region_with ((go_at_call 25; (with_reducible refine (sets_Set_With.calls Au cu free n (uni free (oneL n)) _ (Kd.R_reads' (by (with_reducible repeat (first | apply Kd.R_drewN | apply Kd.R_drew)); exact HB4.out)).2.2 (Kd.R_reads' HB4.out).2.1 (With_f free n)).mono ?_); rintro e w8 ⟨v8, rfl, hR8, hb8⟩; have c18 := (hb8.cell (p := ⟨g, 2, none⟩) (show g < w5.heap.size from hgl3)).trans c1; have z18 : w8.frozen? ⟨g, 2, none⟩ = false := blk_frozen ((hb8.block g (show g < w5.heap.size from hgl3)).trans HBB.out) 2; obtain ⟨A8, c8, rfl⟩ := Kd.R_slice hR8; have HR8 := Aside0.mk hR8; have HB8 := Aside0.mk hb8; clear hR8 hb8))
        all_goals
          have hb8 : Below w5.heap.size w5 w8 := by first | exact HB8.out | exact (below_drew (Below.refl _ _)).trans HB8.out
          have hT := (H5.out.1.below hb8).setf (Kd.R_lower HR8.out H5.out.2.2.1.size)
          have hB := (H5.out.2.2.1.trans (hb8.mono H5.out.2.2.1.size)).setCell (p := ⟨g, 2, none⟩) b2 (.slice A8 (uni free (oneL n)).length c8)
          have hF := (H5.out.2.2.2.below hb8).setg 2 (.slice A8 (uni free (oneL n)).length c8)
          have HX := Aside0.mk (And.intro hT (And.intro hB hF))
          clear hT hB hF hb8 c18 z18 c1 z1 d0
          go_wp2
          go_meet
          case rel => exact ⟨HX.out⟩
    case first =>
      obtain ⟨vg, vu, vf, b1, b2, b3, b4, b5⟩ := H3.out.1
      obtain ⟨Au, cu, rfl⟩ := Kd.R_slice b4
      have c1 := cell3_1 b1
      have z1 := blk_frozen b1 1
      have d0 := cell2_0 H3.out.2.1
      have hgl3 : g < w3.heap.size := blk_lt b1
      have HB4 := Aside0.mk b4
      have HBB := Aside0.mk b1
      clear b1 b3 b4 b5
      go_region_with ((go_at_call 26; (with_reducible refine (sets_Set_Without.calls Au cu used n (dif used (oneL n)) _ (Kd.R_reads' (by (with_reducible repeat (first | apply Kd.R_drewN | apply Kd.R_drew)); exact HB4.out)).2.2 (Kd.R_reads' HB4.out).2.1 (Without_f used n)).mono ?_); rintro e w8 ⟨v8, rfl, hR8, hb8⟩; have c18 := (hb8.cell (p := ⟨g, 1, none⟩) (show g < w3.heap.size from hgl3)).trans c1; have z18 : w8.frozen? ⟨g, 1, none⟩ = false := blk_frozen ((hb8.block g (show g < w3.heap.size from hgl3)).trans HBB.out) 1; obtain ⟨A8, c8, rfl⟩ := Kd.R_slice hR8; have HR8 := Aside0.mk hR8; have HB8 := Aside0.mk hb8; clear hR8 hb8))
      all_goals
        have hb8 : Below w3.heap.size w3 w8 := by first | exact HB8.out | exact (below_drew (Below.refl _ _)).trans HB8.out
        have hT := (H3.out.1.below hb8).setu (Kd.R_lower HR8.out H3.out.2.2.1.size)
        have hE := (Below.heap_setCell w8 ⟨g, 1, none⟩ (.slice A8 (dif used (oneL n)).length c8) k HKG.out).trans ((hb8.block k (blk_lt H3.out.2.1)).trans H3.out.2.1)
        have hB := (H3.out.2.2.1.trans (hb8.mono H3.out.2.2.1.size)).setCell (p := ⟨g, 1, none⟩) b2 (.slice A8 (dif used (oneL n)).length c8)
        have hF := (H3.out.2.2.2.below hb8).setg 1 (.slice A8 (dif used (oneL n)).length c8)
        have HX := Aside0.mk (And.intro hT (And.intro hE (And.intro hB hF)))
        clear hT hE hB hF hb8 c18 z18 c1 z1 d0
        go_wp2
        go_meet
        case rel => exact ⟨HX.out⟩
end Go.Proofs.Ytknmlikjmnhgkaa.P
