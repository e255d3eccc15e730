/- Package queue: Take. Under way. No condition. -/
import Derived.Deep.RegionLaw
import Derived.BigRegion
import Derived.Test.YtknmlikjmnhgkaaQQueue
namespace Go.Proofs.Ytknmlikjmnhgkaa.P
open Go.RowKit Go.Proofs.YtknmlikjmnhgkaaW.PrintWords Go.Proofs.YtknmlikjmnhgkaaW.PrintLast Go.Proofs.YtknmlikjmnhgkaaW.PrintMore
set_option linter.unusedVariables false
set_option linter.unusedSimpArgs false

set_option maxHeartbeats 4000000 in
set_option maxRecDepth 100000 in
theorem Q_take0 (w : World) (w0 : World) (g : Nat) (n : Int) (h : IsQ w0 w g [] n) : Calls Try.prog 14 #[.pointer (some ⟨g, 0, none⟩)] w fun e w' => e = .returned (.tuple #[.int .i64 0, .int .i64 0, .int .i64 4]) ∧ w = w' := by
  obtain ⟨v0, hb, hg, hR⟩ := h
  obtain ⟨A, c, rfl⟩ := Kd.R_slice hR
  have c0 : w.cell? ⟨g, 0, none⟩ = some (.slice A 0 c) := by simp [World.cell?, hb]
  clear hR hb hg
  go_enter Try.func14, Try.ntmps14
  go_wp2
  refine bodyPost_ret (results_tmp3 rfl _ _ _) rfl ?_
  exact ⟨rfl, rfl⟩
/-- in the midst of Take: the queue's block, its row of m items, the item that was first -/
def TakeAt (w0 v0 W : World) (g gb m cap ko : Nat) (n : Int) (x0 : It Int) (l : List (It Int)) : Prop :=
  W.heap[g]? = some (.cells #[.slice (some ⟨gb, 0, none⟩) m cap, .int .i64 n] 27 (0, 0)) ∧
  Kd.R itK 84 W w0.heap.size (fun _ => True) (.slice (some ⟨gb, 0, none⟩) m cap) l ∧ Below w0.heap.size w0 W ∧
  W.heap[ko]? = some (.cells #[.int .i64 x0.1, .int .i64 x0.2.1, .int .i64 x0.2.2] 84 (0, 0)) ∧ ko ≠ g ∧ ko ≠ gb ∧ v0.heap.size ≤ W.heap.size ∧ ∀ k, k < v0.heap.size → k ≠ g → k ≠ gb → W.heap[k]? = v0.heap[k]?
theorem TakeAt.size {w0 v0 W : World} {g gb m cap ko : Nat} {n : Int} {x0 : It Int} {l : List (It Int)} (h : TakeAt w0 v0 W g gb m cap ko n x0 l) : v0.heap.size ≤ W.heap.size := h.2.2.2.2.2.2.1
theorem TakeAt.below {w0 v0 W W' : World} {g gb m cap ko : Nat} {n : Int} {x0 : It Int} {l : List (It Int)} (h : TakeAt w0 v0 W g gb m cap ko n x0 l) (hb : Below W.heap.size W W') : TakeAt w0 v0 W' g gb m cap ko n x0 l :=
  ⟨(hb.block g (blk_lt h.1)).trans h.1, Kd.R_below h.2.1 hb, h.2.2.1.trans (hb.mono h.2.2.1.size), (hb.block ko (blk_lt h.2.2.2.1)).trans h.2.2.2.1, h.2.2.2.2.1, h.2.2.2.2.2.1, Nat.le_trans h.size hb.size, fun k hk h1 h2 => (hb.block k (Nat.lt_of_lt_of_le hk h.size)).trans (h.2.2.2.2.2.2.2 k hk h1 h2)⟩
theorem TakeAt.seti {w0 v0 W : World} {g gb m cap ko : Nat} {n : Int} {x0 : It Int} {l : List (It Int)} (h : TakeAt w0 v0 W g gb m cap ko n x0 l) (i : Nat) (hi : i < l.length) (x : It Int) :
    TakeAt w0 v0 (((W.setCell ⟨gb, i * 3, none⟩ (.int .i64 x.1)).setCell ⟨gb, i * 3 + 1, none⟩ (.int .i64 x.2.1)).setCell ⟨gb, i * 3 + 2, none⟩ (.int .i64 x.2.2)) g gb m cap ko n x0 (l.set i x) := by
  obtain ⟨h1, h2, h3⟩ := Q_seti h.1 h.2.1 h.2.2.1 i hi x
  exact ⟨h1, h2, h3, (set3_far h.2.2.2.2.2.1 _ _ _).trans h.2.2.2.1, h.2.2.2.2.1, h.2.2.2.2.2.1, by simpa only [World.size_setCell] using h.size, fun k hk h1 h2 => (set3_far h2 _ _ _).trans (h.2.2.2.2.2.2.2 k hk h1 h2)⟩
theorem TakeAt.frozen {w0 v0 W : World} {g gb m cap ko : Nat} {n : Int} {x0 : It Int} {l : List (It Int)} (h : TakeAt w0 v0 W g gb m cap ko n x0 l) (hl : 0 < l.length) (j : Nat) : W.frozen? ⟨gb, j, none⟩ = false := by
  obtain ⟨gq, cq, eq, _, _, cells, hcells⟩ := Kd.R_form h.2.1 hl
  injection eq with eq _ _
  injection eq with eq
  injection eq with eq
  exact blk_frozen (eq ▸ hcells) j
theorem TakeAt.cells {w0 v0 W : World} {g gb m cap ko : Nat} {n : Int} {x0 : It Int} {l : List (It Int)} (h : TakeAt w0 v0 W g gb m cap ko n x0 l) (i : Nat) (hi : i < l.length) :
    W.cell? ⟨gb, i * 3, none⟩ = some (.int .i64 (at0 l i).1) ∧ W.cell? ⟨gb, i * 3 + 1, none⟩ = some (.int .i64 (at0 l i).2.1) ∧ W.cell? ⟨gb, i * 3 + 2, none⟩ = some (.int .i64 (at0 l i).2.2) := by
  have hm := (Kd.R_reads' h.2.1).1
  obtain ⟨c, hc, hM, hcell, _⟩ := Kd.R_elem h.2.1 (default, 0, 0) (i : Int) (by omega) (by omega)
  rw [itK_M] at hM
  subst hM
  exact ⟨hcell 0 _ rfl, hcell 1 _ rfl, hcell 2 _ rfl⟩
theorem TakeAt.before {w0 v0 W : World} {g gb m cap ko : Nat} {n : Int} {x0 : It Int} {l : List (It Int)} (h : TakeAt w0 v0 W g gb m cap ko n x0 l) (i k : Nat) (hi : i < m) (hk : k < m) {ii kk : Int} (ei : ii = (i : Int)) (ek : kk = (k : Int)) :
    Calls Try.prog 51 #[.pointer (some ⟨g, 0, none⟩), .int .i64 ii, .int .i64 kk] W fun e w' => e = .returned (.bool (ltI (at0 l i) (at0 l k))) ∧ TakeAt w0 v0 w' g gb m cap ko n x0 l := by
  subst ei ek
  have hm := (Kd.R_reads' h.2.1).1
  have ci := h.cells i (by omega)
  have ck := h.cells k (by omega)
  refine (queue_before.calls g gb m cap i k _ _ _ _ _ _ W (cell_q0 h.1) hi hk ci.1 ci.2.1 ci.2.2 ck.1 ck.2.1 ck.2.2 _ rfl).mono ?_
  rintro e w5 ⟨rfl, hb5⟩
  exact ⟨rfl, h.below hb5⟩
theorem TakeAt.cut {w0 v0 W : World} {g gb m k cap ko : Nat} {n : Int} {x0 : It Int} {l : List (It Int)} (h : TakeAt w0 v0 W g gb k cap ko n x0 l) (hg : w0.heap.size ≤ g) (hm : m ≤ l.length) :
    TakeAt w0 v0 (W.setCell ⟨g, 0, none⟩ (.slice (some ⟨gb, 0, none⟩) m cap)) g gb m cap ko n x0 (l.take m) := by
  refine ⟨by simpa using blk_set h.1 0 (.slice (some ⟨gb, 0, none⟩) m cap), Kd.R_set (Kd.R_take h.2.1 hm) h.1 (by decide) 0 _, h.2.2.1.setCell (p := ⟨g, 0, none⟩) hg _, ?_, h.2.2.2.2.1, h.2.2.2.2.2.1, by simpa only [World.size_setCell] using h.size, fun k hk h1 h2 => (Below.heap_setCell _ ⟨g, 0, none⟩ _ k h1).trans (h.2.2.2.2.2.2.2 k hk h1 h2)⟩
  exact (Below.heap_setCell _ ⟨g, 0, none⟩ _ ko h.2.2.2.2.1).trans h.2.2.2.1
set_option maxHeartbeats 4000000 in
set_option maxRecDepth 100000 in
theorem Q_takeK (w : World) (w0 : World) (g : Nat) (l : List (It Int)) (n : Int) (m : Nat) (h : IsQ w0 w g l n) (hB : Below w0.heap.size w0 w) (hl : l.length = m + 1) (hm : m < 4096) : Calls Try.prog 14 #[.pointer (some ⟨g, 0, none⟩)] w fun e w' => e = .returned (.tuple #[.int .i64 (at0 l 0).1, .int .i64 (at0 l 0).2.1, .int .i64 0]) ∧ IsQ w0 w' g (down 0 m ((l.set 0 (at0 l m)).take m)) n ∧ Below w0.heap.size w0 w' ∧ ∀ k cells t, w.heap[k]? = some (.cells cells t (0, 0)) → t ≠ 84 → k ≠ g → w'.heap[k]? = w.heap[k]? := by
  obtain ⟨gb, cap, hb, hcap, hgb, hne, hR, hcs⟩ := h.cells (by omega)
  obtain ⟨_, _, hg, _⟩ := h
  have hbl : gb < w.heap.size := by
    obtain ⟨_, _, eq, _, h1, _⟩ := Kd.R_form hR (by omega)
    injection eq with eq _ _
    injection eq with eq
    injection eq with eq
    exact eq ▸ h1
  have cs0 := hcs 0 (by omega)
  have csm := hcs m (by omega)
  obtain ⟨x0, hx0⟩ : ∃ x, at0 l 0 = x := ⟨_, rfl⟩
  obtain ⟨xm, hxm⟩ : ∃ x, at0 l m = x := ⟨_, rfl⟩
  unfold at0 at hx0 hxm
  rw [hx0, Nat.zero_mul] at cs0
  rw [hxm] at csm
  rw [hl] at hb hR hcap
  have HL := Aside0.mk hl
  have HX0 := Aside0.mk hx0
  have HXM := Aside0.mk hxm
  have HB := Aside0.mk hB
  have HR := Aside0.mk hR
  have HG := Aside0.mk hb
  have HGE := Aside0.mk hg
  have HCS := Aside0.mk csm
  have HGB := Aside0.mk (show ∃ cells, w.heap[gb]? = some (.cells cells 84 (0, 0)) from by
    obtain ⟨_, _, eq, _, _, cells, h1⟩ := Kd.R_form hR (by omega)
    injection eq with eq _ _
    injection eq with eq
    injection eq with eq
    exact ⟨cells, eq ▸ h1⟩)
  have hgl : g < w.heap.size := blk_lt hb
  have HGL := Aside0.mk hgl
  have HBL := Aside0.mk hbl
  have HNE := Aside0.mk hne
  have HCAP := Aside0.mk hcap
  obtain ⟨i0, i1, i2⟩ := cs0
  have c0 := cell_q0 hb
  have f2 : ((m + 1 : Nat) : Int) = (m : Int) + 1 := by omega
  have f3 : (0 : Int) < (m : Int) + 1 := by omega
  have f4 : (m : Int) < (m : Int) + 1 := by omega
  have f5 : wrap64 (m : Int) = (m : Int) := by unfold wrap64; omega
  have f6 : decide ((m : Int) < 0) = false := decide_eq_false (by omega)
  have f7 : 0 < m + 1 := by omega
  have f8 : m < m + 1 := by omega
  unfold at0
  rw [hx0, hxm]
  obtain ⟨L, hL⟩ : ∃ L, List.take m (l.set 0 xm) = L := ⟨_, rfl⟩
  rw [hL]
  have HLL := Aside0.mk hL
  clear hL hB hR hb hg hcs csm hgl hbl hne hl hx0 hxm hcap
  go_enter Try.func14, Try.ntmps14
  go_wp2_with (fail)
  obtain ⟨w1, hw1⟩ : ∃ W, w.alloc (.cells #[.int .i64 x0.1, .int .i64 x0.2.1, .int .i64 x0.2.2] 84) = W := ⟨_, rfl⟩
  rw [hw1]
  have HT := Aside0.mk (show TakeAt w0 w w1 g gb (m + 1) cap w.heap.size n x0 l from by
    rw [← hw1]
    exact ⟨(below_alloc (Below.refl _ _) _).block g HGL.out |>.trans HG.out, Kd.R_alloc HR.out _, HB.out.alloc HB.out.size _, Array.getElem?_push_size, fun h => by have := HGL.out; omega, fun h => by have := HBL.out; omega, by rw [World.size_alloc]; omega, fun k hk _ _ => (below_alloc (Below.refl _ _) _).block k hk⟩)
  obtain ⟨ko, hko⟩ : ∃ k, w.heap.size = k := ⟨_, rfl⟩
  rw [hko] at HT ⊢
  clear i0 i1 i2 c0 hw1
  have c0 := cell_q0 HT.out.1
  obtain ⟨j0, j1, j2⟩ := HT.out.cells m (by rw [HL.out]; exact f8)
  unfold at0 at j0 j1 j2
  rw [HXM.out] at j0 j1 j2
  obtain ⟨i0, i1, i2⟩ := HT.out.cells 0 (by rw [HL.out]; exact f7)
  unfold at0 at i0 i1 i2
  rw [HX0.out, Nat.zero_mul] at i0 i1 i2
  have z0 := HT.out.frozen (by rw [HL.out]; exact f7) 0
  have z1 := HT.out.frozen (by rw [HL.out]; exact f7) 1
  have z2 := HT.out.frozen (by rw [HL.out]; exact f7) 2
  go_region
  all_goals
    have X1 := HT.out.seti 0 (by rw [HL.out]; exact f7) xm
    rw [Nat.zero_mul] at X1
    have HT2 := Aside0.mk (X1.below (below_drew (Below.refl _ _)))
    obtain ⟨w2, hw2⟩ : ∃ W, (((w1.setCell ⟨gb, 0, none⟩ (.int .i64 xm.1)).setCell ⟨gb, 1, none⟩ (.int .i64 xm.2.1)).setCell ⟨gb, 2, none⟩ (.int .i64 xm.2.2)).drew = W := ⟨_, rfl⟩
    rw [hw2]
    have HT2 := Aside0.mk (show TakeAt w0 w w2 g gb (m + 1) cap ko n x0 (l.set 0 xm) from hw2 ▸ HT2.out)
    clear X1 hw2 i0 i1 i2 j0 j1 j2 z0 z1 z2 c0
    have c0 := cell_q0 HT2.out.1
    have HL2 := Aside0.mk (show (l.set 0 xm).length = m + 1 from by rw [List.length_set]; exact HL.out)
    obtain ⟨j0, j1, j2⟩ := HT2.out.cells m (by rw [HL2.out]; exact f8)
    have z0 := HT2.out.frozen (by rw [HL2.out]; exact f7) (m * 3)
    have z1 := HT2.out.frozen (by rw [HL2.out]; exact f7) (m * 3 + 1)
    have z2 := HT2.out.frozen (by rw [HL2.out]; exact f7) (m * 3 + 2)
    go_upto_region 7 with (fail)
    go_cut [43] (fun v43 wc => v43 = .pointer (some ⟨gb, m * 3, none⟩) ∧ Aside0 (TakeAt w0 w wc g gb (m + 1) cap ko n x0 ((l.set 0 xm).set m (default, 0, 0))))
    case rest =>
      obtain ⟨rfl, HT3⟩ := hcut
      clear j0 j1 j2 z0 z1 z2 c0
      have c0 := cell_q0 HT3.out.1
      have z0 := blk_frozen HT3.out.1 0
      have HL3 := Aside0.mk (show ((l.set 0 xm).set m (default, 0, 0)).length = m + 1 from by rw [List.length_set]; exact HL2.out)
      have f9 : (0 : Int) ≤ (m : Int) := by omega
      have f10 : (m : Int) ≤ (cap : Int) := by have := HCAP.out; omega
      have f11 : m ≤ cap := by have := HCAP.out; omega
      go_upto_region 9 with (fail)
      obtain ⟨w4, hw4⟩ : ∃ W, wc.setCell ⟨g, 0, none⟩ (.slice (some ⟨gb, 0, none⟩) m cap) = W := ⟨_, rfl⟩
      rw [hw4]
      have HL4 := Aside0.mk (show L.length = m from by rw [← HLL.out, List.length_take, HL2.out]; omega)
      have HT4 := Aside0.mk (show TakeAt w0 w w4 g gb m cap ko n x0 L from by
        have := HT3.out.cut HGE.out (m := m) (by rw [HL3.out]; omega)
        rw [hw4] at this
        rwa [show List.take m ((l.set 0 xm).set m (default, 0, 0)) = L from by rw [← HLL.out, List.take_set, List.set_eq_of_length_le (by rw [List.length_take]; omega)]] at this)
      clear c0 z0 hw4 HT3
      go_wp2_with (fail)
      go_loopg [8] m (fun kq v8 w' => ∃ (i : Nat) (l1 : List (It Int)), v8 = .int .i64 (i : Int) ∧ Aside0 (kq = m - i ∧ i ≤ m ∧ l1.length = m ∧ down i m l1 = down 0 m L) ∧ Aside0 (TakeAt w0 w w' g gb m cap ko n x0 l1))
      case atStart => exact ⟨0, L, rfl, ⟨rfl, by omega, HL4.out, rfl⟩, HT4⟩
      case round =>
        obtain ⟨i, l1, rfl, HI, HS⟩ := hrel
        have e0 : i < 4097 := by have := HI.out.2.1; omega
        have e1 : wrap64 (2 * (i : Int)) = 2 * (i : Int) := by unfold wrap64; omega
        have e2 : wrap64 (2 * (i : Int) + 1) = 2 * (i : Int) + 1 := by unfold wrap64; omega
        have e3 : wrap64 (2 * (i : Int) + 1 + 1) = 2 * (i : Int) + 2 := by unfold wrap64; omega
        have HE := Aside0.mk (And.intro e0 (And.intro e1 (And.intro e2 e3)))
        go_upto_region 11 with (fail)
        go_cut [66] (fun v66 wc => v66 = .bool (decide (2 * i + 2 < m ∧ ltI (at0 l1 (2 * i + 2)) (at0 l1 (2 * i + 1)) = true)) ∧ Aside0 (TakeAt w0 w wc g gb m cap ko n x0 l1))
        case rest =>
          obtain ⟨rfl, HS2⟩ := hcut
          go_upto_if 66 with (fail)
          go_cut [9] (fun v9 wc => v9 = .int .i64 (kid i m l1 : Int) ∧ Aside0 (TakeAt w0 w wc g gb m cap ko n x0 l1))
          case rest =>
            obtain ⟨rfl, HS3⟩ := hcut
            have hki : i < kid i m l1 := kid_gt i m l1
            have hkm : kid i m l1 < 10000 := by
              have := HE.out.1
              unfold kid
              split <;> omega
            have HD := Aside0.mk (fun h => down_step i m l1 h)
            have HD2 := Aside0.mk (fun h => down_stop i m l1 h)
            generalize kid i m l1 = k at hki hkm HD HD2
            clear e1 e2 e3
            go_upto_region 13 with (fail)
            go_cut [77] (fun v77 wc => v77 = .bool (decide (¬ (k < m ∧ ltI (at0 l1 i) (at0 l1 k) = false))) ∧ Aside0 (TakeAt w0 w wc g gb m cap ko n x0 l1))
            case rest =>
              obtain ⟨rfl, HS4⟩ := hcut
              by_cases hk : k < m ∧ ltI (at0 l1 i) (at0 l1 k) = false
              · rw [decide_eq_false (not_not_intro hk)]
                obtain ⟨xi, hxi⟩ : ∃ x, at0 l1 i = x := ⟨_, rfl⟩
                obtain ⟨xk, hxk⟩ : ∃ x, at0 l1 k = x := ⟨_, rfl⟩
                have q1 : i < m := by omega
                have q2 : k < m := hk.1
                have q3 : (i : Int) < (m : Int) := by omega
                have q4 : (k : Int) < (m : Int) := by omega
                have ci := HS4.out.cells i (by rw [HI.out.2.2.1]; exact q1)
                have ck := HS4.out.cells k (by rw [HI.out.2.2.1]; exact q2)
                rw [hxi] at ci
                rw [hxk] at ck
                obtain ⟨ci0, ci1, ci2⟩ := ci
                obtain ⟨ck0, ck1, ck2⟩ := ck
                have g0 := cell_q0 HS4.out.1
                have hgl : g < wc.heap.size := lt_cell g0
                have z0 := HS4.out.frozen (by rw [HI.out.2.2.1]; omega) (i * 3)
                have z1 := HS4.out.frozen (by rw [HI.out.2.2.1]; omega) (i * 3 + 1)
                have z2 := HS4.out.frozen (by rw [HI.out.2.2.1]; omega) (i * 3 + 2)
                have z3 := HS4.out.frozen (by rw [HI.out.2.2.1]; omega) (k * 3)
                have z4 := HS4.out.frozen (by rw [HI.out.2.2.1]; omega) (k * 3 + 1)
                have z5 := HS4.out.frozen (by rw [HI.out.2.2.1]; omega) (k * 3 + 2)
                have HXX := Aside0.mk (show swp l1 i k = (l1.set i xk).set k xi from by unfold swp; rw [hxi, hxk])
                have HDD := Aside0.mk ((HD.out hk).symm.trans HI.out.2.2.2)
                clear hxi hxk hk HD HD2
                go_wp2_with (fail)
                go_region
                all_goals
                  have X1 := HS4.out.seti i (by rw [HI.out.2.2.1]; exact q1) xk
                  have X2 := X1.seti k (by rw [List.length_set, HI.out.2.2.1]; exact q2) xi
                  obtain ⟨w6, hw6⟩ : ∃ W, ((((((wc.setCell ⟨gb, i * 3, none⟩ (.int .i64 xk.1)).setCell ⟨gb, i * 3 + 1, none⟩ (.int .i64 xk.2.1)).setCell ⟨gb, i * 3 + 2, none⟩ (.int .i64 xk.2.2)).setCell ⟨gb, k * 3, none⟩ (.int .i64 xi.1)).setCell ⟨gb, k * 3 + 1, none⟩ (.int .i64 xi.2.1)).setCell ⟨gb, k * 3 + 2, none⟩ (.int .i64 xi.2.2)) = W := ⟨_, rfl⟩
                  rw [hw6] at X2 ⊢
                  rw [← HXX.out] at X2
                  have HX := Aside0.mk (X2.below (below_drew (Below.refl _ _)))
                  clear X1 X2 ci0 ci1 ci2 ck0 ck1 ck2 z0 z1 z2 z3 z4 z5 g0 hw6
                  go_wp2
                  go_roundg (m - k)
                  case measure => have := HI.out.1; omega
                  case rel =>
                    exact ⟨k, swp l1 i k, rfl, ⟨rfl, by omega, by rw [swp_length]; exact HI.out.2.2.1, HDD.out⟩, HX⟩
              · rw [decide_eq_true hk]
                have HDD := Aside0.mk ((HD2.out hk).symm.trans HI.out.2.2.2)
                have o0 := blk_cell HS4.out.2.2.2.1 0
                have o1 := blk_cell HS4.out.2.2.2.1 1
                simp only [List.getElem?_toArray, List.getElem?_cons_zero, List.getElem?_cons_succ] at o0 o1
                clear hk HD HD2
                go_wp2
                go_quiet (fail)
                go_wp2
                refine bodyPost_ret (results_tmp3 rfl _ _ _) rfl ?_
                refine ⟨rfl, ⟨_, HS4.out.1, HGE.out, ?_⟩, pw_below_drewN HS4.out.2.2.1 _, ?_⟩
                · have := Kd.R_drewN HS4.out.2.1 nq
                  rwa [HDD.out] at this
                · intro k cells t hk ht hkg
                  refine HS4.out.2.2.2.2.2.2.2 k (blk_lt hk) hkg ?_
                  rintro rfl
                  obtain ⟨cells', hc'⟩ := HGB.out
                  rw [hk] at hc'
                  injection hc' with hc'
                  injection hc' with _ hc'
                  exact ht hc'
            case first =>
              by_cases hk : k < m
              · have h3 : decide ((m : Int) ≤ (k : Int)) = false := decide_eq_false (by omega)
                go_wp2_with (fail)
                refine (HS3.out.before i k (by omega) hk rfl rfl).mono ?_
                rintro e w5 ⟨rfl, HS5⟩
                have HS5 := Aside0.mk HS5
                go_wp2
                go_meet
                case rel => exact ⟨by by_cases h : ltI (at0 l1 i) (at0 l1 k) = true <;> simp [h] <;> omega, HS5⟩
              · have h3 : decide ((m : Int) ≤ (k : Int)) = true := decide_eq_true (by omega)
                go_wp2_with (fail)
                go_meet
                case rel => exact ⟨by simp [hk], HS3⟩
          case first =>
            obtain ⟨e0, e1, e2, e3⟩ := HE.out
            by_cases hk : 2 * i + 2 < m ∧ ltI (at0 l1 (2 * i + 2)) (at0 l1 (2 * i + 1)) = true
            · have hkk : kid i m l1 = 2 * i + 2 := by unfold kid; rw [if_pos hk]
              rw [decide_eq_true hk]
              go_wp2
              go_meet
              case rel => exact ⟨by rw [hkk, show ((2 * i + 2 : Nat) : Int) = 2 * (i : Int) + 1 + 1 from by omega], HS2⟩
            · have hkk : kid i m l1 = 2 * i + 1 := by unfold kid; rw [if_neg hk]
              rw [decide_eq_false hk]
              go_wp2
              go_meet
              case rel => exact ⟨by rw [hkk, show ((2 * i + 1 : Nat) : Int) = 2 * (i : Int) + 1 from by omega], HS2⟩
        case first =>
          by_cases h2 : 2 * i + 2 < m
          · have h3 : (2 * (i : Int) + 2) < (m : Int) := by omega
            go_wp2_with (fail)
            refine (HS.out.before (2 * i + 2) (2 * i + 1) h2 (by omega) (by omega) (by omega)).mono ?_
            rintro e w5 ⟨rfl, HS5⟩
            have HS5 := Aside0.mk HS5
            go_wp2
            go_meet
            case rel => exact ⟨by simp [h2], HS5⟩
          · have h3 : decide ((2 * (i : Int) + 2) < (m : Int)) = false := decide_eq_false (by omega)
            go_wp2_with (fail)
            go_meet
            case rel => exact ⟨by simp [h2], HS⟩
    go_wp2
    go_meet
    case rel => exact ⟨rfl, ⟨HT2.out.seti m (by rw [HL2.out]; exact f8) (default, 0, 0)⟩⟩
theorem Q_take (w : World) (w0 : World) (g : Nat) (l : List (It Int)) (n : Int) (m : Nat) (h : IsQ w0 w g l n) (hB : Below w0.heap.size w0 w) (hl : l.length = m + 1) (hm : m < 4096) : Calls Try.prog 14 #[.pointer (some ⟨g, 0, none⟩)] w fun e w' => e = .returned (.tuple #[.int .i64 (at0 l 0).1, .int .i64 (at0 l 0).2.1, .int .i64 0]) ∧ IsQ w0 w' g (down 0 m ((l.set 0 (at0 l m)).take m)) n ∧ Below w0.heap.size w0 w' :=
  (Q_takeK w w0 g l n m h hB hl hm).mono fun _ _ h => ⟨h.1, h.2.1, h.2.2.1⟩
end Go.Proofs.Ytknmlikjmnhgkaa.P
