/- Package queue: Put. Under way. No condition. -/
import Derived.Deep.RegionLaw
import Derived.BigRegion
import Derived.Test.YtknmlikjmnhgkaaQQueue
namespace Go.Proofs.Ytknmlikjmnhgkaa.P
open Go.RowKit Go.Proofs.YtknmlikjmnhgkaaW.PrintWords Go.Proofs.YtknmlikjmnhgkaaW.PrintLast Go.Proofs.YtknmlikjmnhgkaaW.PrintMore
set_option linter.unusedVariables false
set_option linter.unusedSimpArgs false

set_option maxHeartbeats 4000000 in
set_option maxRecDepth 100000 in
theorem Q_put (w : World) (w0 : World) (g : Nat) (l : List (It Int)) (n r : Int) (v : Int) (h : IsQ w0 w g l n) (hB : Below w0.heap.size w0 w) (hl : l.length < 4096) (hn : 0 ≤ n ∧ n < 100000) : Calls Try.prog 13 #[.pointer (some ⟨g, 0, none⟩), .int .i64 v, .int .i64 r] w fun e w' => e = .returned (.int .i64 0) ∧ IsQ w0 w' g (up l.length (l ++ [(v, r, n)])) (n + 1) ∧ Below w0.heap.size w0 w' := by
  obtain ⟨v0, hb, hg, hR⟩ := h
  obtain ⟨A, c, rfl⟩ := Kd.R_slice hR
  have HB := Aside0.mk hB
  have HR := Aside0.mk hR
  have HG := Aside0.mk hb
  have HGE := Aside0.mk hg
  have c0 : w.cell? ⟨g, 0, none⟩ = some (.slice A l.length c) := by simp [World.cell?, hb]
  have c1 : w.cell? ⟨g, 1, none⟩ = some (.int .i64 n) := by simp [World.cell?, hb]
  have z0 := blk_frozen hb 0
  have z1 := blk_frozen hb 1
  have f0 : ¬ ((l.length : Int) ≥ 4096) := by omega
  have d0 : decide ((4096 : Int) ≤ (l.length : Int)) = false := decide_eq_false (by omega)
  clear hB hR hb hg
  go_enter Try.func13, Try.ntmps13
  go_wp2_with (fail)
  go_cut [27] (fun v27 wc => ∃ (b cap : Nat), v27 = .slice (some ⟨b, 0, none⟩) (l.length + 1) cap ∧ Aside0 (wc.heap[g]? = some (.cells #[.slice (some ⟨b, 0, none⟩) (l.length + 1) cap, .int .i64 n] 27 (0, 0)) ∧ Kd.R itK 84 wc w0.heap.size (fun _ => True) (.slice (some ⟨b, 0, none⟩) (l.length + 1) cap) (l ++ [(v, r, n)]) ∧ Below w0.heap.size w0 wc))
  case rest =>
    obtain ⟨b, cap, rfl, HC⟩ := hcut
    obtain ⟨hGc, hRc, hBc⟩ := HC.out
    have a0 := cell_q0 hGc
    have a1 := cell_q1 hGc
    have b0 := blk_frozen hGc 0
    have b1 := blk_frozen hGc 1
    have hw1 : IntKind.i64.wrap (n + 1) = n + 1 := by rw [IntKind.wrap_i64]; omega
    have hS := blk_set hGc 1 (.int .i64 (n + 1))
    have hRS := Kd.R_set hRc hGc (by decide) 1 (.int .i64 (n + 1))
    have hBS := hBc.setCell (p := ⟨g, 1, none⟩) HGE.out (.int .i64 (n + 1))
    obtain ⟨w3, hw3⟩ : ∃ W, wc.setCell ⟨g, 1, none⟩ (.int .i64 (n + 1)) = W := ⟨_, rfl⟩
    rw [hw3] at hS hRS hBS
    have a3 : w3.cell? ⟨g, 0, none⟩ = some (.slice (some ⟨b, 0, none⟩) (l.length + 1) cap) := cell_q0 hS
    have HS := Aside0.mk (And.intro hS (And.intro hRS hBS))
    clear hGc hRc hBc hS hRS hBS HC
    go_wp2_with (fail)
    go_loopg [7] l.length (fun kq v7 w' => ∃ l1 : List (It Int), v7 = .int .i64 (kq : Int) ∧ Aside0 (l1.length = l.length + 1 ∧ kq ≤ l.length ∧ up kq l1 = up l.length (l ++ [(v, r, n)])) ∧ Aside0 (w'.heap[g]? = some (.cells #[.slice (some ⟨b, 0, none⟩) (l.length + 1) cap, .int .i64 (n + 1)] 27 (0, 0)) ∧ Kd.R itK 84 w' w0.heap.size (fun _ => True) (.slice (some ⟨b, 0, none⟩) (l.length + 1) cap) l1 ∧ Below w0.heap.size w0 w'))
    case atStart => exact ⟨l ++ [(v, r, n)], by simp, ⟨by simp, Nat.le_refl _, rfl⟩, HS⟩
    case round =>
      obtain ⟨l1, rfl, HL, HS⟩ := hrel
      cases gk with
      | zero =>
        go_wp2
        go_ret
        have hup := HL.out.2.2
        rw [up_stop 0 l1 (by simp)] at hup
        refine ⟨rfl, hup ▸ ⟨_, HS.out.1, HGE.out, ?_⟩, HS.out.2.2⟩
        exact HS.out.2.1
      | succ k =>
        have hk : k < l.length := by have := HL.out.2.1; omega
        have e1 : wrap64 (k : Int) = (k : Int) := by unfold wrap64; omega
        have e2 : Int.tdiv (k : Int) 2 = ((k / 2 : Nat) : Int) := by rw [Int.tdiv_eq_ediv_of_nonneg (by omega)]; omega
        have e3 : wrap64 ((k / 2 : Nat) : Int) = ((k / 2 : Nat) : Int) := by unfold wrap64; omega
        have HE := Aside0.mk (And.intro e1 (And.intro e2 e3))
        have HQ := Aside0.mk (show IsQ w0 wr g l1 (n + 1) from ⟨_, HS.out.1, HGE.out, HS.out.2.1⟩)
        obtain ⟨gb2, cap2, hb2, _, _, hne2, _, hcs⟩ := HQ.out.cells (by have := HL.out.1; omega)
        have hsame : gb2 = b ∧ cap2 = cap := by
          have := hb2.symm.trans HS.out.1
          simp at this
          exact ⟨this.1, this.2.2⟩
        obtain ⟨rfl, rfl⟩ := hsame
        have ci := hcs (k + 1) (by have := HL.out.1; omega)
        have cp := hcs (k / 2) (by have := HL.out.1; omega)
        have HCI := Aside0.mk ci
        have HCP := Aside0.mk cp
        have HNE := Aside0.mk hne2
        clear ci cp hcs hb2 hne2
        have q0 := cell_q0 HS.out.1
        go_wp2_with (fail)
        refine (queue_before.calls g gb2 (l.length + 1) cap2 (k + 1) (k / 2) _ _ _ _ _ _ wr q0 (by omega) (by omega) HCI.out.1 HCI.out.2.1 HCI.out.2.2 HCP.out.1 HCP.out.2.1 HCP.out.2.2 _ rfl).mono ?_
        rintro e w5 ⟨rfl, hb5⟩
        have HS5 := Aside0.mk (And.intro ((hb5.block g (by have := lt_cell q0; exact this)).trans HS.out.1) (And.intro (Kd.R_below HS.out.2.1 hb5) (HS.out.2.2.trans (hb5.mono HS.out.2.2.size))))
        have HC5 := Aside0.mk (show ∀ p, p < wr.heap.size → ∀ j, w5.cell? ⟨p, j, none⟩ = wr.cell? ⟨p, j, none⟩ from fun p hp j => hb5.cell (p := ⟨p, j, none⟩) hp)
        clear hb5 q0
        by_cases hlt : ltI (at0 l1 (k + 1)) (at0 l1 (k / 2)) = true
        · have hf : ltI (at0 l1 (k + 1)) (at0 l1 (k / 2)) = true := hlt
          unfold ltI at0 at hf
          rw [hf]
          have g0 := cell_q0 HS5.out.1
          have hgl : g < wr.heap.size := lt_cell (cell_q0 HS.out.1)
          have hbl : gb2 < wr.heap.size := lt_cell HCI.out.1
          have ci0 := (HC5.out gb2 hbl _).trans HCI.out.1
          have ci1 := (HC5.out gb2 hbl _).trans HCI.out.2.1
          have ci2 := (HC5.out gb2 hbl _).trans HCI.out.2.2
          have cp0 := (HC5.out gb2 hbl _).trans HCP.out.1
          have cp1 := (HC5.out gb2 hbl _).trans HCP.out.2.1
          have cp2 := (HC5.out gb2 hbl _).trans HCP.out.2.2
          obtain ⟨cells, hcells⟩ : ∃ cells, w5.heap[gb2]? = some (.cells cells 84 (0, 0)) := by
            obtain ⟨gq, cq, eq, _, _, cells, hcells⟩ := Kd.R_form HS5.out.2.1 (by have := HL.out.1; omega)
            injection eq with eq _ _
            injection eq with eq
            injection eq with eq
            exact ⟨cells, eq ▸ hcells⟩
          have z0 := blk_frozen hcells ((k + 1) * 3)
          have z1 := blk_frozen hcells ((k + 1) * 3 + 1)
          have z2 := blk_frozen hcells ((k + 1) * 3 + 2)
          have z3 := blk_frozen hcells (k / 2 * 3)
          have z4 := blk_frozen hcells (k / 2 * 3 + 1)
          have z5 := blk_frozen hcells (k / 2 * 3 + 2)
          go_wp2_with (fail)
          go_region
          all_goals
            have X1 := Q_seti HS5.out.1 HS5.out.2.1 HS5.out.2.2 (k + 1) (by have := HL.out.1; omega) (l1[k / 2]?.getD (0, 0, 0))
            have X2 := Q_seti X1.1 X1.2.1 X1.2.2 (k / 2) (by rw [List.length_set]; have := HL.out.1; omega) (l1[k + 1]?.getD (0, 0, 0))
            obtain ⟨w6, hw6⟩ : ∃ W, ((((((w5.setCell ⟨gb2, (k + 1) * 3, none⟩ (.int .i64 (l1[k / 2]?.getD (0, 0, 0)).1)).setCell ⟨gb2, (k + 1) * 3 + 1, none⟩ (.int .i64 (l1[k / 2]?.getD (0, 0, 0)).2.1)).setCell ⟨gb2, (k + 1) * 3 + 2, none⟩ (.int .i64 (l1[k / 2]?.getD (0, 0, 0)).2.2)).setCell ⟨gb2, (k / 2) * 3, none⟩ (.int .i64 (l1[k + 1]?.getD (0, 0, 0)).1)).setCell ⟨gb2, (k / 2) * 3 + 1, none⟩ (.int .i64 (l1[k + 1]?.getD (0, 0, 0)).2.1)).setCell ⟨gb2, (k / 2) * 3 + 2, none⟩ (.int .i64 (l1[k + 1]?.getD (0, 0, 0)).2.2)) = W := ⟨_, rfl⟩
            rw [hw6] at X2 ⊢
            have HX := Aside0.mk (show w6.heap[g]? = _ ∧ Kd.R itK 84 w6 _ _ _ (swp l1 (k + 1) (k / 2)) ∧ _ from X2)
            have HU := Aside0.mk ((up_step (k + 1) l1 (by omega) hlt).symm.trans HL.out.2.2)
            have HW := Aside0.mk hw6
            clear X1 X2 ci0 ci1 ci2 cp0 cp1 cp2 z0 z1 z2 z3 z4 z5 g0 hw6 hcells
            obtain ⟨e1, e2, e3⟩ := HE.out
            go_wp2
            go_roundg (k / 2)
            case measure => omega
            case rel =>
              refine ⟨swp l1 (k + 1) (k / 2), ?_, ⟨?_, ?_, ?_⟩, ⟨?_, ?_, ?_⟩⟩
              · rw [show ((k / 2 : Nat) : Int) = (k : Int) / 2 from by omega]
              · rw [swp_length]; exact HL.out.1
              · omega
              · exact HU.out
              · exact HX.out.1
              · exact Kd.R_drew HX.out.2.1
              · exact below_drew HX.out.2.2
        · have hf : ltI (at0 l1 (k + 1)) (at0 l1 (k / 2)) = false := by simpa using hlt
          have hup := HL.out.2.2
          rw [up_stop (k + 1) l1 (by rw [show (k + 1 - 1) / 2 = k / 2 from by omega, hf]; simp)] at hup
          have HU := Aside0.mk hup
          clear hup hlt
          unfold ltI at0 at hf
          rw [hf]
          go_wp2
          go_ret
          exact ⟨rfl, HU.out ▸ ⟨_, HS5.out.1, HGE.out, HS5.out.2.1⟩, HS5.out.2.2⟩
  have HBd := Aside0.mk (below_drew HB.out)
  have HRd := Aside0.mk (Kd.R_drew HR.out)
  have c0a : (w.alloc (.cells #[.int .i64 v, .int .i64 r, .int .i64 n] 84)).cell? ⟨g, 0, none⟩ = some (.slice A l.length c) := ((below_alloc (Below.refl _ _) _).cell (p := ⟨g, 0, none⟩) (lt_cell c0)).trans c0
  have hl3 : (l.length + 1) * 24 ≤ 140737488355328 := by omega
  go_region_law (refine Kd.R_append_step itK (w0 := w0) (W := w.drew) w0.heap.size (by first | rfl | kernel_rfl) (.tmp 18) (.tmp 26) 25 84 (.agg #[.int .i64 0, .int .i64 0, .int .i64 0]) 24 rfl Try.underlying25 infoIt rfl (by decide) (by decide) (.slice A l.length c) l (v, r, n) [.int .i64 v, .int .i64 r, .int .i64 n] (fun _ => True) (fun _ => False) rfl rfl (itK_M.2 rfl) (fun _ hk => hk.elim) (fun _ _ => trivial) HRd.out HBd.out (below_size HBd.out) hl3 ?_; intro v1 w1 ho hb hg hat; obtain ⟨b, cap, rfl, hbb, hbs, cells, hcells⟩ := Kd.R_form ho (by simp); clear hbb hbs hcells; have ho1 := Aside0.mk ho; have hb1 := Aside0.mk hb; have hg1 := Aside0.mk hg; have HG1 := Aside0.mk (blk_grown (show w.drew.heap[g]? = some (.cells #[.slice A l.length c, .int .i64 n] 27 (0, 0)) from HG.out) hg1.out (by obtain ⟨_, inner, hown, _⟩ := HRd.out; exact own_ne hown (show w.drew.heap[g]? = some (.cells #[.slice A l.length c, .int .i64 n] 27 (0, 0)) from HG.out) (by decide))); have hz1 := blk_frozen HG1.out 0; have hz3 := blk_frozen HG1.out 1; have hz2 := cell_q0 HG1.out; have hz4 := cell_q1 HG1.out; clear ho hb hg hat)
  all_goals
    go_wp2
    go_meet
    case rel =>
      refine ⟨b, cap, rfl, ⟨?_, ?_, ?_⟩⟩
      · have := blk_set HG1.out 0 (.slice (some ⟨b, 0, none⟩) (l.length + 1) cap)
        simpa using this
      · have := Kd.R_set ho1.out HG1.out (by decide) 0 (.slice (some ⟨b, 0, none⟩) (l.length + 1) cap)
        simpa using this
      · exact hb1.out.setCell (p := ⟨g, 0, none⟩) HGE.out _
end Go.Proofs.Ytknmlikjmnhgkaa.P
