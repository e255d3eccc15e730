/- SlotsLeast: the walk. No condition. -/
import Derived.Test.YtknmlikjmnhgkaaPAllx4
import Derived.Test.YtknmlikjmnhgkaaQFree
import Derived.Test.YtknmlikjmnhgkaaQSlotsB
import Derived.Test.YtknmlikjmnhgkaaQSlotsO
import Derived.Test.YtknmlikjmnhgkaaQSlotsF
import Derived.Test.YtknmlikjmnhgkaaQBel
import Derived.Test.YtknmlikjmnhgkaaQListT
import Derived.Test.YtknmlikjmnhgkaaQLeastP
namespace Go.Proofs.Ytknmlikjmnhgkaa.P
open Go.RowKit Go.Shelf Go.Proofs.YtknmlikjmnhgkaaW.PrintWords Go.Proofs.YtknmlikjmnhgkaaW.PrintLast Go.Proofs.YtknmlikjmnhgkaaW.PrintMore Go.Proofs.Ytknmlikjmnhgkaa.Pure
attribute [local go_sem] Oper.semAt_some
attribute [local go_sem ↓] append_my
set_option linter.unusedVariables false
set_option linter.unusedSimpArgs false

theorem infoI3L : (Try.prog.info? 3).map (fun i => (i.zero, i.size, i.bytes)) = some (some (.int .i64 0), 1, 8) := by kernel_rfl
set_option maxHeartbeats 4000000 in
set_option maxRecDepth 100000 in
theorem SlotsLeast.calls (A0 : Option Addr) (c0 : Nat) (l0 : List Int) (a1 : Int) (w : World) (hr0 : Kd.C (Kd.int .i64) w A0 l0.length l0) (hc0 : l0.length ≤ c0) (hm0 : l0.length * 8 ≤ 140737488351232) :
    Calls Try.prog 10 #[.slice A0 l0.length c0, .int .i64 a1] w fun e w' => e = .returned (.bool true) ∧ Below w.heap.size w w' := by
  have HR0 := Aside0.mk hr0
  have HM := Aside0.mk hm0
  clear hr0
  refine (callsIn_wide (n := 9)).1 ?_
  refine callsIn_of_wp_marks Try.func10 rfl trivial ?_ rfl
  refine wpIn_wide.2 ?_
  simp only [Try.ntmps10, List.size_toArray, List.length_cons, List.length_nil, Nat.reduceAdd, Nat.reduceSub, Array.replicate_succ, Array.replicate_zero, List.push_toArray, List.append_toArray, List.nil_append, List.cons_append]
  go_wp2_with (fail)
  refine (slotsBegun.calls w).mono ?_
  rintro e w1 ⟨rfl, B1⟩
  have HB1 := Aside0.mk B1
  clear B1
  go_wp2_with (fail)
  refine (tourkeep1_setOf.calls (2 * l0.length + 200) A0 c0 l0 (setL l0) w1 (Kd.C_below HR0.out HB1.out) hc0 (setOf_f l0 HM.out _ (by omega))).mono ?_
  rintro e w3 ⟨vS, rfl, hRS, hb3⟩
  have HX := Aside0.mk (good_setL l0)
  obtain ⟨S, hS⟩ : ∃ S, setL l0 = S := ⟨_, rfl⟩
  rw [hS] at hRS HX
  obtain ⟨As, cs, rfl⟩ := Kd.R_slice hRS
  have HRS := Aside0.mk hRS
  have HB3 := Aside0.mk (HB1.out.trans (hb3.mono HB1.out.size))
  clear hb3 hRS hS
  go_upto_region 5 with (fail)
  have B4 := below_alloc (Below.refl w3.heap.size w3) (.cells #[.slice none 0 0] 22)
  have bO := Boxed.new w3 22 (.slice none 0 0)
  obtain ⟨wb, hwb⟩ : ∃ W, w3.alloc (.cells #[.slice none 0 0] 22) = W := ⟨_, rfl⟩
  obtain ⟨kL, hkL⟩ : ∃ k, w3.heap.size = k := ⟨_, rfl⟩
  have szb : wb.heap.size = kL + 1 := by rw [← hwb, World.size_alloc, hkL]
  have HRS4 := Aside0.mk (show Kd.R (Kd.int .u64) 37 wb w1.heap.size (fun _ => True) (.slice As S.length cs) S from by rw [← hwb]; exact Kd.R_below HRS.out B4)
  rw [hwb] at B4 bO ⊢
  have hBW := HB3.out.trans (B4.mono HB3.out.size)
  have hkLw : w.heap.size ≤ kL := by rw [← hkL]; exact HB3.out.size
  rw [hkL] at bO ⊢
  have HBW := Aside0.mk hBW
  have HO := Aside0.mk bO
  clear hwb hkL B4 bO hBW HRS HB3
  go_wp2_with (fail)
  refine (sets_Set_All.calls As cs S wb (Kd.R_reads' HRS4.out).2.2 (Kd.R_reads' HRS4.out).2.1).mono ?_
  rintro e w9 ⟨rfl, v9, hcl9, hR9, hlt9, hb9⟩
  rw [walked_good HX.out] at hR9
  rw [szb] at hcl9 hR9 hlt9
  have HO9 := Aside0.mk (box_belowL HO.out hb9)
  have HBW9 := Aside0.mk (HBW.out.trans (hb9.mono HBW.out.size))
  have hv9 : ∀ b, v9.ownBlock = some b → kL + 1 < b ∧ b < w9.heap.size := fun b e => by
    have := (Kd.R_bound hR9).1 b e
    omega
  have hs9 : kL + 1 ≤ w9.heap.size := by have := hb9.size; omega
  clear hb9 HO HBW
  simp only [szb]
  clear szb HRS4
  go_wp2_with (fail)
  rename_i K1 hK1
  have HK1 := Aside0.mk hK1
  have HV9 := Aside0.mk (And.intro hv9 (And.intro hs9 hlt9))
  clear hK1
  refine (wpIn_wide (n := 9)).1 ?_
  refine wpIn_rangeFunc_ownG rfl (by omega) (gf := 58) (lb := #[.pointer (some ⟨kL + 1, 0, none⟩)]) rfl trivial (enters_of Try.func58 (by kernel_rfl) rfl)
    (sets_walk_stops Fence.wide (9 - 1) trivial rfl (by omega) (fun x => x ∈ elems 0 S) (kL + 1) (kL + 1 + 1) (fun _ => True) v9 S HX.out.len HX.out.words (fun _ h => h) w9 (by omega) hcl9 hR9) keepV_t (putObj_keepV (fun b e => (hv9 b e).2)) (Below.refl _ _) (fun _ => rfl)
    (fun pre W => (∃ v, Boxed W kL 22 v ∧ Kd.R (Kd.int .i64) 3 W w9.heap.size (fun _ => True) v ((pre.map (·.1)).filter (fun x => decide (x < 256)))) ∧ KeepZ kL w9 W ∧ Below w.heap.size w W)
    (fun c pre W => False)
    (OwnFrom.and (fun s A B row hs hg hr => by
      obtain ⟨v, h1, h2⟩ := hs
      have hr' : ∀ r, row = some r → ∃ o : Obj, A.heap[r]? = some o ∧ o.isCells = false := fun r e => (hr r e).2
      exact ⟨v, box_rowfree h1 hg hr', R_rowfree h2 hg hr'⟩) (OwnFrom.and (keepZ_own _ _) (ownFrom_below (Nat.le_refl _) (by have := HBW9.out.size; omega))))
    (fun c => fun s A B row hs hg hr => hs)
    ⟨⟨_, HO9.out, Kd.R_nil _ _ _ _ _⟩, ⟨Nat.le_refl _, fun _ _ _ => rfl⟩, HBW9.out⟩
    (fun x => { tmps := #[.slice A0 l0.length c0, .int .i64 a1, undef, undef, .bool false, .slice As S.length cs, .pointer (some ⟨kL, 0, none⟩), .int .i64 x.1, undef, undef, undef, undef, undef, undef, undef, .bool true, .bool false, .slice A0 l0.length c0, .slice As S.length cs, .slice As S.length cs, .func (.func 58) #[] #[.pointer (some ⟨kL + 1, 0, none⟩)], .int .i64 x.1, undef, undef, undef, undef, undef, undef, undef, undef, undef, undef, undef, undef, undef, undef, undef, undef, undef, undef, undef, undef, undef, undef, undef, undef, undef, undef, undef, undef, undef, undef, undef, undef, undef, undef, undef, undef, undef, undef, undef, undef, undef, undef, undef, undef, undef, undef, undef, undef, undef, undef, undef, undef, undef, undef, undef, undef, undef, undef, undef, undef, undef, undef, undef, undef, undef, undef, undef, undef, undef, undef, undef, undef, undef, undef, undef, undef, undef, undef, undef, undef, undef, undef, undef, undef, undef, undef, undef, undef, undef, undef, undef, undef, undef, undef, undef, undef, undef, undef, undef, undef, undef, undef, undef, undef], defers := [] }) ?assign ?body ?done ?stop
  case assign =>
    intro l x W K hK
    gi_wp2
    first | exact hK | simpa using hK
  case body =>
    rintro l pre ⟨x, hx⟩ W ⟨⟨v, bo, hro⟩, hK, hBW⟩ hlen
    have cO := bo.cell
    have fO := bo.frozen
    by_cases h1 : x < 256
    · have d1 : decide (x < 256) = true := decide_eq_true h1
      have hmix : Try.prog.follows .mixedOrders = true := by kernel_rfl
      have hlL : ((pre.map (·.1)).filter (fun x => decide (x < 256))).length ≤ 4096 := by
        refine Nat.le_trans (List.length_filter_le _ _) ?_
        rw [List.length_map]
        have := elems_length S 0 HX.out.words
        have := HX.out.len
        omega
      obtain ⟨v1, w1', hrun, hR1, hB1, hg1, hat1⟩ := R_append_run (Kd.int .i64) (w0 := W) (W := W) w9.heap.size 22 22 3 (.int .i64 0) 8 Try.underlying22 infoI3L rfl (by decide) (by decide) v _ x [.int .i64 x] (fun _ => True) (fun _ => False) rfl (fun _ hk => hk.elim) (fun _ _ => trivial) hro (Below.refl _ _) hK.size (by omega)
      obtain ⟨b1o, cap1, rfl, _⟩ := Kd.R_form hR1 (by simp)
      have hne1 : some kL ≠ v.ownBlock := Kd.R_ne hro bo (by decide)
      have bo1 : Boxed w1' kL 22 v := blk_grown (show W.heap[kL]? = _ from bo) hg1 hne1
      have c1O := bo1.cell
      have f1O := bo1.frozen
      have hrun' : Sem.run Try.prog (myAppend #[22, 22] 22 #[v, .slice (some ⟨W.heap.size, 0, none⟩) 1 1]) (W.alloc (.cells #[.int .i64 x] 3)) = _ := hrun
      have HRR := Aside0.mk (And.intro hR1 (And.intro hg1 (And.intro hB1 (And.intro bo1 hro))))
      have HBO := Aside0.mk (And.intro bo (And.intro hK (And.intro hBW hlen)))
      clear hrun hR1 hg1 hat1 hB1 hro bo hK hBW hlen bo1 hne1 hlL
      gi_wp2
      obtain ⟨hR1, hg1, hB1, bo1, hro⟩ := HRR.out
      obtain ⟨bo, hK, hBW, hlen⟩ := HBO.out
      obtain ⟨hv9, hs9, hlt9⟩ := HV9.out
      have hbase : ∀ j, v.ownBlock = some j → w9.heap.size ≤ j := fun j e => ((Kd.R_bound hro).1 j e).2.1
      have hcell : ∀ (j : Nat) (o : Obj), v.ownBlock = some j → W.heap[j]? = some o → o.isCells = true := by
        intro j o e ho
        obtain ⟨_, _, _, _, _, cells, hc⟩ := (Kd.R_bound hro).1 j e
        rw [hc] at ho
        injection ho with ho
        subst ho
        rfl
      have hfar : ∀ b, b < w9.heap.size → b ≠ kL → ∀ u, (w1'.setCell ⟨kL, 0, none⟩ u).heap[b]? = W.heap[b]? := fun b hb hne u =>
        (Below.heap_setCell w1' ⟨kL, 0, none⟩ u b hne).trans (hg1.block b (Nat.lt_of_lt_of_le hb hK.size) (fun e => by have := hbase b e.symm; omega))
      refine ⟨((KeepsOthers.of_grownBy hg1 hcell).trans (KeepsOthers.setCell w1' _ _)).from _, fun b e => hfar b (hv9 b e).2 (by have := (hv9 b e).1; omega) _, ⟨_, bo1.set _, ?_⟩, ⟨Nat.le_trans hK.size (by rw [World.size_setCell]; exact hB1.size), fun b hb hne => (hfar b hb hne _).trans (hK.same b hb hne)⟩, (hBW.trans (hB1.mono (by have := hK.size; omega))).setCell (p := ⟨kL, 0, none⟩) hkLw _⟩
      have := Kd.R_set hR1 bo1 (by decide) 0 (.slice (some ⟨b1o, 0, none⟩) (List.filter (fun x => decide (x < 256)) (pre.map (·.1)) ++ [x]).length cap1)
      rw [show (pre ++ [(⟨x, hx⟩ : {x : Int // x ∈ elems 0 S})]).unattach = pre.unattach ++ [x] from by simp, List.filter_append, List.filter_cons, if_pos (by simpa using h1), List.filter_nil]
      rw [List.length_append] at this
      exact this
    · have d1 : decide (x < 256) = false := decide_eq_false h1
      gi_wp2
      refine ⟨(KeepsOthers.refl W).from _, fun b e => rfl, ⟨v, bo, ?_⟩, hK, hBW⟩
      rw [show (pre ++ [(⟨x, hx⟩ : {x : Int // x ∈ elems 0 S})]).unattach = pre.unattach ++ [x] from by simp, List.filter_append, List.filter_cons, if_neg (by simpa using h1), List.filter_nil, List.append_nil]
      exact hro
  case done =>
    rintro D ys W hD hys ⟨⟨v, bn, hro⟩, hK, hBW⟩ hKD
    have hDk : kL + 1 < D := by have := HV9.out.2.1; have := HV9.out.2.2; omega
    have hel := elems_sorted S 0 HX.out.words
    have hem := fun (y : Int) (hy : y ∈ elems 0 S) => (elems_has HX.out y).1 hy
    have hys' : ys.map (·.1) = elems 0 S := hys
    rw [hys'] at hro
    obtain ⟨L, hL⟩ : ∃ L, (elems 0 S).filter (fun x => decide (x < 256)) = L := ⟨_, rfl⟩
    have HLS := Aside0.mk (show L.Pairwise (· < ·) from by rw [← hL]; exact hel.filter _)
    have HLR := Aside0.mk (show ∀ x ∈ L, 0 ≤ x ∧ x < 256 from by
      intro x hx
      rw [← hL, List.mem_filter] at hx
      exact ⟨(hem x hx.1).1, of_decide_eq_true hx.2⟩)
    rw [hL] at hro
    have hLl : L.length ≤ 256 := by have := sorted_len L 0 256 HLS.out HLR.out (by omega); omega
    obtain ⟨A, c, rfl⟩ := Kd.R_slice hro
    have hc : L.length ≤ c := (Kd.R_reads' hro).2.1
    have HC := Aside0.mk (Kd.R_lower hro HBW9.out.size)
    dsimp only
    refine HK1.out _ _ ?_
    have HBN := Aside0.mk bn
    have HBW := Aside0.mk hBW
    have HKD := Aside0.mk hKD
    clear hel hem hys hys' hL hro bn hBW hKD hK hv9 hs9 hlt9 hcl9 hR9
    go_wp2_with (fail)
    refine (tourmake_Below.calls _ _ _ _ (bel_f a1 257 (by omega) (by omega))).mono ?_
    rintro e w4 ⟨rfl, ⟨nd, rfl⟩⟩
    have hpr := bel_range a1 257 (by omega)
    obtain ⟨G, hG⟩ : ∃ G : Nat, bel a1 257 = (G : Int) := ⟨(bel a1 257).toNat, by omega⟩
    rw [hG] at hpr ⊢
    have hG1 : (G : Int) < 257 := hpr.2
    have HBN4 := Aside0.mk (show Boxed (W.drewN nd) kL 22 (.slice A L.length c) from HBN.out)
    have HC4 := Aside0.mk (Kd.R_drewN HC.out nd)
    have HW4 := Aside0.mk (pw_below_drewN HBW.out nd)
    have hkd : (W.drewN nd).heap[D]? = _ := HKD.out
    have HKD4 := Aside0.mk hkd
    obtain ⟨w4, hw4⟩ : ∃ X, W.drewN nd = X := ⟨_, rfl⟩
    rw [hw4] at HBN4 HC4 HW4 HKD4 ⊢
    clear hw4 hG hpr hkd HBN HC HBW HKD HK1
    have hmk := print_make (P := Try.prog) 22 3 .i64 8 Try.underlying22 infoI3L (by omega) G (by omega) w4
    have hown := Kd.R_of_own (h1 := fun _ => rfl) (ok := fun _ => True) (own_made' w4 w4.heap.size 3 .i64 G (Nat.le_refl _) (by omega)) (fun _ _ => trivial)
    have B5 := below_alloc (Below.refl w4.heap.size w4) (.cells (madeCells #[.int .i64 0] G) 3)
    obtain ⟨w5, hw5⟩ : ∃ X, w4.alloc (.cells (madeCells #[.int .i64 0] G) 3) = X := ⟨_, rfl⟩
    rw [hw5] at hmk hown B5
    have HR5 := Aside0.mk (Kd.R_lower hown HW4.out.size)
    have HBN5 := Aside0.mk (box_belowL HBN4.out B5)
    have HC5 := Aside0.mk (Kd.R_below HC4.out B5)
    have HW5 := Aside0.mk (HW4.out.trans (B5.mono HW4.out.size))
    have HKD5 := Aside0.mk ((B5.block D (Array.getElem?_eq_some_iff.1 HKD4.out).1).trans HKD4.out)
    clear hw5 hown B5 HBN4 HC4 HW4 HKD4
    go_upto_block 2 with (fail)
    obtain ⟨q, hq⟩ : ∃ q, w4.heap.size = q := ⟨_, rfl⟩
    rw [hq] at HR5 ⊢
    clear hq hmk
    have HG := Aside0.mk hG1
    have hG0 : (0 : Int) ≤ (G : Int) := by omega
    go_cut [] from 31 to 49 (fun W => ∃ (m : Nat), Aside0 (m ≤ L.length ∧ (0 < m → rd L ((m - 1 : Nat) : Int) < (G : Int))) ∧ Aside0 (Boxed W kL 22 (.slice A m c) ∧ Kd.R (Kd.int .i64) 3 W w.heap.size (fun _ => True) (.slice A L.length c) L ∧ Kd.R (Kd.int .i64) 3 W w.heap.size (fun _ => True) (.slice (some ⟨q, 0, none⟩) G G) (List.replicate G (0 : Int)) ∧ Below w.heap.size w W ∧ W.heap[D]? = some (.deferred (some []))))
    case first =>
      go_wp2_with (fail)
      go_loopg [31] L.length (fun kq v31 W => ∃ (m : Nat), Aside0 (kq = m ∧ m ≤ L.length) ∧ Aside0 (Boxed W kL 22 (.slice A m c) ∧ Kd.R (Kd.int .i64) 3 W w.heap.size (fun _ => True) (.slice A L.length c) L ∧ Kd.R (Kd.int .i64) 3 W w.heap.size (fun _ => True) (.slice (some ⟨q, 0, none⟩) G G) (List.replicate G (0 : Int)) ∧ Below w.heap.size w W ∧ W.heap[D]? = some (.deferred (some []))))
      case atStart => exact ⟨L.length, ⟨rfl, Nat.le_refl _⟩, ⟨HBN5.out, HC5.out, HR5.out, HW5.out, HKD5.out⟩⟩
      case round =>
        obtain ⟨m, HJ, HS⟩ := hrel
        have cB := HS.out.1.cell
        have fB := HS.out.1.frozen
        cases m with
        | zero =>
          go_wp2_with (fail)
          go_meet
          case rel => exact ⟨0, ⟨Nat.zero_le _, fun h => by omega⟩, HS⟩
        | succ m =>
          have e1 : (0 : Int) < ((m + 1 : Nat) : Int) := by omega
          have e2 : (0 : Int) ≤ (m : Int) := by omega
          have e3 : (m : Int) < ((m + 1 : Nat) : Int) := by omega
          have e4 : (m : Int) < (L.length : Int) := by have := HJ.out.2; omega
          obtain ⟨ad, rfl, hx⟩ := Kd.at_int (Kd.R_reads' HS.out.2.1).2.2 (m : Int) e2 e4
          rw [Int.toNat_natCast] at hx
          obtain ⟨t, ht⟩ : ∃ t, rd L (m : Int) = t := ⟨_, rfl⟩
          rw [ht] at hx
          have e5 : ((m + 1 : Nat) : Int) ≤ (c : Int) := by have := HJ.out.2; omega
          by_cases h2 : (G : Int) ≤ t
          · go_wp2_with (fail)
            go_roundg m
            case measure => have := HJ.out.1; omega
            case rel => exact ⟨m, ⟨rfl, by have := HJ.out.2; omega⟩, ⟨HS.out.1.set _, Kd.R_set HS.out.2.1 HS.out.1 (by decide) 0 _, Kd.R_set HS.out.2.2.1 HS.out.1 (by decide) 0 _, HS.out.2.2.2.1.setCell (p := ⟨kL, 0, none⟩) hkLw _, (Below.heap_setCell _ ⟨kL, 0, none⟩ _ D (show D ≠ kL by omega)).trans HS.out.2.2.2.2⟩⟩
          · go_wp2_with (fail)
            go_meet
            case rel => exact ⟨m + 1, ⟨HJ.out.2, fun _ => by rw [Nat.add_sub_cancel, ht]; omega⟩, HS⟩
    case rest =>
      obtain ⟨m, HJ, HS⟩ := hcut
      obtain ⟨wo, rfl⟩ : ∃ X, X = wc := ⟨_, rfl⟩
      have hC1 := Kd.C_take (Kd.R_reads' HS.out.2.1).2.2 HJ.out.1
      have hS1 : (L.take m).Pairwise (· < ·) := HLS.out.sublist (List.take_sublist m L)
      have hR1 : ∀ x ∈ L.take m, 0 ≤ x ∧ x < (G : Int) := by
        intro x hx
        refine ⟨(HLR.out x (List.mem_of_mem_take hx)).1, ?_⟩
        obtain ⟨i, hi, rfl⟩ := List.getElem_of_mem hx
        rw [List.length_take] at hi
        have h0 := HJ.out.2 (by omega)
        rw [rd_nat, List.getD_eq_getElem?_getD, List.getElem?_eq_getElem (by have := HJ.out.1; omega)] at h0
        have h0 : L[m - 1]'(by have := HJ.out.1; omega) < (G : Int) := h0
        rw [List.getElem_take]
        by_cases e : i = m - 1
        · subst e; exact h0
        · have := List.pairwise_iff_getElem.1 HLS.out i (m - 1) (by omega) (by have := HJ.out.1; omega) (by omega)
          omega
      have hl1 : (L.take m).length = m := by rw [List.length_take]; have := HJ.out.1; omega
      have hmc : m ≤ c := by have := HJ.out.1; omega
      obtain ⟨L1, hL1⟩ : ∃ L1, L.take m = L1 := ⟨_, rfl⟩
      rw [hL1] at hC1 hS1 hR1 hl1
      have HS1 := Aside0.mk hS1
      have HR1 := Aside0.mk hR1
      have HC1 := Aside0.mk (show Kd.C (Kd.int .i64) wo A L1.length L1 from by exact hC1)
      subst hl1
      have cB := HS.out.1.cell
      clear hC1 hS1 hR1 hL1 HJ
      go_wp2_with (fail)
      refine (T_of wo wo (Below.refl _ _) (some ⟨q, 0, none⟩) G G (by omega) (by have h := (Kd.R_reads' HS.out.2.2.1).2.2; rw [List.length_replicate] at h ⊢; exact h) (Nat.le_refl _) A c L1 HC1.out hmc HS1.out HR1.out).mono ?_
      rintro e w6 ⟨g, U, rfl, hU, hT, hg, hB6⟩
      have HU := Aside0.mk hU
      have HT6 := Aside0.mk hT
      have HW6 := Aside0.mk (HS.out.2.2.2.1.trans (hB6.mono HS.out.2.2.2.1.size))
      have HBN6 := Aside0.mk (box_belowL HS.out.1 hB6)
      have HC6 := Aside0.mk (Kd.C_below HC1.out hB6)
      have HKD6 := Aside0.mk ((hB6.block D (Array.getElem?_eq_some_iff.1 HS.out.2.2.2.2).1).trans HS.out.2.2.2.2)
      have HO6 := Aside0.mk hB6
      clear hU hT hg hB6 cB
      have hL1l : L1.length ≤ 256 := by have := sorted_len L1 0 G HS1.out HR1.out (by omega); omega
      go_upto_block 4 with (fail)
      go_cut [11] from 62 to 75 (fun v11 W => ∃ (k : Nat), v11 = .int .i64 (k : Int) ∧ Aside0 (k ≤ L1.length ∧ (∀ i : Nat, i < k → (i : Int) ∈ L1) ∧ (k : Int) ∉ L1) ∧ W = w6)
      case first =>
        go_wp2_with (fail)
        go_loopg [11] L1.length (fun kq v11 W => ∃ (k : Nat), v11 = .int .i64 (k : Int) ∧ Aside0 (kq = L1.length - k ∧ k ≤ L1.length ∧ ∀ i : Nat, i < k → rd L1 (i : Int) = i) ∧ W = w6)
        case atStart => exact ⟨0, rfl, ⟨rfl, Nat.zero_le _, fun i h => by omega⟩, rfl⟩
        case round =>
          obtain ⟨k, rfl, HJ, rfl⟩ := hrel
          have cB := HBN6.out.cell
          by_cases hk : k < L1.length
          · have e1 : (k : Int) < (L1.length : Int) := by omega
            have e2 : (0 : Int) ≤ (k : Int) := by omega
            obtain ⟨ad, rfl, hx⟩ := Kd.at_int HC6.out (k : Int) e2 e1
            rw [Int.toNat_natCast] at hx
            by_cases h2 : rd L1 (k : Int) = (k : Int)
            · rw [h2] at hx
              go_wp2_with (fail)
              go_roundg (L1.length - (k + 1))
              case measure => have := HJ.out.1; omega
              case rel => exact ⟨k + 1, congrArg (Value.int .i64) (by omega), ⟨rfl, by omega, fun i hi => by
                by_cases e : i = k
                · rw [e]; exact h2
                · exact HJ.out.2.2 i (by omega)⟩, rfl⟩
            · have HNE := Aside0.mk h2
              obtain ⟨t, ht⟩ : ∃ t, rd L1 (k : Int) = t := ⟨_, rfl⟩
              rw [ht] at hx h2
              have e3 : (t == (k : Int)) = false := by simpa using h2
              go_wp2_with (fail)
              go_meet
              case rel =>
                have hf := least_facts HS1.out (fun x hx => (HR1.out x hx).1) k HJ.out.2.1 HJ.out.2.2 (fun _ => HNE.out)
                exact ⟨k, rfl, ⟨HJ.out.2.1, hf.1, hf.2⟩, rfl⟩
          · have e1 : ¬ ((k : Int) < (L1.length : Int)) := by omega
            go_wp2_with (fail)
            go_meet
            case rel =>
              have hf := least_facts HS1.out (fun x hx => (HR1.out x hx).1) k HJ.out.2.1 HJ.out.2.2 (fun h => absurd h hk)
              exact ⟨k, rfl, ⟨HJ.out.2.1, hf.1, hf.2⟩, rfl⟩
      case rest =>
        obtain ⟨k, rfl, HK, hw⟩ := hcut
        subst hw
        have hLG : L1.length ≤ G := by have := sorted_len L1 0 G HS1.out HR1.out (by omega); omega
        have hkG : k ≤ G := Nat.le_trans HK.out.1 hLG
        have HN := Aside0.mk (least_next HU.out G (by omega) k hkG HK.out.2.1 HK.out.2.2)
        have HFG := Aside0.mk (frees_is HU.out G (by omega)).1
        have HFM := Aside0.mk (frees_mem HU.out G (by omega))
        have HFL := Aside0.mk (show ∀ x ∈ elems 0 (freesF U G []), 0 ≤ x ∧ x < ((List.replicate G (0 : Int)).length : Int) from fun x hx => by rw [List.length_replicate]; have := (HFM.out x).1 hx; omega)
        have HKDO := Aside0.mk HS.out.2.2.2.2
        have HWO := Aside0.mk HS.out.2.2.2.1
        have HBNO := Aside0.mk HS.out.1
        clear HS
        go_wp2_with (fail)
        by_cases hk : k = 256
        · refine (T_takeFull wc wo g (List.replicate G 0) U (freesF U G []) k HN.out HT6.out HO6.out HFG.out (by rw [List.length_replicate]; omega) hk HFL.out).mono ?_
          rintro e w7 ⟨rfl, B7⟩
          have HB7 := Aside0.mk (HWO.out.trans (B7.mono HWO.out.size))
          have hD7 := (B7.block D (Array.getElem?_eq_some_iff.1 HKDO.out).1).trans HKDO.out
          have b8 := below_alloc (Below.refl w7.heap.size w7) (.cells #[.int .i64 0, .int .i64 0] 64)
          have HD8 := Aside0.mk ((b8.block D (Array.getElem?_eq_some_iff.1 hD7).1).trans hD7)
          have HB8 := Aside0.mk (HB7.out.trans (b8.mono HB7.out.size))
          have d0 : ((k : Int) == 256) = true := by simp [hk]
          clear B7 hD7 b8
          go_wp2_with (fail)
          refine ⟨by simp, .inl ⟨_, _, rfl, run_takeDeferred HD8.out, ?_⟩⟩
          exact ⟨_, results_tmp (t := 4) rfl _ _ _, rfl, HB8.out.trans (belowK_b (w := w) (Nat.le_refl _) _ D _ _ (by omega) HD8.out rfl rfl)⟩
        · obtain ⟨G', hG'⟩ : ∃ G' : List Int, (if k = (List.replicate G (0 : Int)).length then List.replicate G 0 ++ [0] else List.replicate G 0) = G' := ⟨_, rfl⟩
          have hG2 : k < G'.length ∧ rd G' (k : Int) = 0 ∧ G'.length ≤ 256 := by
            rw [List.length_replicate] at hG'
            rw [rd_nat, List.getD_eq_getElem?_getD]
            by_cases e : k = G
            · rw [if_pos e] at hG'
              subst hG'
              refine ⟨by simp; omega, ?_, by simp; omega⟩
              rw [List.getElem?_append_right (by simp; omega)]
              simp [e]
            · rw [if_neg e] at hG'
              subst hG'
              refine ⟨by simp; omega, ?_, by simp; omega⟩
              rw [List.getElem?_replicate, if_pos (by omega)]
              rfl
          have HG2 := Aside0.mk hG2
          have HGG := Aside0.mk (show G ≤ G'.length from by rw [← hG']; split <;> simp)
          have hk2 : k < 256 := by omega
          refine (T_take wc wo g (List.replicate G 0) U (freesF U G []) k G' HN.out hG' HT6.out HO6.out HU.out.1 HFG.out (by rw [List.length_replicate]; omega) hk2 HFL.out).mono ?_
          rintro e w7 ⟨rfl, hT7, hB7, hF7⟩
          rw [HG2.out.2.1]
          have b8 := below_alloc (Below.refl w7.heap.size w7) (.cells #[.int .i64 k, .int .i64 0] 64)
          have hE8 : (w7.alloc (.cells #[.int .i64 k, .int .i64 0] 64)).heap[w7.heap.size]? = some (.cells #[.int .i64 k, .int .i64 0] 64 (0, 0)) := Array.getElem?_push_size
          have HT8 := Aside0.mk (hT7.below b8)
          have HO8 := Aside0.mk (hB7.trans (b8.mono hB7.size))
          have HE8 := Aside0.mk hE8
          have d0 : ((k : Int) == 256) = false := by simp; omega
          clear hT7 hB7 hF7 b8 hE8 hG' hG2
          go_wp2_with (fail)
          have hal : aliveF G' (uni U (oneL (k : Int))) (k : Int) 0 = true := by
            unfold aliveF
            rw [has_with U (k : Int) (by omega) (by omega), HG2.out.2.1]
            rfl
          refine (T_free _ wo g G' (uni U (oneL k)) (dif (freesF U G []) (oneL k)) k 0 HT8.out HO8.out (good_uni _ _) (good_dif _ _) HG2.out.1 (by omega) hal (by omega) (by omega)).mono ?_
          rintro e w9 ⟨rfl, hT9, hB9, hF9⟩
          have HT9 := Aside0.mk hT9
          have HO9 := Aside0.mk hB9
          clear hT9 hB9 hF9 hal HT8 HO8 HE8
          obtain ⟨k12, hk12⟩ : ∃ n, w7.heap.size = n := ⟨_, rfl⟩
          rw [hk12]
          clear hk12
          go_wp2_with (fail)
          have HN2 := Aside0.mk (again_next HU.out G (by omega) k hkG hk2 HK.out.2.1 (G'.set k (0 + 1)))
          have HFL2 := Aside0.mk (show ∀ x ∈ elems 0 (uni (dif (freesF U G []) (oneL k)) (oneL k)), 0 ≤ x ∧ x < ((G'.set k (0 + 1)).length : Int) from fun x hx => by
            rw [List.length_set]
            by_cases e : x = (k : Int)
            · have := HG2.out.1; omega
            · have h1 := has_other _ (k : Int) x (by omega) (by omega) hx e
              obtain ⟨x0, x1, _⟩ := (elems_has (good_uni _ _) x).1 hx
              rw [hasB_dif _ _ _ (by omega)] at h1
              have h2 : hasB (freesF U G []) x.toNat = true := by revert h1; cases hasB (freesF U G []) x.toNat <;> simp
              have h3 := (HFM.out x).1 ((elems_has HFG.out x).2 ⟨x0, x1, h2⟩)
              have h4 := HGG.out
              omega)
          refine (T_take w9 wo g (G'.set k (0 + 1)) (dif (uni U (oneL k)) (oneL k)) (uni (dif (freesF U G []) (oneL k)) (oneL k)) k (G'.set k (0 + 1)) HN2.out (if_neg (by rw [List.length_set]; have := HG2.out.1; omega)) HT9.out HO9.out (good_dif _ _) (good_uni _ _) (by rw [List.length_set]; exact HG2.out.2.2) hk2 HFL2.out).mono ?_
          rintro e w10 ⟨rfl, hT10, hB10, hF10⟩
          rw [rd_set G' k (0 + 1) HG2.out.1 (k : Int) (by omega), if_pos rfl]
          have b11 := below_alloc (Below.refl w10.heap.size w10) (.cells #[.int .i64 k, .int .i64 (0 + 1)] 64)
          have hE11 : (w10.alloc (.cells #[.int .i64 k, .int .i64 (0 + 1)] 64)).heap[w10.heap.size]? = some (.cells #[.int .i64 k, .int .i64 (0 + 1)] 64 (0, 0)) := Array.getElem?_push_size
          have HT11 := Aside0.mk (hT10.below b11)
          have HO11 := Aside0.mk (hB10.trans (b11.mono hB10.size))
          have HE11 := Aside0.mk hE11
          clear hT10 hB10 hF10 b11 hE11 HT9 HO9
          have hEL := ents_len HU.out HS1.out (fun x hx => by have := HR1.out x hx; omega) k (by omega) HK.out.2.2
          have HLEN := Aside0.mk (show (listF (G'.set k (0 + 1)) (uni (dif (uni U (oneL k)) (oneL k)) (oneL k))).length = L1.length + 1 from by unfold listF; rw [List.length_map]; exact hEL.1)
          have HUL := Aside0.mk (show ∀ x ∈ elems 0 (uni (dif (uni U (oneL k)) (oneL k)) (oneL k)), 0 ≤ x ∧ x < ((G'.set k (0 + 1)).length : Int) from fun x hx => by
            rw [List.length_set]
            have h4 := HGG.out
            have h5 := HG2.out.1
            rcases hEL.2 x hx with e | e
            · omega
            · have := HR1.out x e
              omega)
          have HBN11 := Aside0.mk ((HO11.out.block kL (blk_lt HBNO.out)).trans HBNO.out)
          have HKD11 := Aside0.mk ((HO11.out.block D (Array.getElem?_eq_some_iff.1 HKDO.out).1).trans HKDO.out)
          have HW11 := Aside0.mk (HWO.out.trans (HO11.out.mono HWO.out.size))
          clear hEL
          go_upto_region 24 with (fail)
          obtain ⟨k14, hk14⟩ : ∃ n, w10.heap.size = n := ⟨_, rfl⟩
          obtain ⟨w11, hw11⟩ : ∃ X, w10.alloc (.cells #[.int .i64 k, .int .i64 (0 + 1)] 64) = X := ⟨_, rfl⟩
          have hw11' : w10.alloc (.cells #[.int .i64 k, .int .i64 1] 64) = w11 := hw11
          rw [hw11] at HT11 HO11 HE11 HBN11 HKD11 HW11
          rw [hk14] at HE11
          rw [hk14, hw11']
          have cB : w11.cell? ⟨kL, 0, none⟩ = _ := Boxed.cell (t := 22) HBN11.out
          have a0 := cell2_0 HE11.out
          have a1 : w11.cell? ⟨k14, 1, none⟩ = some (.int .i64 1) := cell2_1 HE11.out
          have hkl : kL < w11.heap.size := blk_lt HBN11.out
          clear hw11 hw11' hk14
          have hDl : D < w11.heap.size := (Array.getElem?_eq_some_iff.1 HKD11.out).1
          refine wp_region_noPanic ?_
          go_region_with ((go_simp; go_at_call 39; (with_reducible refine (T_list _ wo g (G'.set k (0 + 1)) (uni (dif (uni U (oneL k)) (oneL k)) (oneL k)) _ (by first | exact HT11.out | exact HT11.out.below (below_drew (Below.refl _ _)) | exact HT11.out.below (pw_below_drewN (Below.refl _ _) _)) (by first | exact HO11.out | exact below_drew HO11.out | exact pw_below_drewN HO11.out _) (good_uni _ _) HUL.out).mono ?_); rintro e w12 ⟨vl, rfl, hRl, hb⟩; obtain ⟨Al, cl, hv⟩ := Kd.R_slice hRl; rw [HLEN.out] at hv; subst hv; have cB2 := (hb.cell (p := ⟨kL, 0, none⟩) (show kL < w11.heap.size from hkl)).trans cB; have HB12 := Aside0.mk hb; clear hRl hb))
          all_goals refine NoPanic.normal ?_
          all_goals
            go_wp2
            have hb' : Below w11.heap.size w11 w12 := by first | exact HB12.out | exact (below_drew (Below.refl _ _)).trans HB12.out | exact (pw_below_drewN (Below.refl _ _) _).trans HB12.out
            have hD12 : w12.heap[D]? = some (.deferred (some [])) := (hb'.block D hDl).trans HKD11.out
            have hB12 : Below w.heap.size w w12 := HW11.out.trans (hb'.mono HW11.out.size)
            refine ⟨by simp, .inl ⟨_, _, rfl, run_takeDeferred hD12, ?_⟩⟩
            refine ⟨_, results_tmp (t := 4) rfl _ _ _, ?_, ?_⟩
            · have hwl : IntKind.i64.wrap ((L1.length : Int) + 1) = (L1.length : Int) + 1 := by rw [IntKind.wrap_i64]; omega
              simp only [hwl, beq_self_eq_true]
              rfl
            · first
                | exact hB12.trans (belowK_b (w := w) (Nat.le_refl _) _ D _ _ (by omega) hD12 rfl rfl)
                | exact (below_drew hB12).trans (belowK_b (w := w) (Nat.le_refl _) _ D _ _ (by omega) hD12 rfl rfl)
                | exact (pw_below_drewN hB12 _).trans (belowK_b (w := w) (Nat.le_refl _) _ D _ _ (by omega) hD12 rfl rfl)
  case stop =>
    rintro D c pre W hD hpre hf hKD
    exact hf.elim
theorem tourkeep1_SlotsLeast.walk (a0 : Option Addr) (len0 cap0 : Nat) (z0 : List Int) (a1 : Int) (w : World) (w0 : (a0 = none ∧ len0 = 0 ∧ cap0 = 0 ∧ z0 = []) ∨ ∃ x, a0 = some x ∧ len0 ≤ cap0 ∧ cap0 ≤ maxLen ∧ z0.length = cap0 ∧ (∀ i, i < z0.length → w.cell? (x.add i) = some (.int .i64 (z0.getD i 0))) ∧ ∀ n ∈ z0, (Lit.int .i64 n).wf = true) (y0 : len0 * 8 ≤ 140737488351232) :
    Calls Try.prog 10 #[.slice a0 len0 cap0, .int .i64 a1] w fun e w' => e = .returned (.bool true) ∧ Below w.heap.size w w' := by
  obtain ⟨l0, rfl, hr0, hm0, hw0, hc0⟩ := ReadsInt.ofRowC w0
  exact SlotsLeast.calls _ _ l0 a1 w (Kd.C_of_reads (d := (0 : Int)) (h1 := fun _ => rfl) hr0) hc0 y0
end Go.Proofs.Ytknmlikjmnhgkaa.P
