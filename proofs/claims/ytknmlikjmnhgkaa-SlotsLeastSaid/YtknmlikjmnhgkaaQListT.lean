/- Package slots: List. Under way. No condition. -/
import Derived.Test.YtknmlikjmnhgkaaQListR
namespace Go.Proofs.Ytknmlikjmnhgkaa.P
open Go.RowKit Go.Shelf Go.Proofs.YtknmlikjmnhgkaaW.PrintWords Go.Proofs.YtknmlikjmnhgkaaW.PrintLast Go.Proofs.YtknmlikjmnhgkaaW.PrintMore Go.Proofs.Ytknmlikjmnhgkaa.Pure
attribute [local go_sem] Oper.semAt_some
set_option linter.unusedVariables false
set_option linter.unusedSimpArgs false

theorem box_belowL {W W' : World} {B : Nat} {t : TypeId} {v : Value} (h : Boxed W B t v) (hb : Below W.heap.size W W') : Boxed W' B t v := (hb.block _ h.lt).trans h
theorem infoE : (Try.prog.info? 64).map (fun i => (i.zero, i.size, i.bytes)) = some (some (.agg #[.int .i64 0, .int .i64 0]), 2, 16) := by kernel_rfl
/-- the entities that exist -/
def listF (gens used : List Int) : List S64 := (elems 0 used).map (fun n => ⟨n, rd gens n⟩)
structure KeepZ (g : Nat) (w0 W : World) : Prop where
  size : w0.heap.size ≤ W.heap.size
  same : ∀ b, b < w0.heap.size → b ≠ g → W.heap[b]? = w0.heap[b]?
theorem keepZ_own {β : Type} (g : Nat) (w0 : World) : OwnFrom (β := β) w0.heap.size (fun _ W => KeepZ g w0 W) := fun s A B row hs hg hr =>
  ⟨Nat.le_trans hs.size hg.size, fun b hb h1 => (hg.block b (Nat.lt_of_lt_of_le hb hs.size) (fun e => by have := (hr b e.symm).1; omega)).trans (hs.same b hb h1)⟩
theorem R_append_run {α : Type} (d : Kd α) {w0 W : World} (base : Nat) (t ty e : TypeId) (z : Value) (bytes : Nat) (ht : Try.prog.underlying t = some (.slice e)) (hinfo : (Try.prog.info? e).map (fun i => (i.zero, i.size, i.bytes)) = some (some z, d.sz, bytes)) (hz : z.cells.size = d.sz) (hs0 : 0 < d.sz) (hb0 : 0 < bytes)
    (v : Value) (xs : List α) (p : α) (cs : List Value) (ok okp : Nat → Prop) (hp : d.M W base okp p cs) (hokp : ∀ k, okp k → ok k ∧ some k ≠ v.ownBlock) (hfresh : ∀ k, W.heap.size ≤ k → ok k)
    (HO : d.R e W base ok v xs) (HB : Below base w0 W) (hbase : base ≤ W.heap.size) (hl : (xs.length + 1) * bytes ≤ 140737488355328) :
    ∃ v1 w1, (myAppend #[t, t] ty #[v, .slice (some ⟨W.heap.size, 0, none⟩) 1 1]).run Try.prog (W.alloc (.cells cs.toArray e)) = .ok v1 w1 ∧ d.R e w1 base ok v1 (xs ++ [p]) ∧ Below base w0 w1 ∧ W.grownBy w1 v.ownBlock ∧ (v1.ownBlock = v.ownBlock ∨ ∃ b, v1.ownBlock = some b ∧ W.heap.size ≤ b) := by
  obtain ⟨i0, hi, hzz⟩ := Option.map_eq_some_iff.1 hinfo
  simp only [Prod.mk.injEq] at hzz
  obtain ⟨hz0, hz1, hz2⟩ := hzz
  have hlen : xs.length + 1 ≤ 140737488355328 := Nat.le_trans (Nat.le_mul_of_pos_right _ hb0) hl
  have hys := d.K_len (d.K_of_M hp)
  obtain ⟨h0, inner, hown, hr⟩ := HO
  obtain ⟨v1, w1, hrun, hown1, hg, _, hat⟩ := run_append_own_at (P := Try.prog) (W.alloc (.cells cs.toArray e)) base t ty e i0 z d.sz bytes ht hi hz0 hz1 hz2 hz hs0 v xs.length inner (hown.alloc _) ⟨W.heap.size, 0, none⟩ 1 1 cs (by rw [hys]; simp)
    (by simpa using World.news_of_block (cs := cs.toArray) (t := e) (fr := (0, 0)) (heap_alloc_new W (.cells cs.toArray e))) (d.K_one (d.K_of_M hp)) (by simp only [maxLen]; omega) hl (by simp; omega)
  have hg' : W.grownBy w1 v.ownBlock := World.grownBy.trans (World.grownBy_alloc W _ _) hg
  have hat' : v1.ownBlock = v.ownBlock ∨ ∃ b, v1.ownBlock = some b ∧ W.heap.size ≤ b := by
    rcases hat with hat | hat
    · exact .inl hat
    · exact .inr ⟨_, hat, by simp⟩
  exact ⟨v1, w1, hrun, Kd.R_appended h0 hr hp hokp hfresh hown1 hg' hat', (HB.alloc hbase _).grown hg (by simp; omega) (own_base hown), hg', hat'⟩
/-- what is no cells has been written -/
theorem R_rowfree {α : Type} {d : Kd α} {e base : Nat} {ok : Nat → Prop} {A B : World} {row : Option Nat} {v : Value} {xs : List α} (h : d.R e A base ok v xs) (hg : A.grownBy B row) (hr : ∀ r, row = some r → ∃ o : Obj, A.heap[r]? = some o ∧ o.isCells = false) : d.R e B base ok v xs :=
  Kd.R_mono (Kd.R_step (Kd.R_bound h) (fun k hk hlt => hg.block k hlt (fun e => by
    obtain ⟨o, ho, hc⟩ := hr k e.symm
    obtain ⟨_, _, _, _, _, cells, hcl⟩ := hk
    rw [hcl] at ho
    injection ho with ho
    subst ho
    simp [Obj.isCells] at hc))) (fun _ hk => hk.1)
theorem box_rowfree {A B : World} {row : Option Nat} {b : Nat} {t : TypeId} {v : Value} (h : Boxed A b t v) (hg : A.grownBy B row) (hr : ∀ r, row = some r → ∃ o : Obj, A.heap[r]? = some o ∧ o.isCells = false) : Boxed B b t v :=
  (hg.block b h.lt (fun e => by
    obtain ⟨o, ho, hc⟩ := hr b e.symm
    have h : A.heap[b]? = _ := h
    rw [h] at ho
    injection ho with ho
    subst ho
    simp [Obj.isCells] at hc)).trans h
set_option maxHeartbeats 4000000 in
set_option maxRecDepth 100000 in
theorem T_list (w w0 : World) (g : Nat) (gens used free : List Int) (h : IsT w0 w g gens used free) (hB : Below w0.heap.size w0 w) (hu : GoodS used) (hul : ∀ x ∈ elems 0 used, 0 ≤ x ∧ x < gens.length) :
    Calls Try.prog 39 #[.pointer (some ⟨g, 0, none⟩)] w fun e w' => ∃ v0_ : Value, e = .returned v0_ ∧ Kd.R k64 64 w' w.heap.size (fun _ => True) v0_ (listF gens used) ∧ Below w.heap.size w w' := by
  have HX := Aside0.mk hu
  have HUL := Aside0.mk hul
  refine (callsIn_wide (n := 9)).1 ?_
  refine callsIn_of_wp_marks Try.func39 rfl trivial ?_ rfl
  refine wpIn_wide.2 ?_
  simp only [Try.ntmps39, List.size_toArray, List.length_cons, List.length_nil, Nat.reduceAdd, Nat.reduceSub, Array.replicate_succ, Array.replicate_zero, List.push_toArray, List.append_toArray, List.nil_append, List.cons_append]
  go_upto_region 2 with (fail)
  have B1 := below_alloc (Below.refl w.heap.size w) (.cells #[.pointer (some ⟨g, 0, none⟩)] 59)
  have bS := Boxed.new w 59 (.pointer (some ⟨g, 0, none⟩))
  obtain ⟨wa, hwa⟩ : ∃ W, w.alloc (.cells #[.pointer (some ⟨g, 0, none⟩)] 59) = W := ⟨_, rfl⟩
  have sza : wa.heap.size = w.heap.size + 1 := by rw [← hwa]; simp
  rw [hwa] at B1 bS ⊢
  have B2 := below_alloc (Below.refl wa.heap.size wa) (.cells #[.slice none 0 0] 61)
  have bO := Boxed.new wa 61 (.slice none 0 0)
  rw [sza] at bO
  obtain ⟨wb, hwb⟩ : ∃ W, wa.alloc (.cells #[.slice none 0 0] 61) = W := ⟨_, rfl⟩
  have szb : wb.heap.size = w.heap.size + 1 + 1 := by rw [← hwb, World.size_alloc, sza]
  rw [hwb] at B2 bO ⊢
  have hT := (h.below B1).below B2
  have HBW := Aside0.mk (B1.trans (B2.mono B1.size))
  have HS := Aside0.mk (box_belowL bS B2)
  have HO := Aside0.mk bO
  have HT := Aside0.mk hT
  have HGL := Aside0.mk (show g < w.heap.size from by obtain ⟨_, _, _, h1, _⟩ := h; exact blk_lt h1)
  obtain ⟨vg, vu, vf, b1, b2, b3, b4, b5⟩ := hT
  obtain ⟨Au, cu, rfl⟩ := Kd.R_slice b4
  have c1 := cell3_1 b1
  have HR4 := Aside0.mk b4
  have cS := HS.out.cell
  clear b1 b2 b3 b4 b5 hwa hwb B1 B2 bS bO h hB
  go_wp2_with (fail)
  refine (sets_Set_All.calls Au cu used wb (Kd.R_reads' HR4.out).2.2 (Kd.R_reads' HR4.out).2.1).mono ?_
  rintro e w9 ⟨rfl, v9, hcl9, hR9, hlt9, hb9⟩
  rw [walked_good HX.out] at hR9
  rw [szb] at hcl9 hR9 hlt9
  have HT9 := Aside0.mk (HT.out.below hb9)
  have HS9 := Aside0.mk (box_belowL HS.out hb9)
  have HO9 := Aside0.mk (box_belowL HO.out hb9)
  have HBW9 := Aside0.mk (HBW.out.trans (hb9.mono HBW.out.size))
  have hv9 : ∀ b, v9.ownBlock = some b → w.heap.size + 1 + 1 < b ∧ b < w9.heap.size := fun b e => by
    have := (Kd.R_bound hR9).1 b e
    omega
  have hs9 : w.heap.size + 1 + 1 ≤ w9.heap.size := by have := hb9.size; omega
  clear hb9 HT HS HO HBW HR4 c1 cS
  simp only [szb]
  clear szb sza
  go_wp2_with (fail)
  rename_i K1 hK1
  have HK1 := Aside0.mk hK1
  have HV9 := Aside0.mk (And.intro hv9 (And.intro hs9 hlt9))
  clear hK1 hu hul
  refine (wpIn_wide (n := 9)).1 ?_
  refine wpIn_rangeFunc_ownG rfl (by omega) (gf := 58) (lb := #[.pointer (some ⟨w.heap.size + 1 + 1, 0, none⟩)]) rfl trivial (enters_of Try.func58 (by kernel_rfl) rfl)
    (sets_walk_stops Fence.wide (9 - 1) trivial rfl (by omega) (fun x => x ∈ elems 0 used) (w.heap.size + 1 + 1) (w.heap.size + 1 + 1 + 1) (fun _ => True) v9 used HX.out.len HX.out.words (fun _ h => h) w9 (by omega) hcl9 hR9) keepV_t (putObj_keepV (fun b e => (hv9 b e).2)) (Below.refl _ _) (fun _ => rfl)
    (fun pre W => (∃ v, Boxed W (w.heap.size + 1) 61 v ∧ Kd.R k64 64 W w9.heap.size (fun _ => True) v (pre.map (fun x => (⟨x.1, rd gens x.1⟩ : S64)))) ∧ KeepZ (w.heap.size + 1) w9 W ∧ Below w.heap.size w W)
    (fun c pre W => False)
    (OwnFrom.and (fun s A B row hs hg hr => by
      obtain ⟨v, h1, h2⟩ := hs
      have hr' : ∀ r, row = some r → ∃ o : Obj, A.heap[r]? = some o ∧ o.isCells = false := fun r e => (hr r e).2
      exact ⟨v, box_rowfree h1 hg hr', R_rowfree h2 hg hr'⟩) (OwnFrom.and (keepZ_own _ _) (ownFrom_below (by omega) (by omega))))
    (fun c => fun s A B row hs hg hr => hs)
    ⟨⟨_, HO9.out, Kd.R_nil _ _ _ _ _⟩, ⟨Nat.le_refl _, fun _ _ _ => rfl⟩, HBW9.out⟩
    (fun x => { tmps := #[.pointer (some ⟨g, 0, none⟩), .pointer (some ⟨w.heap.size, 0, none⟩), .slice none 0 0, .pointer (some ⟨w.heap.size + 1, 0, none⟩), .int .i64 x.1, .pointer (some ⟨g, 0, none⟩), .pointer (some ⟨g, 0, none⟩), .pointer (some ⟨g, 1, none⟩), .slice Au used.length cu, .func (.func 58) #[] #[.pointer (some ⟨w.heap.size + 1 + 1, 0, none⟩)], .int .i64 x.1, undef, undef, undef, undef, undef, undef, undef, undef, undef, undef, undef, undef, undef], defers := [] }) ?assign ?body ?done ?stop
  case assign =>
    intro l x W K hK
    gi_wp2
    first | exact hK | simpa using hK
  case body =>
    rintro l pre ⟨x, hx⟩ W ⟨⟨v, bo, hro⟩, hK, hBW⟩ hlen
    have cO := bo.cell
    have fO := bo.frozen
    have hs := (HS9.out : _)
    have bS := (hK.same w.heap.size (blk_lt HS9.out) (by omega)).trans HS9.out
    have cS : W.cell? ⟨w.heap.size, 0, none⟩ = some (.pointer (some ⟨g, 0, none⟩)) := Boxed.cell (t := 59) bS
    have hxr := HUL.out x hx
    obtain ⟨gb, c, A, B, b1, hgb, ⟨cs3, hcs3⟩, hcell⟩ := HT9.out.blk (by omega)
    have b1W := (hK.same g (Nat.lt_of_lt_of_le HGL.out HBW9.out.size) (by have := HGL.out; omega)).trans b1
    have c0 := cell3_0 b1W
    obtain ⟨n, hn⟩ : ∃ n : Nat, x = (n : Int) := ⟨x.toNat, by omega⟩
    subst hn
    have hcn := hcell n (by omega)
    have hgbne : gb ≠ w.heap.size + 1 := by
      rintro rfl
      have := HO9.out
      unfold Boxed at this
      rw [hcs3] at this
      cases this
    have hbl : gb < w9.heap.size := blk_lt hcs3
    have hcn : W.cell? ⟨gb, n, none⟩ = some (.int .i64 (rd gens n)) := by
      have e : W.heap[gb]? = w9.heap[gb]? := hK.same gb hbl hgbne
      simp only [World.cell?, e] at hcn ⊢
      exact hcn
    have f0 : (n : Int) < (gens.length : Int) := hxr.2
    have f1 : (0 : Int) ≤ (n : Int) := hxr.1
    have hmix : Try.prog.follows .mixedOrders = true := by kernel_rfl
    gi_wp2
    have hbW : Below w9.heap.size W.drew W.drew := Below.refl _ _
    obtain ⟨v1, w1, hrun, hR1, hB1, hg1, hat1⟩ := R_append_run k64 (w0 := W.drew) (W := W.drew) w9.heap.size 61 61 64 (.agg #[.int .i64 0, .int .i64 0]) 16 Try.underlying61 infoE rfl (by decide) (by decide) v _ (⟨n, rd gens n⟩ : S64) [.int .i64 n, .int .i64 (rd gens n)] (fun _ => True) (fun _ => False) (k64_mkM _ _ _ _) (fun _ hk => hk.elim) (fun _ _ => trivial) (Kd.R_drew hro) (Below.refl _ _) hK.size (by rw [List.length_map]; have := elems_length used 0 HX.out.words; have := HX.out.len; omega)
    obtain ⟨b1o, cap1, rfl, _⟩ := Kd.R_form hR1 (by simp)
    have hne1 : some (w.heap.size + 1) ≠ v.ownBlock := Kd.R_ne hro bo (by decide)
    have bo1 : Boxed w1 (w.heap.size + 1) 61 v := blk_grown (show W.drew.heap[w.heap.size + 1]? = _ from bo) hg1 hne1
    have c1O := bo1.cell
    have f1O := bo1.frozen
    have hrun' : Sem.run Try.prog (myAppend #[61, 61] 61 #[v, .slice (some ⟨W.heap.size, 0, none⟩) 1 1]) (W.alloc (.cells #[.int .i64 n, .int .i64 (rd gens n)] 64)).drew = _ := hrun
    have cO2 : (W.alloc (.cells #[.int .i64 n, .int .i64 (rd gens n)] 64)).cell? ⟨w.heap.size + 1, 0, none⟩ = some v := ((below_alloc (Below.refl W.heap.size W) _).cell (p := ⟨w.heap.size + 1, 0, none⟩) (blk_lt bo)).trans cO
    have HRR := Aside0.mk (And.intro hR1 (And.intro hg1 (And.intro hB1 (And.intro bo1 hro))))
    have HBO := Aside0.mk (And.intro bo (And.intro hK (And.intro hBW hlen)))
    clear hrun hR1 hg1 hat1 hB1 hro bo hK hBW hlen hs bS hxr b1 hgb hcs3 hcell b1W hgbne hbl hcl9 hR9 hlt9 hv9 hs9 bo1 hne1 hbW
    refine list_region (l := l) cO cS c0 hcn f0 f1 cO2 hrun' c1O f1O ?_
    have h1 := HRR.out
    obtain ⟨hR1, hg1, hB1, bo1, hro⟩ := h1
    have h2 := HBO.out
    obtain ⟨bo, hK, hBW, hlen⟩ := h2
    have h3 := HV9.out
    obtain ⟨hv9, hs9, hlt9⟩ := h3
    have hbase : ∀ j, v.ownBlock = some j → w9.heap.size ≤ j := fun j e => ((Kd.R_bound hro).1 j e).2.1
    have hcell : ∀ (j : Nat) (o : Obj), v.ownBlock = some j → W.drew.heap[j]? = some o → o.isCells = true := by
      intro j o e ho
      obtain ⟨_, _, _, _, _, cells, hc⟩ := (Kd.R_bound hro).1 j e
      have ho : W.heap[j]? = some o := ho
      rw [hc] at ho
      injection ho with ho
      subst ho
      rfl
    have hfar : ∀ b, b < w9.heap.size → b ≠ w.heap.size + 1 → ∀ u, (w1.setCell ⟨w.heap.size + 1, 0, none⟩ u).heap[b]? = W.heap[b]? := fun b hb hne u =>
      (Below.heap_setCell w1 ⟨w.heap.size + 1, 0, none⟩ u b hne).trans (hg1.block b (Nat.lt_of_lt_of_le hb hK.size) (fun e => by have := hbase b e.symm; omega))
    refine ⟨((KeepsOthers.drew W).trans ((KeepsOthers.of_grownBy hg1 hcell).trans (KeepsOthers.setCell w1 _ _))).from _, fun b e => hfar b (hv9 b e).2 (by have := (hv9 b e).1; omega) _, ⟨_, bo1.set _, ?_⟩, ⟨Nat.le_trans hK.size (by rw [World.size_setCell]; exact hB1.size), fun b hb hne => (hfar b hb hne _).trans (hK.same b hb hne)⟩, (hBW.trans ((below_drew (Below.refl _ W)).trans (hB1.mono (by omega)))).setCell (p := ⟨w.heap.size + 1, 0, none⟩) (Nat.le_succ _) _⟩
    have := Kd.R_set hR1 bo1 (by decide) 0 (.slice (some ⟨b1o, 0, none⟩) (List.map (fun (x : {x : Int // x ∈ elems 0 used}) => (⟨x.1, rd gens x.1⟩ : S64)) pre ++ [(⟨n, rd gens n⟩ : S64)]).length cap1)
    rw [List.map_append]
    exact this
  case done =>
    rintro D ys W hD hys ⟨⟨v, bn, hro⟩, hK, hBW⟩ hKD
    have HF := Aside0.mk (And.intro hro (And.intro hBW (And.intro hK (And.intro hKD hys))))
    have cn := bn.cell
    clear bn hro hBW hK hKD hys
    refine HK1.out _ _ ?_
    go_wp2
    obtain ⟨hro, hBW, hK, hKD, hys⟩ := HF.out
    refine ⟨by simp, .inl ⟨_, _, rfl, run_takeDeferred hKD, ?_⟩⟩
    have hDr : ∀ r, some D = some r → ∃ o : Obj, W.heap[r]? = some o ∧ o.isCells = false := fun r e => by
      injection e with e
      subst e
      exact ⟨_, hKD, rfl⟩
    have hfin : Kd.R k64 64 (W.putObj D (.deferred none)) w.heap.size (fun _ => True) v (listF gens used) := by
      have := Kd.R_lower (R_rowfree hro (grownBy_putObj' W D (.deferred none)) hDr) (show w.heap.size ≤ w9.heap.size by have := HV9.out.2.1; omega)
      unfold listF
      rw [← hys, List.map_map]
      exact this
    exact ⟨_, results_tmp (t := 2) rfl _ _ _, v, rfl, hfin, hBW.trans (belowK_b (w := w) (Nat.le_refl _) W D _ _ (by have := HV9.out.2.1; omega) hKD rfl rfl)⟩
  case stop =>
    rintro D c pre W hD hpre hf hKD
    exact hf.elim
end Go.Proofs.Ytknmlikjmnhgkaa.P
