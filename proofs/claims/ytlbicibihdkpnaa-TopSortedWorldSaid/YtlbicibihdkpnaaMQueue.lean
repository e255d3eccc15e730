/- A binary heap as a list: what Put and Take do to it. No condition. Package queue: before, Len; how a queue lies in memory. No condition. Package queue: Put of an entity. Conditions: not full, few have come. Package queue: Take of an entity. Condition: few items. Package queue: before, Len; how a queue lies in memory. No condition. Package queue: Put. Under way. No condition. Package queue: Take. Under way. No condition. A binary heap as a list: Put and Take keep the heap's order and the items; the first one comes out first. No condition. Package queue: Sort. Under way. No condition. The plain law of TopSortedWorld: a queue, a sorted list of places and picking the least give the same. No condition. -/
import Derived.Test.YtlbicibihdkpnaaPAllx0
import Derived.BigRegion
import Derived.Deep.RegionHeld3
import Derived.Deep.QuietTactic
import Derived.BigQuiet
import Derived.Deep.RegionLaw
namespace Go.Proofs.Ytlbicibihdkpnaa.P
set_option linter.unusedVariables false

abbrev It (α : Type) := α × Int × Int
section
variable {α : Type} [Inhabited α]
/-- comes out before: by the number, then by when it came -/
def ltI (a b : It α) : Bool := if a.2.1 = b.2.1 then decide (a.2.2 < b.2.2) else decide (a.2.1 < b.2.1)
def at0 (l : List (It α)) (i : Nat) : It α := l.getD i (default, 0, 0)
def swp (l : List (It α)) (i k : Nat) : List (It α) := (l.set i (at0 l k)).set k (at0 l i)
/-- item i goes up -/
def up (i : Nat) (l : List (It α)) : List (It α) := if h : 0 < i ∧ ltI (at0 l i) (at0 l ((i - 1) / 2)) = true then up ((i - 1) / 2) (swp l i ((i - 1) / 2)) else l
termination_by i
decreasing_by omega
theorem up_step (i : Nat) (l : List (It α)) (h0 : 0 < i) (h : ltI (at0 l i) (at0 l ((i - 1) / 2)) = true) : up i l = up ((i - 1) / 2) (swp l i ((i - 1) / 2)) := by
  rw [up, dif_pos ⟨h0, h⟩]
theorem up_stop (i : Nat) (l : List (It α)) (h : ¬ (0 < i ∧ ltI (at0 l i) (at0 l ((i - 1) / 2)) = true)) : up i l = l := by
  rw [up, dif_neg h]
theorem swp_length (l : List (It α)) (i k : Nat) : (swp l i k).length = l.length := by simp [swp]
/-- the child that comes out first -/
def kid (i n : Nat) (l : List (It α)) : Nat := if 2 * i + 2 < n ∧ ltI (at0 l (2 * i + 2)) (at0 l (2 * i + 1)) = true then 2 * i + 2 else 2 * i + 1
theorem kid_gt (i n : Nat) (l : List (It α)) : i < kid i n l := by unfold kid; split <;> omega
/-- item i goes down, among n -/
def down (i n : Nat) (l : List (It α)) : List (It α) := if h : kid i n l < n ∧ ltI (at0 l i) (at0 l (kid i n l)) = false then down (kid i n l) n (swp l i (kid i n l)) else l
termination_by n - i
decreasing_by have := kid_gt i n l; omega
theorem down_step (i n : Nat) (l : List (It α)) (h : kid i n l < n ∧ ltI (at0 l i) (at0 l (kid i n l)) = false) : down i n l = down (kid i n l) n (swp l i (kid i n l)) := by
  rw [down, dif_pos h]
theorem down_stop (i n : Nat) (l : List (It α)) (h : ¬ (kid i n l < n ∧ ltI (at0 l i) (at0 l (kid i n l)) = false)) : down i n l = l := by
  rw [down, dif_neg h]
end
end Go.Proofs.Ytlbicibihdkpnaa.P
namespace Go.Proofs.Ytlbicibihdkpnaa.P.E
open Go.RowKit Go.Proofs.YtlbicibihdkpnaaW.PrintWords Go.Proofs.YtlbicibihdkpnaaW.PrintLast Go.Proofs.YtlbicibihdkpnaaW.PrintMore
set_option linter.unusedVariables false
set_option linter.unusedSimpArgs false

theorem lt_cell {w : World} {b off : Nat} {v : Value} (h : w.cell? ⟨b, off, none⟩ = some v) : b < w.heap.size := by
  apply Classical.byContradiction
  intro hn
  unfold World.cell? at h
  rw [Array.getElem?_eq_none (by show w.heap.size ≤ b; omega)] at h
  simp at h
set_option maxHeartbeats 4000000 in
set_option maxRecDepth 100000 in
theorem queue_before.calls (g gb n cap : Nat) (i k : Nat) (vi vk : Int × Int) (ri ci rk ck : Int) (w : World)
    (hq : w.cell? ⟨g, 0, none⟩ = some (.slice (some ⟨gb, 0, none⟩) n cap)) (hi : i < n) (hk : k < n)
    (i0 : w.cell? ⟨gb, i * 4, none⟩ = some (.int .i64 vi.1)) (i3 : w.cell? ⟨gb, i * 4 + 1, none⟩ = some (.int .i64 vi.2)) (i1 : w.cell? ⟨gb, i * 4 + 2, none⟩ = some (.int .i64 ri)) (i2 : w.cell? ⟨gb, i * 4 + 3, none⟩ = some (.int .i64 ci))
    (k0 : w.cell? ⟨gb, k * 4, none⟩ = some (.int .i64 vk.1)) (k3 : w.cell? ⟨gb, k * 4 + 1, none⟩ = some (.int .i64 vk.2)) (k1 : w.cell? ⟨gb, k * 4 + 2, none⟩ = some (.int .i64 rk)) (k2 : w.cell? ⟨gb, k * 4 + 3, none⟩ = some (.int .i64 ck)) (r : Bool) (h : (if ri = rk then decide (ci < ck) else decide (ri < rk)) = r) :
    Calls Try.prog 24 #[.pointer (some ⟨g, 0, none⟩), .int .i64 i, .int .i64 k] w fun e w' => e = .returned (.bool r) ∧ Below w.heap.size w w' := by
  have f0 : (0 : Int) ≤ (i : Int) := by omega
  have f1 : (i : Int) < (n : Int) := by omega
  have f2 : (0 : Int) ≤ (k : Int) := by omega
  have f3 : (k : Int) < (n : Int) := by omega
  go_enter Try.func24, Try.ntmps24
  go_wp2
  have hgl : g < w.heap.size := lt_cell hq
  have hbl : gb < w.heap.size := lt_cell i0
  have HK := Aside0.mk (show ∀ w', Below w.heap.size w w' → w'.cell? ⟨g, 0, none⟩ = some (.slice (some ⟨gb, 0, none⟩) n cap) ∧ w'.cell? ⟨gb, i * 4, none⟩ = some (.int .i64 vi.1) ∧ w'.cell? ⟨gb, i * 4 + 1, none⟩ = some (.int .i64 vi.2) ∧ w'.cell? ⟨gb, i * 4 + 2, none⟩ = some (.int .i64 ri) ∧ w'.cell? ⟨gb, i * 4 + 3, none⟩ = some (.int .i64 ci) ∧ w'.cell? ⟨gb, k * 4, none⟩ = some (.int .i64 vk.1) ∧ w'.cell? ⟨gb, k * 4 + 1, none⟩ = some (.int .i64 vk.2) ∧ w'.cell? ⟨gb, k * 4 + 2, none⟩ = some (.int .i64 rk) ∧ w'.cell? ⟨gb, k * 4 + 3, none⟩ = some (.int .i64 ck) from fun w' hb => ⟨(hb.cell (p := ⟨g, 0, none⟩) hgl).trans hq, (hb.cell (p := ⟨gb, i * 4, none⟩) hbl).trans i0, (hb.cell (p := ⟨gb, i * 4 + 1, none⟩) hbl).trans i3, (hb.cell (p := ⟨gb, i * 4 + 2, none⟩) hbl).trans i1, (hb.cell (p := ⟨gb, i * 4 + 3, none⟩) hbl).trans i2, (hb.cell (p := ⟨gb, k * 4, none⟩) hbl).trans k0, (hb.cell (p := ⟨gb, k * 4 + 1, none⟩) hbl).trans k3, (hb.cell (p := ⟨gb, k * 4 + 2, none⟩) hbl).trans k1, (hb.cell (p := ⟨gb, k * 4 + 3, none⟩) hbl).trans k2⟩)
  have B0 := Below.refl w.heap.size w
  go_region_held3 (fun w' => w'.cell? ⟨g, 0, none⟩ = some (.slice (some ⟨gb, 0, none⟩) n cap) ∧ w'.cell? ⟨gb, i * 4, none⟩ = some (.int .i64 vi.1) ∧ w'.cell? ⟨gb, i * 4 + 1, none⟩ = some (.int .i64 vi.2) ∧ w'.cell? ⟨gb, i * 4 + 2, none⟩ = some (.int .i64 ri) ∧ w'.cell? ⟨gb, i * 4 + 3, none⟩ = some (.int .i64 ci) ∧ w'.cell? ⟨gb, k * 4, none⟩ = some (.int .i64 vk.1) ∧ w'.cell? ⟨gb, k * 4 + 1, none⟩ = some (.int .i64 vk.2) ∧ w'.cell? ⟨gb, k * 4 + 2, none⟩ = some (.int .i64 rk) ∧ w'.cell? ⟨gb, k * 4 + 3, none⟩ = some (.int .i64 ck))
    (exact HK.out _ (by with_reducible repeat (first | assumption | apply pw_below_drewN | apply below_drew1 | apply below_alloc)))
    (fail)
  all_goals
    clear HK hq hi hk i0 i1 i2 i3 k0 k1 k2 k3 f0 f1 f2 f3
    by_cases hr : ri = rk
    · have d1 : (ri != rk) = false := by simp [hr]
      rw [if_pos hr] at h
      subst hr h
      go_wp2
      go_ret
      exact ⟨rfl, (below_drew ((B0.alloc (Nat.le_refl _) _).alloc (by rw [World.size_alloc]; exact Nat.le_succ _) _))⟩
    · have d1 : (ri != rk) = true := by simpa using hr
      rw [if_neg hr] at h
      subst h
      go_wp2
      go_ret
      exact ⟨rfl, (below_drew ((B0.alloc (Nat.le_refl _) _).alloc (by rw [World.size_alloc]; exact Nat.le_succ _) _))⟩

theorem results_tmp3 {fn : Func} {t u s : Tmp} (h : fn.results = #[.tmp t, .tmp u, .tmp s]) (tmps : Array Value) (P : Program) (w : World) :
    (results fn tmps).run P w = .ok (.tuple #[tmps.getD t undef, tmps.getD u undef, tmps.getD s undef]) w := by
  simp [results, h, go_sem]
/-- an item: its value, its number, when it came -/
def itK : Kd (It (Int × Int)) := Kd.pair (Kd.pair (Kd.int .i64) (Kd.int .i64)) (Kd.pair (Kd.int .i64) (Kd.int .i64))
theorem infoIt : (Try.prog.info? 76).map (fun i => (i.zero, i.size, i.bytes)) = some (some (.agg #[.int .i64 0, .int .i64 0, .int .i64 0, .int .i64 0]), 4, 32) := by kernel_rfl
/-- A queue at block g: its items are l, n items have come. -/
def IsQ (w0 W : World) (g : Nat) (l : List (It (Int × Int))) (n : Int) : Prop :=
  ∃ v, W.heap[g]? = some (.cells #[v, .int .i64 n] 40 (0, 0)) ∧ w0.heap.size ≤ g ∧ Kd.R itK 76 W w0.heap.size (fun _ => True) v l
theorem itK_M {w : World} {base : Nat} {ok : Nat → Prop} {x : It (Int × Int)} {cs : List Value} : itK.M w base ok x cs ↔ cs = [.int .i64 x.1.1, .int .i64 x.1.2, .int .i64 x.2.1, .int .i64 x.2.2] := by
  constructor
  · rintro ⟨c0, c1, rfl, ⟨d0, d1, rfl, g0, g1⟩, c2, c3, rfl, h1, h2⟩
    have g0 : d0 = _ := g0
    have g1 : d1 = _ := g1
    have h1 : c2 = _ := h1
    have h2 : c3 = _ := h2
    subst g0 g1 h1 h2
    rfl
  · rintro rfl
    exact ⟨[_, _], [_, _], rfl, ⟨[_], [_], rfl, rfl, rfl⟩, [_], [_], rfl, rfl, rfl⟩
theorem Q_len (w : World) (w0 : World) (g : Nat) (l : List (It (Int × Int))) (n : Int) (h : IsQ w0 w g l n) : Calls Try.prog 12 #[.pointer (some ⟨g, 0, none⟩)] w fun e w' => e = .returned (.int .i64 l.length) ∧ w = w' := by
  obtain ⟨v, hb, _, hR⟩ := h
  obtain ⟨A, c, rfl⟩ := Kd.R_slice hR
  have h0 : w.cell? ⟨g, 0, none⟩ = some (.slice A l.length c) := by simp [World.cell?, hb]
  clear hR hb
  go_enter Try.func12, Try.ntmps12
  go_wp2
  go_ret
  exact ⟨rfl, rfl⟩
theorem IsQ.cells {w0 w : World} {g : Nat} {l : List (It (Int × Int))} {n : Int} (h : IsQ w0 w g l n) (hl : 0 < l.length) : ∃ gb cap, w.heap[g]? = some (.cells #[.slice (some ⟨gb, 0, none⟩) l.length cap, .int .i64 n] 40 (0, 0)) ∧ l.length ≤ cap ∧ w0.heap.size ≤ gb ∧ gb ≠ g ∧
    Kd.R itK 76 w w0.heap.size (fun _ => True) (.slice (some ⟨gb, 0, none⟩) l.length cap) l ∧
    ∀ i, i < l.length → w.cell? ⟨gb, i * 4, none⟩ = some (.int .i64 (l.getD i (default, 0, 0)).1.1) ∧ w.cell? ⟨gb, i * 4 + 1, none⟩ = some (.int .i64 (l.getD i (default, 0, 0)).1.2) ∧ w.cell? ⟨gb, i * 4 + 2, none⟩ = some (.int .i64 (l.getD i (default, 0, 0)).2.1) ∧ w.cell? ⟨gb, i * 4 + 3, none⟩ = some (.int .i64 (l.getD i (default, 0, 0)).2.2) := by
  obtain ⟨v, hb, hg, hR⟩ := h
  obtain ⟨gb, cap, rfl, h1, h2, cells, h3⟩ := Kd.R_form hR hl
  refine ⟨gb, cap, hb, (Kd.R_reads' hR).2.1, h1, ?_, hR, fun i hi => ?_⟩
  · rintro rfl
    rw [hb] at h3
    injection h3 with h3
    injection h3 with _ h3
    cases h3
  · obtain ⟨c, hc, hM, hcell, _⟩ := Kd.R_elem hR (default, 0, 0) (i : Int) (by omega) (by omega)
    rw [itK_M] at hM
    subst hM
    exact ⟨hcell 0 _ rfl, hcell 1 _ rfl, hcell 2 _ rfl, hcell 3 _ rfl⟩
/-- item i is written, a cell at a time -/
theorem Q_seti {w0 W : World} {g b n cap : Nat} {l : List (It (Int × Int))} {A B : Value} (hG : W.heap[g]? = some (.cells #[A, B] 40 (0, 0))) (hR : Kd.R itK 76 W w0.heap.size (fun _ => True) (.slice (some ⟨b, 0, none⟩) n cap) l) (hB : Below w0.heap.size w0 W) (i : Nat) (hi : i < l.length) (x : It (Int × Int)) :
    ((((W.setCell ⟨b, i * 4, none⟩ (.int .i64 x.1.1)).setCell ⟨b, i * 4 + 1, none⟩ (.int .i64 x.1.2)).setCell ⟨b, i * 4 + 2, none⟩ (.int .i64 x.2.1)).setCell ⟨b, i * 4 + 3, none⟩ (.int .i64 x.2.2)).heap[g]? = some (.cells #[A, B] 40 (0, 0)) ∧
    Kd.R itK 76 ((((W.setCell ⟨b, i * 4, none⟩ (.int .i64 x.1.1)).setCell ⟨b, i * 4 + 1, none⟩ (.int .i64 x.1.2)).setCell ⟨b, i * 4 + 2, none⟩ (.int .i64 x.2.1)).setCell ⟨b, i * 4 + 3, none⟩ (.int .i64 x.2.2)) w0.heap.size (fun _ => True) (.slice (some ⟨b, 0, none⟩) n cap) (l.set i x) ∧
    Below w0.heap.size w0 ((((W.setCell ⟨b, i * 4, none⟩ (.int .i64 x.1.1)).setCell ⟨b, i * 4 + 1, none⟩ (.int .i64 x.1.2)).setCell ⟨b, i * 4 + 2, none⟩ (.int .i64 x.2.1)).setCell ⟨b, i * 4 + 3, none⟩ (.int .i64 x.2.2)) := by
  have hn := (Kd.R_reads' hR).1
  obtain ⟨gq, cq, eq, hb, _, cells, hcells⟩ := Kd.R_form hR (by omega)
  injection eq with eq _ _
  injection eq with eq
  injection eq with eq
  subst eq
  have hne : g ≠ b := blk_ne hG hcells (by decide)
  obtain ⟨c, hcl, hM, hcc, _⟩ := Kd.R_elem hR (default, 0, 0) (i : Int) (by omega) (by omega)
  have h3 := Kd.R_seg hR (i : Int) (by omega) (by omega) (j := 0) (seg := [.int .i64 x.1.1, .int .i64 x.1.2, .int .i64 x.2.1, .int .i64 x.2.2]) (x' := x) (okp := fun _ => False) hcl hcc (by show 4 ≤ 4; omega) (by
    rw [itK_M]
    have : c.length = 4 := hcl
    simp [this]) (fun _ hk => hk.elim)
  exact ⟨blk_grown hG h3.2 (by simpa using hne), h3.1, (((hB.setCell (p := ⟨b, i * 4, none⟩) hb _).setCell (p := ⟨b, i * 4 + 1, none⟩) hb _).setCell (p := ⟨b, i * 4 + 2, none⟩) hb _).setCell (p := ⟨b, i * 4 + 3, none⟩) hb _⟩
/-- three cells of block b are written: the other blocks -/
theorem set3_far {W : World} {b i j k q : Nat} (h : q ≠ b) (x y z : Value) : (((W.setCell ⟨b, i, none⟩ x).setCell ⟨b, j, none⟩ y).setCell ⟨b, k, none⟩ z).heap[q]? = W.heap[q]? :=
  (Below.heap_setCell _ ⟨b, k, none⟩ z q h).trans ((Below.heap_setCell _ ⟨b, j, none⟩ y q h).trans (Below.heap_setCell _ ⟨b, i, none⟩ x q h))
theorem cell_q0 {W : World} {g : Nat} {a b : Value} {t : TypeId} (h : W.heap[g]? = some (.cells #[a, b] t (0, 0))) : W.cell? ⟨g, 0, none⟩ = some a := by simp [World.cell?, h]
theorem cell_q1 {W : World} {g : Nat} {a b : Value} {t : TypeId} (h : W.heap[g]? = some (.cells #[a, b] t (0, 0))) : W.cell? ⟨g, 1, none⟩ = some b := by simp [World.cell?, h]
end Go.Proofs.Ytlbicibihdkpnaa.P.E

namespace Go.Proofs.Ytlbicibihdkpnaa.P.E
open Go.RowKit Go.Proofs.YtlbicibihdkpnaaW.PrintWords Go.Proofs.YtlbicibihdkpnaaW.PrintLast Go.Proofs.YtlbicibihdkpnaaW.PrintMore
set_option linter.unusedVariables false
set_option linter.unusedSimpArgs false

set_option maxHeartbeats 4000000 in
set_option maxRecDepth 100000 in
theorem Q_put (w : World) (w0 : World) (g : Nat) (l : List (It (Int × Int))) (n r : Int) (v : Int × Int) (h : IsQ w0 w g l n) (hB : Below w0.heap.size w0 w) (hl : l.length < 4096) (hn : 0 ≤ n ∧ n < 100000) : Calls Try.prog 8 #[.pointer (some ⟨g, 0, none⟩), .agg #[.int .i64 v.1, .int .i64 v.2], .int .i64 r] w fun e w' => e = .returned (.int .i64 0) ∧ IsQ w0 w' g (up l.length (l ++ [(v, r, n)])) (n + 1) ∧ Below w0.heap.size w0 w' := by
  obtain ⟨v0, hb, hg, hR⟩ := h
  obtain ⟨A, c, rfl⟩ := Kd.R_slice hR
  obtain ⟨va, vb⟩ := v
  have HGE := Aside0.mk hg
  have f0 : ¬ ((l.length : Int) ≥ 4096) := by omega
  have d0 : decide ((4096 : Int) ≤ (l.length : Int)) = false := decide_eq_false (by omega)
  have b1 := below_alloc (Below.refl w.heap.size w) (.cells #[.int .i64 va, .int .i64 vb] 31)
  have HB1 := Aside0.mk (below_step hB b1)
  have HR1 := Aside0.mk (Kd.R_below hR b1)
  have HG1 := Aside0.mk (blk_below hb b1)
  have HX1 := Aside0.mk (blk_new w (.cells #[.int .i64 va, .int .i64 vb] 31))
  go_enter Try.func8, Try.ntmps8
  go_upto_region 1 with (fail)
  obtain ⟨w1, hw1⟩ : ∃ W, w.alloc (.cells #[.int .i64 va, .int .i64 vb] 31) = W := ⟨_, rfl⟩
  obtain ⟨gx, hgx⟩ : ∃ k, w.heap.size = k := ⟨_, rfl⟩
  rw [hw1] at HB1 HR1 HG1 HX1 ⊢
  rw [hgx] at HX1 ⊢
  clear b1 hb hg hR hB hw1
  have HB := HB1
  have HR := HR1
  have HG := HG1
  have c0 : w1.cell? ⟨g, 0, none⟩ = some (.slice A l.length c) := cell_q0 HG.out
  have c1 : w1.cell? ⟨g, 1, none⟩ = some (.int .i64 n) := cell_q1 HG.out
  have c2 : w1.cell? ⟨gx, 0, none⟩ = some (.int .i64 va) := cell_q0 HX1.out
  have c3 : w1.cell? ⟨gx, 1, none⟩ = some (.int .i64 vb) := cell_q1 HX1.out
  have z0 := blk_frozen HG.out 0
  have z1 := blk_frozen HG.out 1
  clear HB1 HR1 HG1
  go_upto_region 3 with (fail)
  go_cut [27] (fun v27 wc => ∃ (b cap : Nat), v27 = .slice (some ⟨b, 0, none⟩) (l.length + 1) cap ∧ Aside0 (wc.heap[g]? = some (.cells #[.slice (some ⟨b, 0, none⟩) (l.length + 1) cap, .int .i64 n] 40 (0, 0)) ∧ Kd.R itK 76 wc w0.heap.size (fun _ => True) (.slice (some ⟨b, 0, none⟩) (l.length + 1) cap) (l ++ [((va, vb), r, n)]) ∧ Below w0.heap.size w0 wc))
  case rest =>
    obtain ⟨b, cap, rfl, HC⟩ := hcut
    obtain ⟨hGc, hRc, hBc⟩ := HC.out
    have a0 := cell_q0 hGc
    have a1 := cell_q1 hGc
    have b0 := blk_frozen hGc 0
    have b1 := blk_frozen hGc 1
    have hw1 : IntKind.i64.wrap (n + 1) = n + 1 := by rw [IntKind.wrap_i64]; omega
    have hS := blk_set hGc 1 (.int .i64 (n + 1))
    have hRS := Kd.R_set hRc hGc (by decide) 1 (.int .i64 (n + 1))
    have hBS := hBc.setCell (p := ⟨g, 1, none⟩) HGE.out (.int .i64 (n + 1))
    obtain ⟨w3, hw3⟩ : ∃ W, wc.setCell ⟨g, 1, none⟩ (.int .i64 (n + 1)) = W := ⟨_, rfl⟩
    rw [hw3] at hS hRS hBS
    have a3 : w3.cell? ⟨g, 0, none⟩ = some (.slice (some ⟨b, 0, none⟩) (l.length + 1) cap) := cell_q0 hS
    have HS := Aside0.mk (And.intro hS (And.intro hRS hBS))
    clear hGc hRc hBc hS hRS hBS HC c0 c1 c2 c3 z0 z1 HX1 HB HR HG
    go_wp2_with (fail)
    go_loopg [7] l.length (fun kq v7 w' => ∃ l1 : List (It (Int × Int)), v7 = .int .i64 (kq : Int) ∧ Aside0 (l1.length = l.length + 1 ∧ kq ≤ l.length ∧ up kq l1 = up l.length (l ++ [((va, vb), r, n)])) ∧ Aside0 (w'.heap[g]? = some (.cells #[.slice (some ⟨b, 0, none⟩) (l.length + 1) cap, .int .i64 (n + 1)] 40 (0, 0)) ∧ Kd.R itK 76 w' w0.heap.size (fun _ => True) (.slice (some ⟨b, 0, none⟩) (l.length + 1) cap) l1 ∧ Below w0.heap.size w0 w'))
    case atStart => exact ⟨l ++ [((va, vb), r, n)], by simp, ⟨by simp, Nat.le_refl _, rfl⟩, HS⟩
    case round =>
      obtain ⟨l1, rfl, HL, HS⟩ := hrel
      cases gk with
      | zero =>
        go_wp2
        go_ret
        have hup := HL.out.2.2
        rw [up_stop 0 l1 (by simp)] at hup
        refine ⟨rfl, hup ▸ ⟨_, HS.out.1, HGE.out, ?_⟩, HS.out.2.2⟩
        exact HS.out.2.1
      | succ k =>
        have hk : k < l.length := by have := HL.out.2.1; omega
        have e1 : wrap64 (k : Int) = (k : Int) := by unfold wrap64; omega
        have e2 : Int.tdiv (k : Int) 2 = ((k / 2 : Nat) : Int) := by rw [Int.tdiv_eq_ediv_of_nonneg (by omega)]; omega
        have e3 : wrap64 ((k / 2 : Nat) : Int) = ((k / 2 : Nat) : Int) := by unfold wrap64; omega
        have HE := Aside0.mk (And.intro e1 (And.intro e2 e3))
        have HQ := Aside0.mk (show IsQ w0 wr g l1 (n + 1) from ⟨_, HS.out.1, HGE.out, HS.out.2.1⟩)
        obtain ⟨gb2, cap2, hb2, _, _, hne2, _, hcs⟩ := HQ.out.cells (by have := HL.out.1; omega)
        have hsame : gb2 = b ∧ cap2 = cap := by
          have := hb2.symm.trans HS.out.1
          simp at this
          exact ⟨this.1, this.2.2⟩
        obtain ⟨rfl, rfl⟩ := hsame
        have ci := hcs (k + 1) (by have := HL.out.1; omega)
        have cp := hcs (k / 2) (by have := HL.out.1; omega)
        have HNE := Aside0.mk hne2
        have HST := Aside0.mk (fun h => up_stop (k + 1) l1 h)
        have HUP := Aside0.mk (fun h => up_step (k + 1) l1 (by omega) h)
        obtain ⟨xi, hxi⟩ : ∃ x, at0 l1 (k + 1) = x := ⟨_, rfl⟩
        obtain ⟨xp, hxp⟩ : ∃ x, at0 l1 (k / 2) = x := ⟨_, rfl⟩
        rw [show (k + 1 - 1) / 2 = k / 2 from by omega, hxi, hxp] at HST HUP
        have HXX := Aside0.mk (show swp l1 (k + 1) (k / 2) = (l1.set (k + 1) xp).set (k / 2) xi from by unfold swp; rw [hxi, hxp])
        unfold at0 at hxi hxp
        rw [hxi] at ci
        rw [hxp] at cp
        have HCI := Aside0.mk ci
        have HCP := Aside0.mk cp
        clear ci cp hcs hb2 hne2 hxi hxp
        have q0 := cell_q0 HS.out.1
        go_wp2_with (fail)
        refine (queue_before.calls g gb2 (l.length + 1) cap2 (k + 1) (k / 2) xi.1 xp.1 _ _ _ _ wr q0 (by omega) (by omega) HCI.out.1 HCI.out.2.1 HCI.out.2.2.1 HCI.out.2.2.2 HCP.out.1 HCP.out.2.1 HCP.out.2.2.1 HCP.out.2.2.2 (ltI xi xp) rfl).mono ?_
        rintro e w5 ⟨rfl, hb5⟩
        have HS5 := Aside0.mk (And.intro ((hb5.block g (by have := lt_cell q0; exact this)).trans HS.out.1) (And.intro (Kd.R_below HS.out.2.1 hb5) (HS.out.2.2.trans (hb5.mono HS.out.2.2.size))))
        have HC5 := Aside0.mk (show ∀ p, p < wr.heap.size → ∀ j, w5.cell? ⟨p, j, none⟩ = wr.cell? ⟨p, j, none⟩ from fun p hp j => hb5.cell (p := ⟨p, j, none⟩) hp)
        clear hb5 q0
        by_cases hlt : ltI xi xp = true
        · rw [hlt]
          have HU := Aside0.mk ((HUP.out hlt).symm.trans HL.out.2.2)
          clear hlt HUP HST
          have g0 := cell_q0 HS5.out.1
          have hgl : g < wr.heap.size := lt_cell (cell_q0 HS.out.1)
          have hbl : gb2 < wr.heap.size := lt_cell HCI.out.1
          have ci0 := (HC5.out gb2 hbl _).trans HCI.out.1
          have ci1 := (HC5.out gb2 hbl _).trans HCI.out.2.1
          have ci2 := (HC5.out gb2 hbl _).trans HCI.out.2.2.1
          have ci3 := (HC5.out gb2 hbl _).trans HCI.out.2.2.2
          have cp0 := (HC5.out gb2 hbl _).trans HCP.out.1
          have cp1 := (HC5.out gb2 hbl _).trans HCP.out.2.1
          have cp2 := (HC5.out gb2 hbl _).trans HCP.out.2.2.1
          have cp3 := (HC5.out gb2 hbl _).trans HCP.out.2.2.2
          obtain ⟨cells, hcells⟩ : ∃ cells, w5.heap[gb2]? = some (.cells cells 76 (0, 0)) := by
            obtain ⟨gq, cq, eq, _, _, cells, hcells⟩ := Kd.R_form HS5.out.2.1 (by have := HL.out.1; omega)
            injection eq with eq _ _
            injection eq with eq
            injection eq with eq
            exact ⟨cells, eq ▸ hcells⟩
          have z0 := blk_frozen hcells ((k + 1) * 4)
          have z1 := blk_frozen hcells ((k + 1) * 4 + 1)
          have z2 := blk_frozen hcells ((k + 1) * 4 + 2)
          have z3 := blk_frozen hcells ((k + 1) * 4 + 3)
          have z4 := blk_frozen hcells (k / 2 * 4)
          have z5 := blk_frozen hcells (k / 2 * 4 + 1)
          have z6 := blk_frozen hcells (k / 2 * 4 + 2)
          have z7 := blk_frozen hcells (k / 2 * 4 + 3)
          go_wp2_with (fail)
          go_region
          all_goals
            have X1 := Q_seti HS5.out.1 HS5.out.2.1 HS5.out.2.2 (k + 1) (by have := HL.out.1; omega) xp
            have X2 := Q_seti X1.1 X1.2.1 X1.2.2 (k / 2) (by rw [List.length_set]; have := HL.out.1; omega) xi
            obtain ⟨w6, hw6⟩ : ∃ W, ((((((((w5.setCell ⟨gb2, (k + 1) * 4, none⟩ (.int .i64 xp.1.1)).setCell ⟨gb2, (k + 1) * 4 + 1, none⟩ (.int .i64 xp.1.2)).setCell ⟨gb2, (k + 1) * 4 + 2, none⟩ (.int .i64 xp.2.1)).setCell ⟨gb2, (k + 1) * 4 + 3, none⟩ (.int .i64 xp.2.2)).setCell ⟨gb2, (k / 2) * 4, none⟩ (.int .i64 xi.1.1)).setCell ⟨gb2, (k / 2) * 4 + 1, none⟩ (.int .i64 xi.1.2)).setCell ⟨gb2, (k / 2) * 4 + 2, none⟩ (.int .i64 xi.2.1)).setCell ⟨gb2, (k / 2) * 4 + 3, none⟩ (.int .i64 xi.2.2)) = W := ⟨_, rfl⟩
            rw [hw6] at X2 ⊢
            have HX := Aside0.mk (show w6.heap[g]? = _ ∧ Kd.R itK 76 w6 _ _ _ (swp l1 (k + 1) (k / 2)) ∧ _ from by rw [HXX.out]; exact X2)
            have HW := Aside0.mk hw6
            clear X1 X2 ci0 ci1 ci2 ci3 cp0 cp1 cp2 cp3 z0 z1 z2 z3 z4 z5 z6 z7 g0 hw6 hcells
            obtain ⟨e1, e2, e3⟩ := HE.out
            go_wp2
            go_roundg (k / 2)
            case measure => omega
            case rel =>
              refine ⟨swp l1 (k + 1) (k / 2), ?_, ⟨?_, ?_, ?_⟩, ⟨?_, ?_, ?_⟩⟩
              · rw [show ((k / 2 : Nat) : Int) = (k : Int) / 2 from by omega]
              · rw [swp_length]; exact HL.out.1
              · omega
              · exact HU.out
              · exact HX.out.1
              · exact Kd.R_drew HX.out.2.1
              · exact below_drew HX.out.2.2
        · have hf : ltI xi xp = false := by simpa using hlt
          have HU := Aside0.mk ((HST.out (by rw [hf]; simp)).symm.trans HL.out.2.2)
          clear hlt HUP HST
          rw [hf]
          go_wp2
          go_ret
          exact ⟨rfl, HU.out ▸ ⟨_, HS5.out.1, HGE.out, HS5.out.2.1⟩, HS5.out.2.2⟩
  have HBd := Aside0.mk (below_drew HB.out)
  have HRd := Aside0.mk (Kd.R_drew HR.out)
  have c0a : (w1.alloc (.cells #[.int .i64 va, .int .i64 vb, .int .i64 r, .int .i64 n] 76)).cell? ⟨g, 0, none⟩ = some (.slice A l.length c) := ((below_alloc (Below.refl _ _) _).cell (p := ⟨g, 0, none⟩) (lt_cell c0)).trans c0
  have hl3 : (l.length + 1) * 32 ≤ 140737488355328 := by omega
  go_region_law (refine Kd.R_append_step itK (w0 := w0) (W := w1.drew) w0.heap.size (by first | rfl | kernel_rfl) (.tmp 18) (.tmp 26) 38 76 (.agg #[.int .i64 0, .int .i64 0, .int .i64 0, .int .i64 0]) 32 rfl Try.underlying38 infoIt rfl (by decide) (by decide) (.slice A l.length c) l ((va, vb), r, n) [.int .i64 va, .int .i64 vb, .int .i64 r, .int .i64 n] (fun _ => True) (fun _ => False) rfl rfl (itK_M.2 rfl) (fun _ hk => hk.elim) (fun _ _ => trivial) HRd.out HBd.out (below_size HBd.out) hl3 ?_; intro v1 w2 ho hb hg hat; obtain ⟨b, cap, rfl, hbb, hbs, cells, hcells⟩ := Kd.R_form ho (by simp); clear hbb hbs hcells; have ho1 := Aside0.mk ho; have hb1 := Aside0.mk hb; have hg1 := Aside0.mk hg; have HG1 := Aside0.mk (blk_grown (show w1.drew.heap[g]? = some (.cells #[.slice A l.length c, .int .i64 n] 40 (0, 0)) from HG.out) hg1.out (by obtain ⟨_, inner, hown, _⟩ := HRd.out; exact own_ne hown (show w1.drew.heap[g]? = some (.cells #[.slice A l.length c, .int .i64 n] 40 (0, 0)) from HG.out) (by decide))); have hz1 := blk_frozen HG1.out 0; have hz3 := blk_frozen HG1.out 1; have hz2 := cell_q0 HG1.out; have hz4 := cell_q1 HG1.out; clear ho hb hg hat)
  all_goals
    go_wp2
    go_meet
    case rel =>
      refine ⟨b, cap, rfl, ⟨?_, ?_, ?_⟩⟩
      · have := blk_set HG1.out 0 (.slice (some ⟨b, 0, none⟩) (l.length + 1) cap)
        simpa using this
      · have := Kd.R_set ho1.out HG1.out (by decide) 0 (.slice (some ⟨b, 0, none⟩) (l.length + 1) cap)
        simpa using this
      · exact hb1.out.setCell (p := ⟨g, 0, none⟩) HGE.out _
end Go.Proofs.Ytlbicibihdkpnaa.P.E
namespace Go.Proofs.Ytlbicibihdkpnaa.P.E
open Go.RowKit Go.Proofs.YtlbicibihdkpnaaW.PrintWords Go.Proofs.YtlbicibihdkpnaaW.PrintLast Go.Proofs.YtlbicibihdkpnaaW.PrintMore
set_option linter.unusedVariables false
set_option linter.unusedSimpArgs false

theorem cells2' {w : World} {g : Nat} {x y : Value} {t : TypeId} (h : w.heap[g]? = some (.cells #[x, y] t (0, 0))) : w.cell? ⟨g, 0, none⟩ = some x ∧ w.cell? ⟨g, 1, none⟩ = some y :=
  ⟨cell_q0 h, cell_q1 h⟩
set_option maxHeartbeats 4000000 in
set_option maxRecDepth 100000 in
theorem Q_take0 (w : World) (w0 : World) (g : Nat) (n : Int) (h : IsQ w0 w g [] n) : Calls Try.prog 11 #[.pointer (some ⟨g, 0, none⟩)] w fun e w' => e = .returned (.tuple #[.agg #[.int .i64 0, .int .i64 0], .int .i64 0, .int .i64 4]) ∧ Below w.heap.size w w' := by
  obtain ⟨v0, hb, hg, hR⟩ := h
  obtain ⟨A, c, rfl⟩ := Kd.R_slice hR
  have b1 := below_alloc (below_alloc (Below.refl w.heap.size w) (.cells #[.int .i64 0, .int .i64 0] 31)) (.cells #[.int .i64 0, .int .i64 0] 31)
  have hgl : g < w.heap.size := blk_lt hb
  have HG := Aside0.mk (blk_below hb b1)
  have HR := Aside0.mk (blk_alloc (blk_new w (.cells #[.int .i64 0, .int .i64 0] 31)) (.cells #[.int .i64 0, .int .i64 0] 31))
  have HN := Aside0.mk (blk_new (w.alloc (.cells #[.int .i64 0, .int .i64 0] 31)) (.cells #[.int .i64 0, .int .i64 0] 31))
  have HB := Aside0.mk b1
  have HZ := Aside0.mk (show w.heap.size ≠ (w.alloc (.cells #[.int .i64 0, .int .i64 0] 31)).heap.size by rw [World.size_alloc]; omega)
  clear hR hb hg b1
  go_enter Try.func11, Try.ntmps11
  go_upto_region 2 with (fail)
  obtain ⟨w1, hw1⟩ : ∃ W, (w.alloc (.cells #[.int .i64 0, .int .i64 0] 31)).alloc (.cells #[.int .i64 0, .int .i64 0] 31) = W := ⟨_, rfl⟩
  rw [World.size_alloc] at HN HZ
  rw [hw1] at HG HR HN HB ⊢
  obtain ⟨kr, hkr⟩ : ∃ k, w.heap.size = k := ⟨_, rfl⟩
  obtain ⟨kn, hkn⟩ : ∃ k, w.heap.size + 1 = k := ⟨_, rfl⟩
  rw [hkn] at HN HZ ⊢
  have HKR := Aside0.mk (Nat.le_of_eq hkr)
  rw [hkr] at HR HZ
  rw [hkr]
  clear hw1 hkn hkr
  have c0 := cell_q0 HG.out
  obtain ⟨n0, n1⟩ := cells2' HN.out
  obtain ⟨r0, r1⟩ := cells2' HR.out
  have z0 := blk_frozen HR.out 0
  have z1 := blk_frozen HR.out 1
  go_upto_region 4 with (fail)
  have HF := Aside0.mk ((HB.out.setCell (p := ⟨kr, 0, none⟩) HKR.out (.int .i64 0)).setCell (p := ⟨kr, 1, none⟩) HKR.out (.int .i64 0))
  have s0 := cell_q0 (blk_set (blk_set HR.out 0 (.int .i64 0)) 1 (.int .i64 0))
  have s1 := cell_q1 (blk_set (blk_set HR.out 0 (.int .i64 0)) 1 (.int .i64 0))
  go_wp2
  exact bodyPost_ret (v := .tuple #[.agg #[.int .i64 0, .int .i64 0], .int .i64 0, .int .i64 4]) (by simp [results, Try.results11, go_sem, s0, s1]) rfl ⟨rfl, HF.out⟩
/-- in the midst of Take: the queue's block, its row of m items, the item that was first, the result's box -/
def TakeAt (w0 v0 W : World) (g gb m cap ko kr : Nat) (n : Int) (x0 : It (Int × Int)) (l : List (It (Int × Int))) : Prop :=
  W.heap[g]? = some (.cells #[.slice (some ⟨gb, 0, none⟩) m cap, .int .i64 n] 40 (0, 0)) ∧
  Kd.R itK 76 W w0.heap.size (fun _ => True) (.slice (some ⟨gb, 0, none⟩) m cap) l ∧ Below w0.heap.size w0 W ∧
  W.heap[ko]? = some (.cells #[.int .i64 x0.1.1, .int .i64 x0.1.2, .int .i64 x0.2.1, .int .i64 x0.2.2] 76 (0, 0)) ∧ ko ≠ g ∧ ko ≠ gb ∧ v0.heap.size ≤ W.heap.size ∧ (∀ k, k < v0.heap.size → k ≠ g → k ≠ gb → W.heap[k]? = v0.heap[k]?) ∧
  W.heap[kr]? = some (.cells #[.int .i64 0, .int .i64 0] 31 (0, 0)) ∧ kr ≠ g ∧ kr ≠ gb
variable {w0 v0 W W' : World} {g gb m k cap ko kr : Nat} {n : Int} {x0 : It (Int × Int)} {l : List (It (Int × Int))}
theorem TakeAt.size (h : TakeAt w0 v0 W g gb m cap ko kr n x0 l) : v0.heap.size ≤ W.heap.size := h.2.2.2.2.2.2.1
theorem TakeAt.frame (h : TakeAt w0 v0 W g gb m cap ko kr n x0 l) : ∀ k, k < v0.heap.size → k ≠ g → k ≠ gb → W.heap[k]? = v0.heap[k]? := h.2.2.2.2.2.2.2.1
theorem TakeAt.below (h : TakeAt w0 v0 W g gb m cap ko kr n x0 l) (hb : Below W.heap.size W W') : TakeAt w0 v0 W' g gb m cap ko kr n x0 l :=
  ⟨(hb.block g (blk_lt h.1)).trans h.1, Kd.R_below h.2.1 hb, h.2.2.1.trans (hb.mono h.2.2.1.size), (hb.block ko (blk_lt h.2.2.2.1)).trans h.2.2.2.1, h.2.2.2.2.1, h.2.2.2.2.2.1, Nat.le_trans h.size hb.size, fun k hk h1 h2 => (hb.block k (Nat.lt_of_lt_of_le hk h.size)).trans (h.frame k hk h1 h2), (hb.block kr (blk_lt h.2.2.2.2.2.2.2.2.1)).trans h.2.2.2.2.2.2.2.2.1, h.2.2.2.2.2.2.2.2.2⟩
theorem set4_far {W : World} {b i j k s q : Nat} (h : q ≠ b) (x y z u : Value) : ((((W.setCell ⟨b, i, none⟩ x).setCell ⟨b, j, none⟩ y).setCell ⟨b, k, none⟩ z).setCell ⟨b, s, none⟩ u).heap[q]? = W.heap[q]? :=
  (Below.heap_setCell _ ⟨b, s, none⟩ u q h).trans (set3_far h x y z)
theorem TakeAt.seti (h : TakeAt w0 v0 W g gb m cap ko kr n x0 l) (i : Nat) (hi : i < l.length) (x : It (Int × Int)) :
    TakeAt w0 v0 ((((W.setCell ⟨gb, i * 4, none⟩ (.int .i64 x.1.1)).setCell ⟨gb, i * 4 + 1, none⟩ (.int .i64 x.1.2)).setCell ⟨gb, i * 4 + 2, none⟩ (.int .i64 x.2.1)).setCell ⟨gb, i * 4 + 3, none⟩ (.int .i64 x.2.2)) g gb m cap ko kr n x0 (l.set i x) := by
  obtain ⟨h1, h2, h3⟩ := Q_seti h.1 h.2.1 h.2.2.1 i hi x
  exact ⟨h1, h2, h3, (set4_far h.2.2.2.2.2.1 _ _ _ _).trans h.2.2.2.1, h.2.2.2.2.1, h.2.2.2.2.2.1, by simpa only [World.size_setCell] using h.size, fun k hk h1 h2 => (set4_far h2 _ _ _ _).trans (h.frame k hk h1 h2), (set4_far h.2.2.2.2.2.2.2.2.2.2 _ _ _ _).trans h.2.2.2.2.2.2.2.2.1, h.2.2.2.2.2.2.2.2.2⟩
theorem TakeAt.frozen (h : TakeAt w0 v0 W g gb m cap ko kr n x0 l) (hl : 0 < l.length) (j : Nat) : W.frozen? ⟨gb, j, none⟩ = false := by
  obtain ⟨gq, cq, eq, _, _, cells, hcells⟩ := Kd.R_form h.2.1 hl
  injection eq with eq _ _
  injection eq with eq
  injection eq with eq
  exact blk_frozen (eq ▸ hcells) j
theorem TakeAt.cells (h : TakeAt w0 v0 W g gb m cap ko kr n x0 l) (i : Nat) (hi : i < l.length) :
    W.cell? ⟨gb, i * 4, none⟩ = some (.int .i64 (at0 l i).1.1) ∧ W.cell? ⟨gb, i * 4 + 1, none⟩ = some (.int .i64 (at0 l i).1.2) ∧ W.cell? ⟨gb, i * 4 + 2, none⟩ = some (.int .i64 (at0 l i).2.1) ∧ W.cell? ⟨gb, i * 4 + 3, none⟩ = some (.int .i64 (at0 l i).2.2) := by
  have hm := (Kd.R_reads' h.2.1).1
  obtain ⟨c, hc, hM, hcell, _⟩ := Kd.R_elem h.2.1 (default, 0, 0) (i : Int) (by omega) (by omega)
  rw [itK_M] at hM
  subst hM
  exact ⟨hcell 0 _ rfl, hcell 1 _ rfl, hcell 2 _ rfl, hcell 3 _ rfl⟩
theorem TakeAt.before (h : TakeAt w0 v0 W g gb m cap ko kr n x0 l) (i k : Nat) (hi : i < m) (hk : k < m) {ii kk : Int} (ei : ii = (i : Int)) (ek : kk = (k : Int)) :
    Calls Try.prog 24 #[.pointer (some ⟨g, 0, none⟩), .int .i64 ii, .int .i64 kk] W fun e w' => e = .returned (.bool (ltI (at0 l i) (at0 l k))) ∧ TakeAt w0 v0 w' g gb m cap ko kr n x0 l := by
  subst ei ek
  have hm := (Kd.R_reads' h.2.1).1
  have ci := h.cells i (by omega)
  have ck := h.cells k (by omega)
  refine (queue_before.calls g gb m cap i k (at0 l i).1 (at0 l k).1 _ _ _ _ W (cell_q0 h.1) hi hk ci.1 ci.2.1 ci.2.2.1 ci.2.2.2 ck.1 ck.2.1 ck.2.2.1 ck.2.2.2 _ rfl).mono ?_
  rintro e w5 ⟨rfl, hb5⟩
  exact ⟨rfl, h.below hb5⟩
theorem TakeAt.cut (h : TakeAt w0 v0 W g gb k cap ko kr n x0 l) (hg : w0.heap.size ≤ g) (hm : m ≤ l.length) :
    TakeAt w0 v0 (W.setCell ⟨g, 0, none⟩ (.slice (some ⟨gb, 0, none⟩) m cap)) g gb m cap ko kr n x0 (l.take m) := by
  refine ⟨by simpa using blk_set h.1 0 (.slice (some ⟨gb, 0, none⟩) m cap), Kd.R_set (Kd.R_take h.2.1 hm) h.1 (by decide) 0 _, h.2.2.1.setCell (p := ⟨g, 0, none⟩) hg _, ?_, h.2.2.2.2.1, h.2.2.2.2.2.1, by simpa only [World.size_setCell] using h.size, fun k hk h1 h2 => (Below.heap_setCell _ ⟨g, 0, none⟩ _ k h1).trans (h.frame k hk h1 h2), (Below.heap_setCell _ ⟨g, 0, none⟩ _ kr h.2.2.2.2.2.2.2.2.2.1).trans h.2.2.2.2.2.2.2.2.1, h.2.2.2.2.2.2.2.2.2⟩
  exact (Below.heap_setCell _ ⟨g, 0, none⟩ _ ko h.2.2.2.2.1).trans h.2.2.2.1
/-- the end of Take: the result's box is written -/
def TakeL (w0 v0 W : World) (g gb m cap kr : Nat) (n : Int) (x0 : It (Int × Int)) (l : List (It (Int × Int))) : Prop :=
  W.heap[g]? = some (.cells #[.slice (some ⟨gb, 0, none⟩) m cap, .int .i64 n] 40 (0, 0)) ∧
  Kd.R itK 76 W w0.heap.size (fun _ => True) (.slice (some ⟨gb, 0, none⟩) m cap) l ∧ Below w0.heap.size w0 W ∧ v0.heap.size ≤ W.heap.size ∧ (∀ k, k < v0.heap.size → k ≠ g → k ≠ gb → W.heap[k]? = v0.heap[k]?) ∧
  W.heap[kr]? = some (.cells #[.int .i64 x0.1.1, .int .i64 x0.1.2] 31 (0, 0))
theorem TakeAt.last (h : TakeAt w0 v0 W g gb m cap ko kr n x0 l) (hk : v0.heap.size ≤ kr ∧ w0.heap.size ≤ v0.heap.size) :
    TakeL w0 v0 ((W.setCell ⟨kr, 0, none⟩ (.int .i64 x0.1.1)).setCell ⟨kr, 1, none⟩ (.int .i64 x0.1.2)) g gb m cap kr n x0 l := by
  have h9 := h.2.2.2.2.2.2.2.2
  have a1 := blk_set h9.1 0 (.int .i64 x0.1.1)
  have a2 := blk_set a1 1 (.int .i64 x0.1.2)
  have far : ∀ q, q ≠ kr → ((W.setCell ⟨kr, 0, none⟩ (.int .i64 x0.1.1)).setCell ⟨kr, 1, none⟩ (.int .i64 x0.1.2)).heap[q]? = W.heap[q]? := fun q hq => (Below.heap_setCell _ ⟨kr, 1, none⟩ _ q hq).trans (Below.heap_setCell _ ⟨kr, 0, none⟩ _ q hq)
  refine ⟨(far g (Ne.symm h9.2.1)).trans h.1, Kd.R_set (Kd.R_set h.2.1 h9.1 (by decide) 0 _) a1 (by decide) 1 _, (h.2.2.1.setCell (p := ⟨kr, 0, none⟩) (by have := hk; show w0.heap.size ≤ kr; omega) _).setCell (p := ⟨kr, 1, none⟩) (by show w0.heap.size ≤ kr; omega) _, by simpa only [World.size_setCell] using h.size, fun k h1 h2 h3 => (far k (by omega)).trans (h.frame k h1 h2 h3), ?_⟩
  simpa using a2
theorem cells4 {w : World} {g : Nat} {x y z u : Value} {t : TypeId} (h : w.heap[g]? = some (.cells #[x, y, z, u] t (0, 0))) : w.cell? ⟨g, 0, none⟩ = some x ∧ w.cell? ⟨g, 1, none⟩ = some y ∧ w.cell? ⟨g, 2, none⟩ = some z :=
  ⟨by simp [World.cell?, h], by simp [World.cell?, h], by simp [World.cell?, h]⟩
set_option maxHeartbeats 4000000 in
set_option maxRecDepth 100000 in
theorem Q_takeK (w : World) (w0 : World) (g : Nat) (l : List (It (Int × Int))) (n : Int) (m : Nat) (h : IsQ w0 w g l n) (hB : Below w0.heap.size w0 w) (hl : l.length = m + 1) (hm : m < 4096) : Calls Try.prog 11 #[.pointer (some ⟨g, 0, none⟩)] w fun e w' => e = .returned (.tuple #[.agg #[.int .i64 (at0 l 0).1.1, .int .i64 (at0 l 0).1.2], .int .i64 (at0 l 0).2.1, .int .i64 0]) ∧ IsQ w0 w' g (down 0 m ((l.set 0 (at0 l m)).take m)) n ∧ Below w0.heap.size w0 w' ∧ ∀ k cells t, w.heap[k]? = some (.cells cells t (0, 0)) → t ≠ 76 → k ≠ g → w'.heap[k]? = w.heap[k]? := by
  obtain ⟨gb, cap, hb, hcap, hgb, hne, hR, hcs⟩ := h.cells (by omega)
  obtain ⟨_, _, hg, _⟩ := h
  have hbl : gb < w.heap.size := by
    obtain ⟨_, _, eq, _, h1, _⟩ := Kd.R_form hR (by omega)
    injection eq with eq _ _
    injection eq with eq
    injection eq with eq
    exact eq ▸ h1
  have cs0 := hcs 0 (by omega)
  have csm := hcs m (by omega)
  obtain ⟨x0, hx0⟩ : ∃ x, at0 l 0 = x := ⟨_, rfl⟩
  obtain ⟨xm, hxm⟩ : ∃ x, at0 l m = x := ⟨_, rfl⟩
  unfold at0 at hx0 hxm
  rw [hx0, Nat.zero_mul] at cs0
  rw [hxm] at csm
  rw [hl] at hb hR hcap
  have HL := Aside0.mk hl
  have HX0 := Aside0.mk hx0
  have HXM := Aside0.mk hxm
  have HB := Aside0.mk hB
  have HR := Aside0.mk hR
  have HG := Aside0.mk hb
  have HGE := Aside0.mk hg
  have HCS := Aside0.mk csm
  have HGB := Aside0.mk (show ∃ cells, w.heap[gb]? = some (.cells cells 76 (0, 0)) from by
    obtain ⟨_, _, eq, _, _, cells, h1⟩ := Kd.R_form hR (by omega)
    injection eq with eq _ _
    injection eq with eq
    injection eq with eq
    exact ⟨cells, eq ▸ h1⟩)
  have hgl : g < w.heap.size := blk_lt hb
  have HGL := Aside0.mk hgl
  have HBL := Aside0.mk hbl
  have HNE := Aside0.mk hne
  have HCAP := Aside0.mk hcap
  obtain ⟨i0, i1, i2, i3⟩ := cs0
  have c0 := cell_q0 hb
  have f2 : ((m + 1 : Nat) : Int) = (m : Int) + 1 := by omega
  have f3 : (0 : Int) < (m : Int) + 1 := by omega
  have f4 : (m : Int) < (m : Int) + 1 := by omega
  have f5 : wrap64 (m : Int) = (m : Int) := by unfold wrap64; omega
  have f6 : decide ((m : Int) < 0) = false := decide_eq_false (by omega)
  have f7 : 0 < m + 1 := by omega
  have f8 : m < m + 1 := by omega
  unfold at0
  rw [hx0, hxm]
  obtain ⟨L, hL⟩ : ∃ L, List.take m (l.set 0 xm) = L := ⟨_, rfl⟩
  rw [hL]
  have HLL := Aside0.mk hL
  clear hL hB hR hb hg hcs csm hgl hbl hne hl hx0 hxm hcap
  go_enter Try.func11, Try.ntmps11
  go_upto_region 2 with (fail)
  have b1 := below_alloc (below_alloc (Below.refl w.heap.size w) (.cells #[.int .i64 0, .int .i64 0] 31)) (.cells #[.int .i64 0, .int .i64 0] 31)
  have HR1 := Aside0.mk (Kd.R_below HR.out b1)
  have HB1 := Aside0.mk (below_step HB.out b1)
  have HG1 := Aside0.mk (blk_below HG.out b1)
  have HF1 := Aside0.mk (show ∀ k, k < w.heap.size → ((w.alloc (.cells #[.int .i64 0, .int .i64 0] 31)).alloc (.cells #[.int .i64 0, .int .i64 0] 31)).heap[k]? = w.heap[k]? from fun k hk => b1.block k hk)
  have HK1 := Aside0.mk (blk_alloc (blk_new w (.cells #[.int .i64 0, .int .i64 0] 31)) (.cells #[.int .i64 0, .int .i64 0] 31))
  have HS1 := Aside0.mk (show ((w.alloc (.cells #[.int .i64 0, .int .i64 0] 31)).alloc (.cells #[.int .i64 0, .int .i64 0] 31)).heap.size = w.heap.size + 1 + 1 by simp only [World.size_alloc])
  have HC1 := Aside0.mk (And.intro ((b1.cell (p := ⟨gb, 0, none⟩) HBL.out).trans i0) (And.intro ((b1.cell (p := ⟨gb, 1, none⟩) HBL.out).trans i1) (And.intro ((b1.cell (p := ⟨gb, 2, none⟩) HBL.out).trans i2) ((b1.cell (p := ⟨gb, 3, none⟩) HBL.out).trans i3))))
  obtain ⟨wa, hwa⟩ : ∃ W, (w.alloc (.cells #[.int .i64 0, .int .i64 0] 31)).alloc (.cells #[.int .i64 0, .int .i64 0] 31) = W := ⟨_, rfl⟩
  obtain ⟨kr, hkr⟩ : ∃ k, w.heap.size = k := ⟨_, rfl⟩
  rw [hwa] at HR1 HB1 HG1 HF1 HK1 HS1 HC1 ⊢
  rw [hkr]
  clear hwa b1 c0 i0 i1 i2 i3
  have c0 := cell_q0 HG1.out
  obtain ⟨i0, i1, i2, i3⟩ := HC1.out
  go_upto_region 6 with (fail)
  obtain ⟨w1, hw1⟩ : ∃ W, wa.alloc (.cells #[.int .i64 x0.1.1, .int .i64 x0.1.2, .int .i64 x0.2.1, .int .i64 x0.2.2] 76) = W := ⟨_, rfl⟩
  rw [hw1]
  have HT := Aside0.mk (show TakeAt w0 w w1 g gb (m + 1) cap wa.heap.size w.heap.size n x0 l from by
    rw [← hw1]
    refine ⟨(below_alloc (Below.refl _ _) _).block g (by rw [HS1.out]; have := HGL.out; omega) |>.trans HG1.out, Kd.R_alloc HR1.out _, HB1.out.alloc HB1.out.size _, Array.getElem?_push_size, fun h => by have := HGL.out; have := HS1.out; omega, fun h => by have := HBL.out; have := HS1.out; omega, by rw [World.size_alloc, HS1.out]; omega, fun k hk _ _ => ((below_alloc (Below.refl _ _) _).block k (by rw [HS1.out]; omega)).trans (HF1.out k hk), blk_alloc HK1.out _, fun h => by have := HGL.out; omega, fun h => by have := HBL.out; omega⟩)
  obtain ⟨ko, hko⟩ : ∃ k, wa.heap.size = k := ⟨_, rfl⟩
  rw [hko, hkr] at HT
  have HKL := Aside0.mk (And.intro (Nat.le_of_eq hkr) HB.out.size)
  rw [hko]
  clear i0 i1 i2 i3 c0 hw1
  have c0 := cell_q0 HT.out.1
  obtain ⟨j0, j1, j2, j3⟩ := HT.out.cells m (by rw [HL.out]; exact f8)
  unfold at0 at j0 j1 j2 j3
  rw [HXM.out] at j0 j1 j2 j3
  obtain ⟨i0, i1, i2, i3⟩ := HT.out.cells 0 (by rw [HL.out]; exact f7)
  unfold at0 at i0 i1 i2 i3
  rw [HX0.out, Nat.zero_mul] at i0 i1 i2 i3
  have z0 := HT.out.frozen (by rw [HL.out]; exact f7) 0
  have z1 := HT.out.frozen (by rw [HL.out]; exact f7) 1
  have z2 := HT.out.frozen (by rw [HL.out]; exact f7) 2
  have z3 := HT.out.frozen (by rw [HL.out]; exact f7) 3
  go_region
  all_goals
    have X1 := HT.out.seti 0 (by rw [HL.out]; exact f7) xm
    rw [Nat.zero_mul] at X1
    have HT2 := Aside0.mk (X1.below (below_drew (Below.refl _ _)))
    obtain ⟨w2, hw2⟩ : ∃ W, ((((w1.setCell ⟨gb, 0, none⟩ (.int .i64 xm.1.1)).setCell ⟨gb, 1, none⟩ (.int .i64 xm.1.2)).setCell ⟨gb, 2, none⟩ (.int .i64 xm.2.1)).setCell ⟨gb, 3, none⟩ (.int .i64 xm.2.2)).drew = W := ⟨_, rfl⟩
    rw [hw2]
    have HT2 := Aside0.mk (show TakeAt w0 w w2 g gb (m + 1) cap ko kr n x0 (l.set 0 xm) from hw2 ▸ HT2.out)
    clear X1 hw2 i0 i1 i2 i3 j0 j1 j2 j3 z0 z1 z2 z3 c0
    have c0 := cell_q0 HT2.out.1
    have HL2 := Aside0.mk (show (l.set 0 xm).length = m + 1 from by rw [List.length_set]; exact HL.out)
    obtain ⟨j0, j1, j2, j3⟩ := HT2.out.cells m (by rw [HL2.out]; exact f8)
    have z0 := HT2.out.frozen (by rw [HL2.out]; exact f7) (m * 4)
    have z1 := HT2.out.frozen (by rw [HL2.out]; exact f7) (m * 4 + 1)
    have z2 := HT2.out.frozen (by rw [HL2.out]; exact f7) (m * 4 + 2)
    have z3 := HT2.out.frozen (by rw [HL2.out]; exact f7) (m * 4 + 3)
    go_upto_region 7 with (fail)
    go_cut [43] (fun v43 wc => v43 = .pointer (some ⟨gb, m * 4, none⟩) ∧ Aside0 (TakeAt w0 w wc g gb (m + 1) cap ko kr n x0 ((l.set 0 xm).set m (default, 0, 0))))
    case rest =>
      obtain ⟨rfl, HT3⟩ := hcut
      clear j0 j1 j2 j3 z0 z1 z2 z3 c0
      have c0 := cell_q0 HT3.out.1
      have z0 := blk_frozen HT3.out.1 0
      have HL3 := Aside0.mk (show ((l.set 0 xm).set m (default, 0, 0)).length = m + 1 from by rw [List.length_set]; exact HL2.out)
      have f9 : (0 : Int) ≤ (m : Int) := by omega
      have f10 : (m : Int) ≤ (cap : Int) := by have := HCAP.out; omega
      have f11 : m ≤ cap := by have := HCAP.out; omega
      go_upto_region 9 with (fail)
      obtain ⟨w4, hw4⟩ : ∃ W, wc.setCell ⟨g, 0, none⟩ (.slice (some ⟨gb, 0, none⟩) m cap) = W := ⟨_, rfl⟩
      rw [hw4]
      have HL4 := Aside0.mk (show L.length = m from by rw [← HLL.out, List.length_take, HL2.out]; omega)
      have HT4 := Aside0.mk (show TakeAt w0 w w4 g gb m cap ko kr n x0 L from by
        have := HT3.out.cut HGE.out (m := m) (by rw [HL3.out]; omega)
        rw [hw4] at this
        rwa [show List.take m ((l.set 0 xm).set m (default, 0, 0)) = L from by rw [← HLL.out, List.take_set, List.set_eq_of_length_le (by rw [List.length_take]; omega)]] at this)
      clear c0 z0 hw4 HT3
      go_wp2_with (fail)
      go_loopg [8] m (fun kq v8 w' => ∃ (i : Nat) (l1 : List (It (Int × Int))), v8 = .int .i64 (i : Int) ∧ Aside0 (kq = m - i ∧ i ≤ m ∧ l1.length = m ∧ down i m l1 = down 0 m L) ∧ Aside0 (TakeAt w0 w w' g gb m cap ko kr n x0 l1))
      case atStart => exact ⟨0, L, rfl, ⟨rfl, by omega, HL4.out, rfl⟩, HT4⟩
      case round =>
        obtain ⟨i, l1, rfl, HI, HS⟩ := hrel
        have e0 : i < 4097 := by have := HI.out.2.1; omega
        have e1 : wrap64 (2 * (i : Int)) = 2 * (i : Int) := by unfold wrap64; omega
        have e2 : wrap64 (2 * (i : Int) + 1) = 2 * (i : Int) + 1 := by unfold wrap64; omega
        have e3 : wrap64 (2 * (i : Int) + 1 + 1) = 2 * (i : Int) + 2 := by unfold wrap64; omega
        have HE := Aside0.mk (And.intro e0 (And.intro e1 (And.intro e2 e3)))
        go_upto_region 11 with (fail)
        go_cut [66] (fun v66 wc => v66 = .bool (decide (2 * i + 2 < m ∧ ltI (at0 l1 (2 * i + 2)) (at0 l1 (2 * i + 1)) = true)) ∧ Aside0 (TakeAt w0 w wc g gb m cap ko kr n x0 l1))
        case rest =>
          obtain ⟨rfl, HS2⟩ := hcut
          go_upto_if 66 with (fail)
          go_cut [9] (fun v9 wc => v9 = .int .i64 (kid i m l1 : Int) ∧ Aside0 (TakeAt w0 w wc g gb m cap ko kr n x0 l1))
          case rest =>
            obtain ⟨rfl, HS3⟩ := hcut
            have hki : i < kid i m l1 := kid_gt i m l1
            have hkm : kid i m l1 < 10000 := by
              have := HE.out.1
              unfold kid
              split <;> omega
            have HD := Aside0.mk (fun h => down_step i m l1 h)
            have HD2 := Aside0.mk (fun h => down_stop i m l1 h)
            generalize kid i m l1 = k at hki hkm HD HD2
            clear e1 e2 e3
            go_upto_region 13 with (fail)
            go_cut [77] (fun v77 wc => v77 = .bool (decide (¬ (k < m ∧ ltI (at0 l1 i) (at0 l1 k) = false))) ∧ Aside0 (TakeAt w0 w wc g gb m cap ko kr n x0 l1))
            case rest =>
              obtain ⟨rfl, HS4⟩ := hcut
              by_cases hk : k < m ∧ ltI (at0 l1 i) (at0 l1 k) = false
              · rw [decide_eq_false (not_not_intro hk)]
                obtain ⟨xi, hxi⟩ : ∃ x, at0 l1 i = x := ⟨_, rfl⟩
                obtain ⟨xk, hxk⟩ : ∃ x, at0 l1 k = x := ⟨_, rfl⟩
                have q1 : i < m := by omega
                have q2 : k < m := hk.1
                have q3 : (i : Int) < (m : Int) := by omega
                have q4 : (k : Int) < (m : Int) := by omega
                have ci := HS4.out.cells i (by rw [HI.out.2.2.1]; exact q1)
                have ck := HS4.out.cells k (by rw [HI.out.2.2.1]; exact q2)
                rw [hxi] at ci
                rw [hxk] at ck
                obtain ⟨ci0, ci1, ci2, ci3⟩ := ci
                obtain ⟨ck0, ck1, ck2, ck3⟩ := ck
                have g0 := cell_q0 HS4.out.1
                have hgl : g < wc.heap.size := lt_cell g0
                have z0 := HS4.out.frozen (by rw [HI.out.2.2.1]; omega) (i * 4)
                have z1 := HS4.out.frozen (by rw [HI.out.2.2.1]; omega) (i * 4 + 1)
                have z2 := HS4.out.frozen (by rw [HI.out.2.2.1]; omega) (i * 4 + 2)
                have z3 := HS4.out.frozen (by rw [HI.out.2.2.1]; omega) (i * 4 + 3)
                have z4 := HS4.out.frozen (by rw [HI.out.2.2.1]; omega) (k * 4)
                have z5 := HS4.out.frozen (by rw [HI.out.2.2.1]; omega) (k * 4 + 1)
                have z6 := HS4.out.frozen (by rw [HI.out.2.2.1]; omega) (k * 4 + 2)
                have z7 := HS4.out.frozen (by rw [HI.out.2.2.1]; omega) (k * 4 + 3)
                have HXX := Aside0.mk (show swp l1 i k = (l1.set i xk).set k xi from by unfold swp; rw [hxi, hxk])
                have HDD := Aside0.mk ((HD.out hk).symm.trans HI.out.2.2.2)
                clear hxi hxk hk HD HD2
                go_wp2_with (fail)
                go_region
                all_goals
                  have X1 := HS4.out.seti i (by rw [HI.out.2.2.1]; exact q1) xk
                  have X2 := X1.seti k (by rw [List.length_set, HI.out.2.2.1]; exact q2) xi
                  obtain ⟨w6, hw6⟩ : ∃ W, ((((((((wc.setCell ⟨gb, i * 4, none⟩ (.int .i64 xk.1.1)).setCell ⟨gb, i * 4 + 1, none⟩ (.int .i64 xk.1.2)).setCell ⟨gb, i * 4 + 2, none⟩ (.int .i64 xk.2.1)).setCell ⟨gb, i * 4 + 3, none⟩ (.int .i64 xk.2.2)).setCell ⟨gb, k * 4, none⟩ (.int .i64 xi.1.1)).setCell ⟨gb, k * 4 + 1, none⟩ (.int .i64 xi.1.2)).setCell ⟨gb, k * 4 + 2, none⟩ (.int .i64 xi.2.1)).setCell ⟨gb, k * 4 + 3, none⟩ (.int .i64 xi.2.2)) = W := ⟨_, rfl⟩
                  rw [hw6] at X2 ⊢
                  rw [← HXX.out] at X2
                  have HX := Aside0.mk (X2.below (below_drew (Below.refl _ _)))
                  clear X1 X2 ci0 ci1 ci2 ci3 ck0 ck1 ck2 ck3 z0 z1 z2 z3 z4 z5 z6 z7 g0 hw6
                  go_wp2
                  go_roundg (m - k)
                  case measure => have := HI.out.1; omega
                  case rel =>
                    exact ⟨k, swp l1 i k, rfl, ⟨rfl, by omega, by rw [swp_length]; exact HI.out.2.2.1, HDD.out⟩, HX⟩
              · rw [decide_eq_true hk]
                have HDD := Aside0.mk ((HD2.out hk).symm.trans HI.out.2.2.2)
                obtain ⟨o0, o1, o2⟩ := cells4 HS4.out.2.2.2.1
                have HKR := Aside0.mk HS4.out.2.2.2.2.2.2.2.2
                have q0 := blk_frozen HKR.out.1 0
                have q1 := blk_frozen HKR.out.1 1
                obtain ⟨r0, r1⟩ := cells2' HKR.out.1
                clear hk HD HD2
                go_wp2_with (fail)
                go_region
                all_goals
                  have HF := Aside0.mk (show TakeL w0 w ((wc.setCell ⟨kr, 0, none⟩ (.int .i64 x0.1.1)).setCell ⟨kr, 1, none⟩ (.int .i64 x0.1.2)) g gb m cap kr n x0 l1 from HS4.out.last (by have := HKL.out; omega))
                  obtain ⟨w6, hw6⟩ : ∃ W, ((wc.setCell ⟨kr, 0, none⟩ (.int .i64 x0.1.1)).setCell ⟨kr, 1, none⟩ (.int .i64 x0.1.2)) = W := ⟨_, rfl⟩
                  rw [hw6] at HF ⊢
                  have s0 := cell_q0 HF.out.2.2.2.2.2
                  have s1 := cell_q1 HF.out.2.2.2.2.2
                  clear hw6 r0 r1 q0 q1 o0 o1 o2
                  go_wp2
                  refine bodyPost_ret (v := .tuple #[.agg #[.int .i64 x0.1.1, .int .i64 x0.1.2], .int .i64 x0.2.1, .int .i64 0]) (by simp [results, Try.results11, go_sem, s0, s1]) rfl ?_
                  refine ⟨rfl, ⟨_, HF.out.1, HGE.out, ?_⟩, pw_below_drewN HF.out.2.2.1 1, ?_⟩
                  · have := Kd.R_drew HF.out.2.1
                    rwa [HDD.out] at this
                  · intro k cells t hk ht hkg
                    refine HF.out.2.2.2.2.1 k (blk_lt hk) hkg ?_
                    rintro rfl
                    obtain ⟨cells', hc'⟩ := HGB.out
                    rw [hk] at hc'
                    injection hc' with hc'
                    injection hc' with _ hc'
                    exact ht hc'
            case first =>
              by_cases hk : k < m
              · have h3 : decide ((m : Int) ≤ (k : Int)) = false := decide_eq_false (by omega)
                go_wp2_with (fail)
                refine (HS3.out.before i k (by omega) hk rfl rfl).mono ?_
                rintro e w5 ⟨rfl, HS5⟩
                have HS5 := Aside0.mk HS5
                go_wp2
                go_meet
                case rel => exact ⟨by by_cases h : ltI (at0 l1 i) (at0 l1 k) = true <;> simp [h] <;> omega, HS5⟩
              · have h3 : decide ((m : Int) ≤ (k : Int)) = true := decide_eq_true (by omega)
                go_wp2_with (fail)
                go_meet
                case rel => exact ⟨by simp [hk], HS3⟩
          case first =>
            obtain ⟨e0, e1, e2, e3⟩ := HE.out
            by_cases hk : 2 * i + 2 < m ∧ ltI (at0 l1 (2 * i + 2)) (at0 l1 (2 * i + 1)) = true
            · have hkk : kid i m l1 = 2 * i + 2 := by unfold kid; rw [if_pos hk]
              rw [decide_eq_true hk]
              go_wp2
              go_meet
              case rel => exact ⟨by rw [hkk, show ((2 * i + 2 : Nat) : Int) = 2 * (i : Int) + 1 + 1 from by omega], HS2⟩
            · have hkk : kid i m l1 = 2 * i + 1 := by unfold kid; rw [if_neg hk]
              rw [decide_eq_false hk]
              go_wp2
              go_meet
              case rel => exact ⟨by rw [hkk, show ((2 * i + 1 : Nat) : Int) = 2 * (i : Int) + 1 from by omega], HS2⟩
        case first =>
          by_cases h2 : 2 * i + 2 < m
          · have h3 : (2 * (i : Int) + 2) < (m : Int) := by omega
            go_wp2_with (fail)
            refine (HS.out.before (2 * i + 2) (2 * i + 1) h2 (by omega) (by omega) (by omega)).mono ?_
            rintro e w5 ⟨rfl, HS5⟩
            have HS5 := Aside0.mk HS5
            go_wp2
            go_meet
            case rel => exact ⟨by simp [h2], HS5⟩
          · have h3 : decide ((2 * (i : Int) + 2) < (m : Int)) = false := decide_eq_false (by omega)
            go_wp2_with (fail)
            go_meet
            case rel => exact ⟨by simp [h2], HS⟩
    go_wp2
    go_meet
    case rel => exact ⟨rfl, ⟨HT2.out.seti m (by rw [HL2.out]; exact f8) (default, 0, 0)⟩⟩
theorem Q_take (w : World) (w0 : World) (g : Nat) (l : List (It (Int × Int))) (n : Int) (m : Nat) (h : IsQ w0 w g l n) (hB : Below w0.heap.size w0 w) (hl : l.length = m + 1) (hm : m < 4096) : Calls Try.prog 11 #[.pointer (some ⟨g, 0, none⟩)] w fun e w' => e = .returned (.tuple #[.agg #[.int .i64 (at0 l 0).1.1, .int .i64 (at0 l 0).1.2], .int .i64 (at0 l 0).2.1, .int .i64 0]) ∧ IsQ w0 w' g (down 0 m ((l.set 0 (at0 l m)).take m)) n ∧ Below w0.heap.size w0 w' :=
  (Q_takeK w w0 g l n m h hB hl hm).mono fun _ _ h => ⟨h.1, h.2.1, h.2.2.1⟩
end Go.Proofs.Ytlbicibihdkpnaa.P.E
namespace Go.Proofs.Ytlbicibihdkpnaa.P
open Go.RowKit Go.Proofs.YtlbicibihdkpnaaW.PrintWords Go.Proofs.YtlbicibihdkpnaaW.PrintLast Go.Proofs.YtlbicibihdkpnaaW.PrintMore
set_option linter.unusedVariables false
set_option linter.unusedSimpArgs false

theorem lt_cell {w : World} {b off : Nat} {v : Value} (h : w.cell? ⟨b, off, none⟩ = some v) : b < w.heap.size := by
  apply Classical.byContradiction
  intro hn
  unfold World.cell? at h
  rw [Array.getElem?_eq_none (by show w.heap.size ≤ b; omega)] at h
  simp at h
set_option maxHeartbeats 4000000 in
set_option maxRecDepth 100000 in
theorem queue_before.calls (g gb n cap : Nat) (i k : Nat) (vi vk : Int) (ri ci rk ck : Int) (w : World)
    (hq : w.cell? ⟨g, 0, none⟩ = some (.slice (some ⟨gb, 0, none⟩) n cap)) (hi : i < n) (hk : k < n)
    (i0 : w.cell? ⟨gb, i * 3, none⟩ = some (.int .i64 vi)) (i1 : w.cell? ⟨gb, i * 3 + 1, none⟩ = some (.int .i64 ri)) (i2 : w.cell? ⟨gb, i * 3 + 2, none⟩ = some (.int .i64 ci))
    (k0 : w.cell? ⟨gb, k * 3, none⟩ = some (.int .i64 vk)) (k1 : w.cell? ⟨gb, k * 3 + 1, none⟩ = some (.int .i64 rk)) (k2 : w.cell? ⟨gb, k * 3 + 2, none⟩ = some (.int .i64 ck)) (r : Bool) (h : (if ri = rk then decide (ci < ck) else decide (ri < rk)) = r) :
    Calls Try.prog 45 #[.pointer (some ⟨g, 0, none⟩), .int .i64 i, .int .i64 k] w fun e w' => e = .returned (.bool r) ∧ Below w.heap.size w w' := by
  have f0 : (0 : Int) ≤ (i : Int) := by omega
  have f1 : (i : Int) < (n : Int) := by omega
  have f2 : (0 : Int) ≤ (k : Int) := by omega
  have f3 : (k : Int) < (n : Int) := by omega
  go_enter Try.func45, Try.ntmps45
  go_wp2
  have hgl : g < w.heap.size := lt_cell hq
  have hbl : gb < w.heap.size := lt_cell i0
  have HK := Aside0.mk (show ∀ w', Below w.heap.size w w' → w'.cell? ⟨g, 0, none⟩ = some (.slice (some ⟨gb, 0, none⟩) n cap) ∧ w'.cell? ⟨gb, i * 3, none⟩ = some (.int .i64 vi) ∧ w'.cell? ⟨gb, i * 3 + 1, none⟩ = some (.int .i64 ri) ∧ w'.cell? ⟨gb, i * 3 + 2, none⟩ = some (.int .i64 ci) ∧ w'.cell? ⟨gb, k * 3, none⟩ = some (.int .i64 vk) ∧ w'.cell? ⟨gb, k * 3 + 1, none⟩ = some (.int .i64 rk) ∧ w'.cell? ⟨gb, k * 3 + 2, none⟩ = some (.int .i64 ck) from fun w' hb => ⟨(hb.cell (p := ⟨g, 0, none⟩) hgl).trans hq, (hb.cell (p := ⟨gb, i * 3, none⟩) hbl).trans i0, (hb.cell (p := ⟨gb, i * 3 + 1, none⟩) hbl).trans i1, (hb.cell (p := ⟨gb, i * 3 + 2, none⟩) hbl).trans i2, (hb.cell (p := ⟨gb, k * 3, none⟩) hbl).trans k0, (hb.cell (p := ⟨gb, k * 3 + 1, none⟩) hbl).trans k1, (hb.cell (p := ⟨gb, k * 3 + 2, none⟩) hbl).trans k2⟩)
  have B0 := Below.refl w.heap.size w
  go_region_held3 (fun w' => w'.cell? ⟨g, 0, none⟩ = some (.slice (some ⟨gb, 0, none⟩) n cap) ∧ w'.cell? ⟨gb, i * 3, none⟩ = some (.int .i64 vi) ∧ w'.cell? ⟨gb, i * 3 + 1, none⟩ = some (.int .i64 ri) ∧ w'.cell? ⟨gb, i * 3 + 2, none⟩ = some (.int .i64 ci) ∧ w'.cell? ⟨gb, k * 3, none⟩ = some (.int .i64 vk) ∧ w'.cell? ⟨gb, k * 3 + 1, none⟩ = some (.int .i64 rk) ∧ w'.cell? ⟨gb, k * 3 + 2, none⟩ = some (.int .i64 ck))
    (exact HK.out _ (by with_reducible repeat (first | assumption | apply pw_below_drewN | apply below_drew1 | apply below_alloc)))
    (fail)
  all_goals
    clear HK hq hi hk i0 i1 i2 k0 k1 k2 f0 f1 f2 f3
    by_cases hr : ri = rk
    · have d1 : (ri != rk) = false := by simp [hr]
      rw [if_pos hr] at h
      subst hr h
      go_wp2
      go_ret
      exact ⟨rfl, (below_drew ((B0.alloc (Nat.le_refl _) _).alloc (by rw [World.size_alloc]; exact Nat.le_succ _) _))⟩
    · have d1 : (ri != rk) = true := by simpa using hr
      rw [if_neg hr] at h
      subst h
      go_wp2
      go_ret
      exact ⟨rfl, (below_drew ((B0.alloc (Nat.le_refl _) _).alloc (by rw [World.size_alloc]; exact Nat.le_succ _) _))⟩

theorem results_tmp3 {fn : Func} {t u s : Tmp} (h : fn.results = #[.tmp t, .tmp u, .tmp s]) (tmps : Array Value) (P : Program) (w : World) :
    (results fn tmps).run P w = .ok (.tuple #[tmps.getD t undef, tmps.getD u undef, tmps.getD s undef]) w := by
  simp [results, h, go_sem]
/-- an item: its value, its number, when it came -/
def itK : Kd (It Int) := Kd.pair (Kd.int .i64) (Kd.pair (Kd.int .i64) (Kd.int .i64))
theorem infoIt : (Try.prog.info? 106).map (fun i => (i.zero, i.size, i.bytes)) = some (some (.agg #[.int .i64 0, .int .i64 0, .int .i64 0]), 3, 24) := by kernel_rfl
/-- A queue at block g: its items are l, n items have come. -/
def IsQ (w0 W : World) (g : Nat) (l : List (It Int)) (n : Int) : Prop :=
  ∃ v, W.heap[g]? = some (.cells #[v, .int .i64 n] 80 (0, 0)) ∧ w0.heap.size ≤ g ∧ Kd.R itK 106 W w0.heap.size (fun _ => True) v l
theorem itK_M {w : World} {base : Nat} {ok : Nat → Prop} {x : It Int} {cs : List Value} : itK.M w base ok x cs ↔ cs = [.int .i64 x.1, .int .i64 x.2.1, .int .i64 x.2.2] := by
  constructor
  · rintro ⟨c0, c1, rfl, h0, c2, c3, rfl, h1, h2⟩
    have h0 : c0 = _ := h0
    have h1 : c2 = _ := h1
    have h2 : c3 = _ := h2
    subst h0 h1 h2
    rfl
  · rintro rfl
    exact ⟨[_], [_, _], rfl, rfl, [_], [_], rfl, rfl, rfl⟩
theorem Q_len (w : World) (w0 : World) (g : Nat) (l : List (It Int)) (n : Int) (h : IsQ w0 w g l n) : Calls Try.prog 26 #[.pointer (some ⟨g, 0, none⟩)] w fun e w' => e = .returned (.int .i64 l.length) ∧ w = w' := by
  obtain ⟨v, hb, _, hR⟩ := h
  obtain ⟨A, c, rfl⟩ := Kd.R_slice hR
  have h0 : w.cell? ⟨g, 0, none⟩ = some (.slice A l.length c) := by simp [World.cell?, hb]
  clear hR hb
  go_enter Try.func26, Try.ntmps26
  go_wp2
  go_ret
  exact ⟨rfl, rfl⟩
theorem IsQ.cells {w0 w : World} {g : Nat} {l : List (It Int)} {n : Int} (h : IsQ w0 w g l n) (hl : 0 < l.length) : ∃ gb cap, w.heap[g]? = some (.cells #[.slice (some ⟨gb, 0, none⟩) l.length cap, .int .i64 n] 80 (0, 0)) ∧ l.length ≤ cap ∧ w0.heap.size ≤ gb ∧ gb ≠ g ∧
    Kd.R itK 106 w w0.heap.size (fun _ => True) (.slice (some ⟨gb, 0, none⟩) l.length cap) l ∧
    ∀ i, i < l.length → w.cell? ⟨gb, i * 3, none⟩ = some (.int .i64 (l.getD i (default, 0, 0)).1) ∧ w.cell? ⟨gb, i * 3 + 1, none⟩ = some (.int .i64 (l.getD i (default, 0, 0)).2.1) ∧ w.cell? ⟨gb, i * 3 + 2, none⟩ = some (.int .i64 (l.getD i (default, 0, 0)).2.2) := by
  obtain ⟨v, hb, hg, hR⟩ := h
  obtain ⟨gb, cap, rfl, h1, h2, cells, h3⟩ := Kd.R_form hR hl
  refine ⟨gb, cap, hb, (Kd.R_reads' hR).2.1, h1, ?_, hR, fun i hi => ?_⟩
  · rintro rfl
    rw [hb] at h3
    injection h3 with h3
    injection h3 with _ h3
    cases h3
  · obtain ⟨c, hc, hM, hcell, _⟩ := Kd.R_elem hR (default, 0, 0) (i : Int) (by omega) (by omega)
    rw [itK_M] at hM
    subst hM
    exact ⟨hcell 0 _ rfl, hcell 1 _ rfl, hcell 2 _ rfl⟩
/-- item i is written, a cell at a time -/
theorem Q_seti {w0 W : World} {g b n cap : Nat} {l : List (It Int)} {A B : Value} (hG : W.heap[g]? = some (.cells #[A, B] 80 (0, 0))) (hR : Kd.R itK 106 W w0.heap.size (fun _ => True) (.slice (some ⟨b, 0, none⟩) n cap) l) (hB : Below w0.heap.size w0 W) (i : Nat) (hi : i < l.length) (x : It Int) :
    (((W.setCell ⟨b, i * 3, none⟩ (.int .i64 x.1)).setCell ⟨b, i * 3 + 1, none⟩ (.int .i64 x.2.1)).setCell ⟨b, i * 3 + 2, none⟩ (.int .i64 x.2.2)).heap[g]? = some (.cells #[A, B] 80 (0, 0)) ∧
    Kd.R itK 106 (((W.setCell ⟨b, i * 3, none⟩ (.int .i64 x.1)).setCell ⟨b, i * 3 + 1, none⟩ (.int .i64 x.2.1)).setCell ⟨b, i * 3 + 2, none⟩ (.int .i64 x.2.2)) w0.heap.size (fun _ => True) (.slice (some ⟨b, 0, none⟩) n cap) (l.set i x) ∧
    Below w0.heap.size w0 (((W.setCell ⟨b, i * 3, none⟩ (.int .i64 x.1)).setCell ⟨b, i * 3 + 1, none⟩ (.int .i64 x.2.1)).setCell ⟨b, i * 3 + 2, none⟩ (.int .i64 x.2.2)) := by
  have hn := (Kd.R_reads' hR).1
  obtain ⟨gq, cq, eq, hb, _, cells, hcells⟩ := Kd.R_form hR (by omega)
  injection eq with eq _ _
  injection eq with eq
  injection eq with eq
  subst eq
  have hne : g ≠ b := blk_ne hG hcells (by decide)
  obtain ⟨c, hcl, hM, hcc, _⟩ := Kd.R_elem hR (default, 0, 0) (i : Int) (by omega) (by omega)
  have h3 := Kd.R_seg hR (i : Int) (by omega) (by omega) (j := 0) (seg := [.int .i64 x.1, .int .i64 x.2.1, .int .i64 x.2.2]) (x' := x) (okp := fun _ => False) hcl hcc (by show 3 ≤ 3; omega) (by
    rw [itK_M]
    have : c.length = 3 := hcl
    simp [this]) (fun _ hk => hk.elim)
  exact ⟨blk_grown hG h3.2 (by simpa using hne), h3.1, ((hB.setCell (p := ⟨b, i * 3, none⟩) hb _).setCell (p := ⟨b, i * 3 + 1, none⟩) hb _).setCell (p := ⟨b, i * 3 + 2, none⟩) hb _⟩
/-- three cells of block b are written: the other blocks -/
theorem set3_far {W : World} {b i j k q : Nat} (h : q ≠ b) (x y z : Value) : (((W.setCell ⟨b, i, none⟩ x).setCell ⟨b, j, none⟩ y).setCell ⟨b, k, none⟩ z).heap[q]? = W.heap[q]? :=
  (Below.heap_setCell _ ⟨b, k, none⟩ z q h).trans ((Below.heap_setCell _ ⟨b, j, none⟩ y q h).trans (Below.heap_setCell _ ⟨b, i, none⟩ x q h))
theorem cell_q0 {W : World} {g : Nat} {a b : Value} {t : TypeId} (h : W.heap[g]? = some (.cells #[a, b] t (0, 0))) : W.cell? ⟨g, 0, none⟩ = some a := by simp [World.cell?, h]
theorem cell_q1 {W : World} {g : Nat} {a b : Value} {t : TypeId} (h : W.heap[g]? = some (.cells #[a, b] t (0, 0))) : W.cell? ⟨g, 1, none⟩ = some b := by simp [World.cell?, h]
end Go.Proofs.Ytlbicibihdkpnaa.P
namespace Go.Proofs.Ytlbicibihdkpnaa.P
open Go.RowKit Go.Proofs.YtlbicibihdkpnaaW.PrintWords Go.Proofs.YtlbicibihdkpnaaW.PrintLast Go.Proofs.YtlbicibihdkpnaaW.PrintMore
set_option linter.unusedVariables false
set_option linter.unusedSimpArgs false

set_option maxHeartbeats 4000000 in
set_option maxRecDepth 100000 in
theorem Q_put (w : World) (w0 : World) (g : Nat) (l : List (It Int)) (n r : Int) (v : Int) (h : IsQ w0 w g l n) (hB : Below w0.heap.size w0 w) (hl : l.length < 4096) (hn : 0 ≤ n ∧ n < 100000) : Calls Try.prog 25 #[.pointer (some ⟨g, 0, none⟩), .int .i64 v, .int .i64 r] w fun e w' => e = .returned (.int .i64 0) ∧ IsQ w0 w' g (up l.length (l ++ [(v, r, n)])) (n + 1) ∧ Below w0.heap.size w0 w' := by
  obtain ⟨v0, hb, hg, hR⟩ := h
  obtain ⟨A, c, rfl⟩ := Kd.R_slice hR
  have HB := Aside0.mk hB
  have HR := Aside0.mk hR
  have HG := Aside0.mk hb
  have HGE := Aside0.mk hg
  have c0 : w.cell? ⟨g, 0, none⟩ = some (.slice A l.length c) := by simp [World.cell?, hb]
  have c1 : w.cell? ⟨g, 1, none⟩ = some (.int .i64 n) := by simp [World.cell?, hb]
  have z0 := blk_frozen hb 0
  have z1 := blk_frozen hb 1
  have f0 : ¬ ((l.length : Int) ≥ 4096) := by omega
  have d0 : decide ((4096 : Int) ≤ (l.length : Int)) = false := decide_eq_false (by omega)
  clear hB hR hb hg
  go_enter Try.func25, Try.ntmps25
  go_wp2_with (fail)
  go_cut [27] (fun v27 wc => ∃ (b cap : Nat), v27 = .slice (some ⟨b, 0, none⟩) (l.length + 1) cap ∧ Aside0 (wc.heap[g]? = some (.cells #[.slice (some ⟨b, 0, none⟩) (l.length + 1) cap, .int .i64 n] 80 (0, 0)) ∧ Kd.R itK 106 wc w0.heap.size (fun _ => True) (.slice (some ⟨b, 0, none⟩) (l.length + 1) cap) (l ++ [(v, r, n)]) ∧ Below w0.heap.size w0 wc))
  case rest =>
    obtain ⟨b, cap, rfl, HC⟩ := hcut
    obtain ⟨hGc, hRc, hBc⟩ := HC.out
    have a0 := cell_q0 hGc
    have a1 := cell_q1 hGc
    have b0 := blk_frozen hGc 0
    have b1 := blk_frozen hGc 1
    have hw1 : IntKind.i64.wrap (n + 1) = n + 1 := by rw [IntKind.wrap_i64]; omega
    have hS := blk_set hGc 1 (.int .i64 (n + 1))
    have hRS := Kd.R_set hRc hGc (by decide) 1 (.int .i64 (n + 1))
    have hBS := hBc.setCell (p := ⟨g, 1, none⟩) HGE.out (.int .i64 (n + 1))
    obtain ⟨w3, hw3⟩ : ∃ W, wc.setCell ⟨g, 1, none⟩ (.int .i64 (n + 1)) = W := ⟨_, rfl⟩
    rw [hw3] at hS hRS hBS
    have a3 : w3.cell? ⟨g, 0, none⟩ = some (.slice (some ⟨b, 0, none⟩) (l.length + 1) cap) := cell_q0 hS
    have HS := Aside0.mk (And.intro hS (And.intro hRS hBS))
    clear hGc hRc hBc hS hRS hBS HC
    go_wp2_with (fail)
    go_loopg [7] l.length (fun kq v7 w' => ∃ l1 : List (It Int), v7 = .int .i64 (kq : Int) ∧ Aside0 (l1.length = l.length + 1 ∧ kq ≤ l.length ∧ up kq l1 = up l.length (l ++ [(v, r, n)])) ∧ Aside0 (w'.heap[g]? = some (.cells #[.slice (some ⟨b, 0, none⟩) (l.length + 1) cap, .int .i64 (n + 1)] 80 (0, 0)) ∧ Kd.R itK 106 w' w0.heap.size (fun _ => True) (.slice (some ⟨b, 0, none⟩) (l.length + 1) cap) l1 ∧ Below w0.heap.size w0 w'))
    case atStart => exact ⟨l ++ [(v, r, n)], by simp, ⟨by simp, Nat.le_refl _, rfl⟩, HS⟩
    case round =>
      obtain ⟨l1, rfl, HL, HS⟩ := hrel
      cases gk with
      | zero =>
        go_wp2
        go_ret
        have hup := HL.out.2.2
        rw [up_stop 0 l1 (by simp)] at hup
        refine ⟨rfl, hup ▸ ⟨_, HS.out.1, HGE.out, ?_⟩, HS.out.2.2⟩
        exact HS.out.2.1
      | succ k =>
        have hk : k < l.length := by have := HL.out.2.1; omega
        have e1 : wrap64 (k : Int) = (k : Int) := by unfold wrap64; omega
        have e2 : Int.tdiv (k : Int) 2 = ((k / 2 : Nat) : Int) := by rw [Int.tdiv_eq_ediv_of_nonneg (by omega)]; omega
        have e3 : wrap64 ((k / 2 : Nat) : Int) = ((k / 2 : Nat) : Int) := by unfold wrap64; omega
        have HE := Aside0.mk (And.intro e1 (And.intro e2 e3))
        have HQ := Aside0.mk (show IsQ w0 wr g l1 (n + 1) from ⟨_, HS.out.1, HGE.out, HS.out.2.1⟩)
        obtain ⟨gb2, cap2, hb2, _, _, hne2, _, hcs⟩ := HQ.out.cells (by have := HL.out.1; omega)
        have hsame : gb2 = b ∧ cap2 = cap := by
          have := hb2.symm.trans HS.out.1
          simp at this
          exact ⟨this.1, this.2.2⟩
        obtain ⟨rfl, rfl⟩ := hsame
        have ci := hcs (k + 1) (by have := HL.out.1; omega)
        have cp := hcs (k / 2) (by have := HL.out.1; omega)
        have HCI := Aside0.mk ci
        have HCP := Aside0.mk cp
        have HNE := Aside0.mk hne2
        clear ci cp hcs hb2 hne2
        have q0 := cell_q0 HS.out.1
        go_wp2_with (fail)
        refine (queue_before.calls g gb2 (l.length + 1) cap2 (k + 1) (k / 2) _ _ _ _ _ _ wr q0 (by omega) (by omega) HCI.out.1 HCI.out.2.1 HCI.out.2.2 HCP.out.1 HCP.out.2.1 HCP.out.2.2 _ rfl).mono ?_
        rintro e w5 ⟨rfl, hb5⟩
        have HS5 := Aside0.mk (And.intro ((hb5.block g (by have := lt_cell q0; exact this)).trans HS.out.1) (And.intro (Kd.R_below HS.out.2.1 hb5) (HS.out.2.2.trans (hb5.mono HS.out.2.2.size))))
        have HC5 := Aside0.mk (show ∀ p, p < wr.heap.size → ∀ j, w5.cell? ⟨p, j, none⟩ = wr.cell? ⟨p, j, none⟩ from fun p hp j => hb5.cell (p := ⟨p, j, none⟩) hp)
        clear hb5 q0
        by_cases hlt : ltI (at0 l1 (k + 1)) (at0 l1 (k / 2)) = true
        · have hf : ltI (at0 l1 (k + 1)) (at0 l1 (k / 2)) = true := hlt
          unfold ltI at0 at hf
          rw [hf]
          have g0 := cell_q0 HS5.out.1
          have hgl : g < wr.heap.size := lt_cell (cell_q0 HS.out.1)
          have hbl : gb2 < wr.heap.size := lt_cell HCI.out.1
          have ci0 := (HC5.out gb2 hbl _).trans HCI.out.1
          have ci1 := (HC5.out gb2 hbl _).trans HCI.out.2.1
          have ci2 := (HC5.out gb2 hbl _).trans HCI.out.2.2
          have cp0 := (HC5.out gb2 hbl _).trans HCP.out.1
          have cp1 := (HC5.out gb2 hbl _).trans HCP.out.2.1
          have cp2 := (HC5.out gb2 hbl _).trans HCP.out.2.2
          obtain ⟨cells, hcells⟩ : ∃ cells, w5.heap[gb2]? = some (.cells cells 106 (0, 0)) := by
            obtain ⟨gq, cq, eq, _, _, cells, hcells⟩ := Kd.R_form HS5.out.2.1 (by have := HL.out.1; omega)
            injection eq with eq _ _
            injection eq with eq
            injection eq with eq
            exact ⟨cells, eq ▸ hcells⟩
          have z0 := blk_frozen hcells ((k + 1) * 3)
          have z1 := blk_frozen hcells ((k + 1) * 3 + 1)
          have z2 := blk_frozen hcells ((k + 1) * 3 + 2)
          have z3 := blk_frozen hcells (k / 2 * 3)
          have z4 := blk_frozen hcells (k / 2 * 3 + 1)
          have z5 := blk_frozen hcells (k / 2 * 3 + 2)
          go_wp2_with (fail)
          go_region
          all_goals
            have X1 := Q_seti HS5.out.1 HS5.out.2.1 HS5.out.2.2 (k + 1) (by have := HL.out.1; omega) (l1[k / 2]?.getD (0, 0, 0))
            have X2 := Q_seti X1.1 X1.2.1 X1.2.2 (k / 2) (by rw [List.length_set]; have := HL.out.1; omega) (l1[k + 1]?.getD (0, 0, 0))
            obtain ⟨w6, hw6⟩ : ∃ W, ((((((w5.setCell ⟨gb2, (k + 1) * 3, none⟩ (.int .i64 (l1[k / 2]?.getD (0, 0, 0)).1)).setCell ⟨gb2, (k + 1) * 3 + 1, none⟩ (.int .i64 (l1[k / 2]?.getD (0, 0, 0)).2.1)).setCell ⟨gb2, (k + 1) * 3 + 2, none⟩ (.int .i64 (l1[k / 2]?.getD (0, 0, 0)).2.2)).setCell ⟨gb2, (k / 2) * 3, none⟩ (.int .i64 (l1[k + 1]?.getD (0, 0, 0)).1)).setCell ⟨gb2, (k / 2) * 3 + 1, none⟩ (.int .i64 (l1[k + 1]?.getD (0, 0, 0)).2.1)).setCell ⟨gb2, (k / 2) * 3 + 2, none⟩ (.int .i64 (l1[k + 1]?.getD (0, 0, 0)).2.2)) = W := ⟨_, rfl⟩
            rw [hw6] at X2 ⊢
            have HX := Aside0.mk (show w6.heap[g]? = _ ∧ Kd.R itK 106 w6 _ _ _ (swp l1 (k + 1) (k / 2)) ∧ _ from X2)
            have HU := Aside0.mk ((up_step (k + 1) l1 (by omega) hlt).symm.trans HL.out.2.2)
            have HW := Aside0.mk hw6
            clear X1 X2 ci0 ci1 ci2 cp0 cp1 cp2 z0 z1 z2 z3 z4 z5 g0 hw6 hcells
            obtain ⟨e1, e2, e3⟩ := HE.out
            go_wp2
            go_roundg (k / 2)
            case measure => omega
            case rel =>
              refine ⟨swp l1 (k + 1) (k / 2), ?_, ⟨?_, ?_, ?_⟩, ⟨?_, ?_, ?_⟩⟩
              · rw [show ((k / 2 : Nat) : Int) = (k : Int) / 2 from by omega]
              · rw [swp_length]; exact HL.out.1
              · omega
              · exact HU.out
              · exact HX.out.1
              · exact Kd.R_drew HX.out.2.1
              · exact below_drew HX.out.2.2
        · have hf : ltI (at0 l1 (k + 1)) (at0 l1 (k / 2)) = false := by simpa using hlt
          have hup := HL.out.2.2
          rw [up_stop (k + 1) l1 (by rw [show (k + 1 - 1) / 2 = k / 2 from by omega, hf]; simp)] at hup
          have HU := Aside0.mk hup
          clear hup hlt
          unfold ltI at0 at hf
          rw [hf]
          go_wp2
          go_ret
          exact ⟨rfl, HU.out ▸ ⟨_, HS5.out.1, HGE.out, HS5.out.2.1⟩, HS5.out.2.2⟩
  have HBd := Aside0.mk (below_drew HB.out)
  have HRd := Aside0.mk (Kd.R_drew HR.out)
  have c0a : (w.alloc (.cells #[.int .i64 v, .int .i64 r, .int .i64 n] 106)).cell? ⟨g, 0, none⟩ = some (.slice A l.length c) := ((below_alloc (Below.refl _ _) _).cell (p := ⟨g, 0, none⟩) (lt_cell c0)).trans c0
  have hl3 : (l.length + 1) * 24 ≤ 140737488355328 := by omega
  go_region_law (refine Kd.R_append_step itK (w0 := w0) (W := w.drew) w0.heap.size (by first | rfl | kernel_rfl) (.tmp 18) (.tmp 26) 78 106 (.agg #[.int .i64 0, .int .i64 0, .int .i64 0]) 24 rfl Try.underlying78 infoIt rfl (by decide) (by decide) (.slice A l.length c) l (v, r, n) [.int .i64 v, .int .i64 r, .int .i64 n] (fun _ => True) (fun _ => False) rfl rfl (itK_M.2 rfl) (fun _ hk => hk.elim) (fun _ _ => trivial) HRd.out HBd.out (below_size HBd.out) hl3 ?_; intro v1 w1 ho hb hg hat; obtain ⟨b, cap, rfl, hbb, hbs, cells, hcells⟩ := Kd.R_form ho (by simp); clear hbb hbs hcells; have ho1 := Aside0.mk ho; have hb1 := Aside0.mk hb; have hg1 := Aside0.mk hg; have HG1 := Aside0.mk (blk_grown (show w.drew.heap[g]? = some (.cells #[.slice A l.length c, .int .i64 n] 80 (0, 0)) from HG.out) hg1.out (by obtain ⟨_, inner, hown, _⟩ := HRd.out; exact own_ne hown (show w.drew.heap[g]? = some (.cells #[.slice A l.length c, .int .i64 n] 80 (0, 0)) from HG.out) (by decide))); have hz1 := blk_frozen HG1.out 0; have hz3 := blk_frozen HG1.out 1; have hz2 := cell_q0 HG1.out; have hz4 := cell_q1 HG1.out; clear ho hb hg hat)
  all_goals
    go_wp2
    go_meet
    case rel =>
      refine ⟨b, cap, rfl, ⟨?_, ?_, ?_⟩⟩
      · have := blk_set HG1.out 0 (.slice (some ⟨b, 0, none⟩) (l.length + 1) cap)
        simpa using this
      · have := Kd.R_set ho1.out HG1.out (by decide) 0 (.slice (some ⟨b, 0, none⟩) (l.length + 1) cap)
        simpa using this
      · exact hb1.out.setCell (p := ⟨g, 0, none⟩) HGE.out _
end Go.Proofs.Ytlbicibihdkpnaa.P
namespace Go.Proofs.Ytlbicibihdkpnaa.P
open Go.RowKit Go.Proofs.YtlbicibihdkpnaaW.PrintWords Go.Proofs.YtlbicibihdkpnaaW.PrintLast Go.Proofs.YtlbicibihdkpnaaW.PrintMore
set_option linter.unusedVariables false
set_option linter.unusedSimpArgs false

set_option maxHeartbeats 4000000 in
set_option maxRecDepth 100000 in
theorem Q_take0 (w : World) (w0 : World) (g : Nat) (n : Int) (h : IsQ w0 w g [] n) : Calls Try.prog 27 #[.pointer (some ⟨g, 0, none⟩)] w fun e w' => e = .returned (.tuple #[.int .i64 0, .int .i64 0, .int .i64 4]) ∧ w = w' := by
  obtain ⟨v0, hb, hg, hR⟩ := h
  obtain ⟨A, c, rfl⟩ := Kd.R_slice hR
  have c0 : w.cell? ⟨g, 0, none⟩ = some (.slice A 0 c) := by simp [World.cell?, hb]
  clear hR hb hg
  go_enter Try.func27, Try.ntmps27
  go_wp2
  refine bodyPost_ret (results_tmp3 rfl _ _ _) rfl ?_
  exact ⟨rfl, rfl⟩
/-- in the midst of Take: the queue's block, its row of m items, the item that was first -/
def TakeAt (w0 v0 W : World) (g gb m cap ko : Nat) (n : Int) (x0 : It Int) (l : List (It Int)) : Prop :=
  W.heap[g]? = some (.cells #[.slice (some ⟨gb, 0, none⟩) m cap, .int .i64 n] 80 (0, 0)) ∧
  Kd.R itK 106 W w0.heap.size (fun _ => True) (.slice (some ⟨gb, 0, none⟩) m cap) l ∧ Below w0.heap.size w0 W ∧
  W.heap[ko]? = some (.cells #[.int .i64 x0.1, .int .i64 x0.2.1, .int .i64 x0.2.2] 106 (0, 0)) ∧ ko ≠ g ∧ ko ≠ gb ∧ v0.heap.size ≤ W.heap.size ∧ ∀ k, k < v0.heap.size → k ≠ g → k ≠ gb → W.heap[k]? = v0.heap[k]?
theorem TakeAt.size {w0 v0 W : World} {g gb m cap ko : Nat} {n : Int} {x0 : It Int} {l : List (It Int)} (h : TakeAt w0 v0 W g gb m cap ko n x0 l) : v0.heap.size ≤ W.heap.size := h.2.2.2.2.2.2.1
theorem TakeAt.below {w0 v0 W W' : World} {g gb m cap ko : Nat} {n : Int} {x0 : It Int} {l : List (It Int)} (h : TakeAt w0 v0 W g gb m cap ko n x0 l) (hb : Below W.heap.size W W') : TakeAt w0 v0 W' g gb m cap ko n x0 l :=
  ⟨(hb.block g (blk_lt h.1)).trans h.1, Kd.R_below h.2.1 hb, h.2.2.1.trans (hb.mono h.2.2.1.size), (hb.block ko (blk_lt h.2.2.2.1)).trans h.2.2.2.1, h.2.2.2.2.1, h.2.2.2.2.2.1, Nat.le_trans h.size hb.size, fun k hk h1 h2 => (hb.block k (Nat.lt_of_lt_of_le hk h.size)).trans (h.2.2.2.2.2.2.2 k hk h1 h2)⟩
theorem TakeAt.seti {w0 v0 W : World} {g gb m cap ko : Nat} {n : Int} {x0 : It Int} {l : List (It Int)} (h : TakeAt w0 v0 W g gb m cap ko n x0 l) (i : Nat) (hi : i < l.length) (x : It Int) :
    TakeAt w0 v0 (((W.setCell ⟨gb, i * 3, none⟩ (.int .i64 x.1)).setCell ⟨gb, i * 3 + 1, none⟩ (.int .i64 x.2.1)).setCell ⟨gb, i * 3 + 2, none⟩ (.int .i64 x.2.2)) g gb m cap ko n x0 (l.set i x) := by
  obtain ⟨h1, h2, h3⟩ := Q_seti h.1 h.2.1 h.2.2.1 i hi x
  exact ⟨h1, h2, h3, (set3_far h.2.2.2.2.2.1 _ _ _).trans h.2.2.2.1, h.2.2.2.2.1, h.2.2.2.2.2.1, by simpa only [World.size_setCell] using h.size, fun k hk h1 h2 => (set3_far h2 _ _ _).trans (h.2.2.2.2.2.2.2 k hk h1 h2)⟩
theorem TakeAt.frozen {w0 v0 W : World} {g gb m cap ko : Nat} {n : Int} {x0 : It Int} {l : List (It Int)} (h : TakeAt w0 v0 W g gb m cap ko n x0 l) (hl : 0 < l.length) (j : Nat) : W.frozen? ⟨gb, j, none⟩ = false := by
  obtain ⟨gq, cq, eq, _, _, cells, hcells⟩ := Kd.R_form h.2.1 hl
  injection eq with eq _ _
  injection eq with eq
  injection eq with eq
  exact blk_frozen (eq ▸ hcells) j
theorem TakeAt.cells {w0 v0 W : World} {g gb m cap ko : Nat} {n : Int} {x0 : It Int} {l : List (It Int)} (h : TakeAt w0 v0 W g gb m cap ko n x0 l) (i : Nat) (hi : i < l.length) :
    W.cell? ⟨gb, i * 3, none⟩ = some (.int .i64 (at0 l i).1) ∧ W.cell? ⟨gb, i * 3 + 1, none⟩ = some (.int .i64 (at0 l i).2.1) ∧ W.cell? ⟨gb, i * 3 + 2, none⟩ = some (.int .i64 (at0 l i).2.2) := by
  have hm := (Kd.R_reads' h.2.1).1
  obtain ⟨c, hc, hM, hcell, _⟩ := Kd.R_elem h.2.1 (default, 0, 0) (i : Int) (by omega) (by omega)
  rw [itK_M] at hM
  subst hM
  exact ⟨hcell 0 _ rfl, hcell 1 _ rfl, hcell 2 _ rfl⟩
theorem TakeAt.before {w0 v0 W : World} {g gb m cap ko : Nat} {n : Int} {x0 : It Int} {l : List (It Int)} (h : TakeAt w0 v0 W g gb m cap ko n x0 l) (i k : Nat) (hi : i < m) (hk : k < m) {ii kk : Int} (ei : ii = (i : Int)) (ek : kk = (k : Int)) :
    Calls Try.prog 45 #[.pointer (some ⟨g, 0, none⟩), .int .i64 ii, .int .i64 kk] W fun e w' => e = .returned (.bool (ltI (at0 l i) (at0 l k))) ∧ TakeAt w0 v0 w' g gb m cap ko n x0 l := by
  subst ei ek
  have hm := (Kd.R_reads' h.2.1).1
  have ci := h.cells i (by omega)
  have ck := h.cells k (by omega)
  refine (queue_before.calls g gb m cap i k _ _ _ _ _ _ W (cell_q0 h.1) hi hk ci.1 ci.2.1 ci.2.2 ck.1 ck.2.1 ck.2.2 _ rfl).mono ?_
  rintro e w5 ⟨rfl, hb5⟩
  exact ⟨rfl, h.below hb5⟩
theorem TakeAt.cut {w0 v0 W : World} {g gb m k cap ko : Nat} {n : Int} {x0 : It Int} {l : List (It Int)} (h : TakeAt w0 v0 W g gb k cap ko n x0 l) (hg : w0.heap.size ≤ g) (hm : m ≤ l.length) :
    TakeAt w0 v0 (W.setCell ⟨g, 0, none⟩ (.slice (some ⟨gb, 0, none⟩) m cap)) g gb m cap ko n x0 (l.take m) := by
  refine ⟨by simpa using blk_set h.1 0 (.slice (some ⟨gb, 0, none⟩) m cap), Kd.R_set (Kd.R_take h.2.1 hm) h.1 (by decide) 0 _, h.2.2.1.setCell (p := ⟨g, 0, none⟩) hg _, ?_, h.2.2.2.2.1, h.2.2.2.2.2.1, by simpa only [World.size_setCell] using h.size, fun k hk h1 h2 => (Below.heap_setCell _ ⟨g, 0, none⟩ _ k h1).trans (h.2.2.2.2.2.2.2 k hk h1 h2)⟩
  exact (Below.heap_setCell _ ⟨g, 0, none⟩ _ ko h.2.2.2.2.1).trans h.2.2.2.1
set_option maxHeartbeats 4000000 in
set_option maxRecDepth 100000 in
theorem Q_takeK (w : World) (w0 : World) (g : Nat) (l : List (It Int)) (n : Int) (m : Nat) (h : IsQ w0 w g l n) (hB : Below w0.heap.size w0 w) (hl : l.length = m + 1) (hm : m < 4096) : Calls Try.prog 27 #[.pointer (some ⟨g, 0, none⟩)] w fun e w' => e = .returned (.tuple #[.int .i64 (at0 l 0).1, .int .i64 (at0 l 0).2.1, .int .i64 0]) ∧ IsQ w0 w' g (down 0 m ((l.set 0 (at0 l m)).take m)) n ∧ Below w0.heap.size w0 w' ∧ ∀ k cells t, w.heap[k]? = some (.cells cells t (0, 0)) → t ≠ 106 → k ≠ g → w'.heap[k]? = w.heap[k]? := by
  obtain ⟨gb, cap, hb, hcap, hgb, hne, hR, hcs⟩ := h.cells (by omega)
  obtain ⟨_, _, hg, _⟩ := h
  have hbl : gb < w.heap.size := by
    obtain ⟨_, _, eq, _, h1, _⟩ := Kd.R_form hR (by omega)
    injection eq with eq _ _
    injection eq with eq
    injection eq with eq
    exact eq ▸ h1
  have cs0 := hcs 0 (by omega)
  have csm := hcs m (by omega)
  obtain ⟨x0, hx0⟩ : ∃ x, at0 l 0 = x := ⟨_, rfl⟩
  obtain ⟨xm, hxm⟩ : ∃ x, at0 l m = x := ⟨_, rfl⟩
  unfold at0 at hx0 hxm
  rw [hx0, Nat.zero_mul] at cs0
  rw [hxm] at csm
  rw [hl] at hb hR hcap
  have HL := Aside0.mk hl
  have HX0 := Aside0.mk hx0
  have HXM := Aside0.mk hxm
  have HB := Aside0.mk hB
  have HR := Aside0.mk hR
  have HG := Aside0.mk hb
  have HGE := Aside0.mk hg
  have HCS := Aside0.mk csm
  have HGB := Aside0.mk (show ∃ cells, w.heap[gb]? = some (.cells cells 106 (0, 0)) from by
    obtain ⟨_, _, eq, _, _, cells, h1⟩ := Kd.R_form hR (by omega)
    injection eq with eq _ _
    injection eq with eq
    injection eq with eq
    exact ⟨cells, eq ▸ h1⟩)
  have hgl : g < w.heap.size := blk_lt hb
  have HGL := Aside0.mk hgl
  have HBL := Aside0.mk hbl
  have HNE := Aside0.mk hne
  have HCAP := Aside0.mk hcap
  obtain ⟨i0, i1, i2⟩ := cs0
  have c0 := cell_q0 hb
  have f2 : ((m + 1 : Nat) : Int) = (m : Int) + 1 := by omega
  have f3 : (0 : Int) < (m : Int) + 1 := by omega
  have f4 : (m : Int) < (m : Int) + 1 := by omega
  have f5 : wrap64 (m : Int) = (m : Int) := by unfold wrap64; omega
  have f6 : decide ((m : Int) < 0) = false := decide_eq_false (by omega)
  have f7 : 0 < m + 1 := by omega
  have f8 : m < m + 1 := by omega
  unfold at0
  rw [hx0, hxm]
  obtain ⟨L, hL⟩ : ∃ L, List.take m (l.set 0 xm) = L := ⟨_, rfl⟩
  rw [hL]
  have HLL := Aside0.mk hL
  clear hL hB hR hb hg hcs csm hgl hbl hne hl hx0 hxm hcap
  go_enter Try.func27, Try.ntmps27
  go_wp2_with (fail)
  obtain ⟨w1, hw1⟩ : ∃ W, w.alloc (.cells #[.int .i64 x0.1, .int .i64 x0.2.1, .int .i64 x0.2.2] 106) = W := ⟨_, rfl⟩
  rw [hw1]
  have HT := Aside0.mk (show TakeAt w0 w w1 g gb (m + 1) cap w.heap.size n x0 l from by
    rw [← hw1]
    exact ⟨(below_alloc (Below.refl _ _) _).block g HGL.out |>.trans HG.out, Kd.R_alloc HR.out _, HB.out.alloc HB.out.size _, Array.getElem?_push_size, fun h => by have := HGL.out; omega, fun h => by have := HBL.out; omega, by rw [World.size_alloc]; omega, fun k hk _ _ => (below_alloc (Below.refl _ _) _).block k hk⟩)
  obtain ⟨ko, hko⟩ : ∃ k, w.heap.size = k := ⟨_, rfl⟩
  rw [hko] at HT ⊢
  clear i0 i1 i2 c0 hw1
  have c0 := cell_q0 HT.out.1
  obtain ⟨j0, j1, j2⟩ := HT.out.cells m (by rw [HL.out]; exact f8)
  unfold at0 at j0 j1 j2
  rw [HXM.out] at j0 j1 j2
  obtain ⟨i0, i1, i2⟩ := HT.out.cells 0 (by rw [HL.out]; exact f7)
  unfold at0 at i0 i1 i2
  rw [HX0.out, Nat.zero_mul] at i0 i1 i2
  have z0 := HT.out.frozen (by rw [HL.out]; exact f7) 0
  have z1 := HT.out.frozen (by rw [HL.out]; exact f7) 1
  have z2 := HT.out.frozen (by rw [HL.out]; exact f7) 2
  go_region
  all_goals
    have X1 := HT.out.seti 0 (by rw [HL.out]; exact f7) xm
    rw [Nat.zero_mul] at X1
    have HT2 := Aside0.mk (X1.below (below_drew (Below.refl _ _)))
    obtain ⟨w2, hw2⟩ : ∃ W, (((w1.setCell ⟨gb, 0, none⟩ (.int .i64 xm.1)).setCell ⟨gb, 1, none⟩ (.int .i64 xm.2.1)).setCell ⟨gb, 2, none⟩ (.int .i64 xm.2.2)).drew = W := ⟨_, rfl⟩
    rw [hw2]
    have HT2 := Aside0.mk (show TakeAt w0 w w2 g gb (m + 1) cap ko n x0 (l.set 0 xm) from hw2 ▸ HT2.out)
    clear X1 hw2 i0 i1 i2 j0 j1 j2 z0 z1 z2 c0
    have c0 := cell_q0 HT2.out.1
    have HL2 := Aside0.mk (show (l.set 0 xm).length = m + 1 from by rw [List.length_set]; exact HL.out)
    obtain ⟨j0, j1, j2⟩ := HT2.out.cells m (by rw [HL2.out]; exact f8)
    have z0 := HT2.out.frozen (by rw [HL2.out]; exact f7) (m * 3)
    have z1 := HT2.out.frozen (by rw [HL2.out]; exact f7) (m * 3 + 1)
    have z2 := HT2.out.frozen (by rw [HL2.out]; exact f7) (m * 3 + 2)
    go_upto_region 7 with (fail)
    go_cut [43] (fun v43 wc => v43 = .pointer (some ⟨gb, m * 3, none⟩) ∧ Aside0 (TakeAt w0 w wc g gb (m + 1) cap ko n x0 ((l.set 0 xm).set m (default, 0, 0))))
    case rest =>
      obtain ⟨rfl, HT3⟩ := hcut
      clear j0 j1 j2 z0 z1 z2 c0
      have c0 := cell_q0 HT3.out.1
      have z0 := blk_frozen HT3.out.1 0
      have HL3 := Aside0.mk (show ((l.set 0 xm).set m (default, 0, 0)).length = m + 1 from by rw [List.length_set]; exact HL2.out)
      have f9 : (0 : Int) ≤ (m : Int) := by omega
      have f10 : (m : Int) ≤ (cap : Int) := by have := HCAP.out; omega
      have f11 : m ≤ cap := by have := HCAP.out; omega
      go_upto_region 9 with (fail)
      obtain ⟨w4, hw4⟩ : ∃ W, wc.setCell ⟨g, 0, none⟩ (.slice (some ⟨gb, 0, none⟩) m cap) = W := ⟨_, rfl⟩
      rw [hw4]
      have HL4 := Aside0.mk (show L.length = m from by rw [← HLL.out, List.length_take, HL2.out]; omega)
      have HT4 := Aside0.mk (show TakeAt w0 w w4 g gb m cap ko n x0 L from by
        have := HT3.out.cut HGE.out (m := m) (by rw [HL3.out]; omega)
        rw [hw4] at this
        rwa [show List.take m ((l.set 0 xm).set m (default, 0, 0)) = L from by rw [← HLL.out, List.take_set, List.set_eq_of_length_le (by rw [List.length_take]; omega)]] at this)
      clear c0 z0 hw4 HT3
      go_wp2_with (fail)
      go_loopg [8] m (fun kq v8 w' => ∃ (i : Nat) (l1 : List (It Int)), v8 = .int .i64 (i : Int) ∧ Aside0 (kq = m - i ∧ i ≤ m ∧ l1.length = m ∧ down i m l1 = down 0 m L) ∧ Aside0 (TakeAt w0 w w' g gb m cap ko n x0 l1))
      case atStart => exact ⟨0, L, rfl, ⟨rfl, by omega, HL4.out, rfl⟩, HT4⟩
      case round =>
        obtain ⟨i, l1, rfl, HI, HS⟩ := hrel
        have e0 : i < 4097 := by have := HI.out.2.1; omega
        have e1 : wrap64 (2 * (i : Int)) = 2 * (i : Int) := by unfold wrap64; omega
        have e2 : wrap64 (2 * (i : Int) + 1) = 2 * (i : Int) + 1 := by unfold wrap64; omega
        have e3 : wrap64 (2 * (i : Int) + 1 + 1) = 2 * (i : Int) + 2 := by unfold wrap64; omega
        have HE := Aside0.mk (And.intro e0 (And.intro e1 (And.intro e2 e3)))
        go_upto_region 11 with (fail)
        go_cut [66] (fun v66 wc => v66 = .bool (decide (2 * i + 2 < m ∧ ltI (at0 l1 (2 * i + 2)) (at0 l1 (2 * i + 1)) = true)) ∧ Aside0 (TakeAt w0 w wc g gb m cap ko n x0 l1))
        case rest =>
          obtain ⟨rfl, HS2⟩ := hcut
          go_upto_if 66 with (fail)
          go_cut [9] (fun v9 wc => v9 = .int .i64 (kid i m l1 : Int) ∧ Aside0 (TakeAt w0 w wc g gb m cap ko n x0 l1))
          case rest =>
            obtain ⟨rfl, HS3⟩ := hcut
            have hki : i < kid i m l1 := kid_gt i m l1
            have hkm : kid i m l1 < 10000 := by
              have := HE.out.1
              unfold kid
              split <;> omega
            have HD := Aside0.mk (fun h => down_step i m l1 h)
            have HD2 := Aside0.mk (fun h => down_stop i m l1 h)
            generalize kid i m l1 = k at hki hkm HD HD2
            clear e1 e2 e3
            go_upto_region 13 with (fail)
            go_cut [77] (fun v77 wc => v77 = .bool (decide (¬ (k < m ∧ ltI (at0 l1 i) (at0 l1 k) = false))) ∧ Aside0 (TakeAt w0 w wc g gb m cap ko n x0 l1))
            case rest =>
              obtain ⟨rfl, HS4⟩ := hcut
              by_cases hk : k < m ∧ ltI (at0 l1 i) (at0 l1 k) = false
              · rw [decide_eq_false (not_not_intro hk)]
                obtain ⟨xi, hxi⟩ : ∃ x, at0 l1 i = x := ⟨_, rfl⟩
                obtain ⟨xk, hxk⟩ : ∃ x, at0 l1 k = x := ⟨_, rfl⟩
                have q1 : i < m := by omega
                have q2 : k < m := hk.1
                have q3 : (i : Int) < (m : Int) := by omega
                have q4 : (k : Int) < (m : Int) := by omega
                have ci := HS4.out.cells i (by rw [HI.out.2.2.1]; exact q1)
                have ck := HS4.out.cells k (by rw [HI.out.2.2.1]; exact q2)
                rw [hxi] at ci
                rw [hxk] at ck
                obtain ⟨ci0, ci1, ci2⟩ := ci
                obtain ⟨ck0, ck1, ck2⟩ := ck
                have g0 := cell_q0 HS4.out.1
                have hgl : g < wc.heap.size := lt_cell g0
                have z0 := HS4.out.frozen (by rw [HI.out.2.2.1]; omega) (i * 3)
                have z1 := HS4.out.frozen (by rw [HI.out.2.2.1]; omega) (i * 3 + 1)
                have z2 := HS4.out.frozen (by rw [HI.out.2.2.1]; omega) (i * 3 + 2)
                have z3 := HS4.out.frozen (by rw [HI.out.2.2.1]; omega) (k * 3)
                have z4 := HS4.out.frozen (by rw [HI.out.2.2.1]; omega) (k * 3 + 1)
                have z5 := HS4.out.frozen (by rw [HI.out.2.2.1]; omega) (k * 3 + 2)
                have HXX := Aside0.mk (show swp l1 i k = (l1.set i xk).set k xi from by unfold swp; rw [hxi, hxk])
                have HDD := Aside0.mk ((HD.out hk).symm.trans HI.out.2.2.2)
                clear hxi hxk hk HD HD2
                go_wp2_with (fail)
                go_region
                all_goals
                  have X1 := HS4.out.seti i (by rw [HI.out.2.2.1]; exact q1) xk
                  have X2 := X1.seti k (by rw [List.length_set, HI.out.2.2.1]; exact q2) xi
                  obtain ⟨w6, hw6⟩ : ∃ W, ((((((wc.setCell ⟨gb, i * 3, none⟩ (.int .i64 xk.1)).setCell ⟨gb, i * 3 + 1, none⟩ (.int .i64 xk.2.1)).setCell ⟨gb, i * 3 + 2, none⟩ (.int .i64 xk.2.2)).setCell ⟨gb, k * 3, none⟩ (.int .i64 xi.1)).setCell ⟨gb, k * 3 + 1, none⟩ (.int .i64 xi.2.1)).setCell ⟨gb, k * 3 + 2, none⟩ (.int .i64 xi.2.2)) = W := ⟨_, rfl⟩
                  rw [hw6] at X2 ⊢
                  rw [← HXX.out] at X2
                  have HX := Aside0.mk (X2.below (below_drew (Below.refl _ _)))
                  clear X1 X2 ci0 ci1 ci2 ck0 ck1 ck2 z0 z1 z2 z3 z4 z5 g0 hw6
                  go_wp2
                  go_roundg (m - k)
                  case measure => have := HI.out.1; omega
                  case rel =>
                    exact ⟨k, swp l1 i k, rfl, ⟨rfl, by omega, by rw [swp_length]; exact HI.out.2.2.1, HDD.out⟩, HX⟩
              · rw [decide_eq_true hk]
                have HDD := Aside0.mk ((HD2.out hk).symm.trans HI.out.2.2.2)
                have o0 := blk_cell HS4.out.2.2.2.1 0
                have o1 := blk_cell HS4.out.2.2.2.1 1
                simp only [List.getElem?_toArray, List.getElem?_cons_zero, List.getElem?_cons_succ] at o0 o1
                clear hk HD HD2
                go_wp2
                go_quiet (fail)
                go_wp2
                refine bodyPost_ret (results_tmp3 rfl _ _ _) rfl ?_
                refine ⟨rfl, ⟨_, HS4.out.1, HGE.out, ?_⟩, pw_below_drewN HS4.out.2.2.1 _, ?_⟩
                · have := Kd.R_drewN HS4.out.2.1 nq
                  rwa [HDD.out] at this
                · intro k cells t hk ht hkg
                  refine HS4.out.2.2.2.2.2.2.2 k (blk_lt hk) hkg ?_
                  rintro rfl
                  obtain ⟨cells', hc'⟩ := HGB.out
                  rw [hk] at hc'
                  injection hc' with hc'
                  injection hc' with _ hc'
                  exact ht hc'
            case first =>
              by_cases hk : k < m
              · have h3 : decide ((m : Int) ≤ (k : Int)) = false := decide_eq_false (by omega)
                go_wp2_with (fail)
                refine (HS3.out.before i k (by omega) hk rfl rfl).mono ?_
                rintro e w5 ⟨rfl, HS5⟩
                have HS5 := Aside0.mk HS5
                go_wp2
                go_meet
                case rel => exact ⟨by by_cases h : ltI (at0 l1 i) (at0 l1 k) = true <;> simp [h] <;> omega, HS5⟩
              · have h3 : decide ((m : Int) ≤ (k : Int)) = true := decide_eq_true (by omega)
                go_wp2_with (fail)
                go_meet
                case rel => exact ⟨by simp [hk], HS3⟩
          case first =>
            obtain ⟨e0, e1, e2, e3⟩ := HE.out
            by_cases hk : 2 * i + 2 < m ∧ ltI (at0 l1 (2 * i + 2)) (at0 l1 (2 * i + 1)) = true
            · have hkk : kid i m l1 = 2 * i + 2 := by unfold kid; rw [if_pos hk]
              rw [decide_eq_true hk]
              go_wp2
              go_meet
              case rel => exact ⟨by rw [hkk, show ((2 * i + 2 : Nat) : Int) = 2 * (i : Int) + 1 + 1 from by omega], HS2⟩
            · have hkk : kid i m l1 = 2 * i + 1 := by unfold kid; rw [if_neg hk]
              rw [decide_eq_false hk]
              go_wp2
              go_meet
              case rel => exact ⟨by rw [hkk, show ((2 * i + 1 : Nat) : Int) = 2 * (i : Int) + 1 from by omega], HS2⟩
        case first =>
          by_cases h2 : 2 * i + 2 < m
          · have h3 : (2 * (i : Int) + 2) < (m : Int) := by omega
            go_wp2_with (fail)
            refine (HS.out.before (2 * i + 2) (2 * i + 1) h2 (by omega) (by omega) (by omega)).mono ?_
            rintro e w5 ⟨rfl, HS5⟩
            have HS5 := Aside0.mk HS5
            go_wp2
            go_meet
            case rel => exact ⟨by simp [h2], HS5⟩
          · have h3 : decide ((2 * (i : Int) + 2) < (m : Int)) = false := decide_eq_false (by omega)
            go_wp2_with (fail)
            go_meet
            case rel => exact ⟨by simp [h2], HS⟩
    go_wp2
    go_meet
    case rel => exact ⟨rfl, ⟨HT2.out.seti m (by rw [HL2.out]; exact f8) (default, 0, 0)⟩⟩
theorem Q_take (w : World) (w0 : World) (g : Nat) (l : List (It Int)) (n : Int) (m : Nat) (h : IsQ w0 w g l n) (hB : Below w0.heap.size w0 w) (hl : l.length = m + 1) (hm : m < 4096) : Calls Try.prog 27 #[.pointer (some ⟨g, 0, none⟩)] w fun e w' => e = .returned (.tuple #[.int .i64 (at0 l 0).1, .int .i64 (at0 l 0).2.1, .int .i64 0]) ∧ IsQ w0 w' g (down 0 m ((l.set 0 (at0 l m)).take m)) n ∧ Below w0.heap.size w0 w' :=
  (Q_takeK w w0 g l n m h hB hl hm).mono fun _ _ h => ⟨h.1, h.2.1, h.2.2.1⟩
end Go.Proofs.Ytlbicibihdkpnaa.P
namespace Go.Proofs.Ytlbicibihdkpnaa.P
set_option linter.unusedVariables false
section
variable {α : Type} [Inhabited α]
omit [Inhabited α] in
theorem ltI_iff (a b : It α) : ltI a b = true ↔ a.2.1 < b.2.1 ∨ (a.2.1 = b.2.1 ∧ a.2.2 < b.2.2) := by
  unfold ltI
  split
  · rename_i h; simp [h]
  · rename_i h; simp; omega
omit [Inhabited α] in
theorem ltI_not (a b : It α) : ltI a b = false ↔ b.2.1 < a.2.1 ∨ (b.2.1 = a.2.1 ∧ b.2.2 ≤ a.2.2) := by
  have h := ltI_iff a b
  constructor
  · intro h1
    rw [h1] at h
    simp at h
    omega
  · intro h1
    cases hc : ltI a b
    · rfl
    · rw [hc] at h
      simp at h
      omega
theorem at0_set {l : List (It α)} {i k : Nat} (x : It α) (hi : i < l.length) : at0 (l.set i x) k = if k = i then x else at0 l k := by
  unfold at0
  rw [List.getD_eq_getElem?_getD, List.getD_eq_getElem?_getD, List.getElem?_set]
  by_cases h : i = k
  · subst h
    simp [hi]
  · have h' : ¬ k = i := fun e => h e.symm
    simp [h, h']
theorem at0_swp {l : List (It α)} {i k j : Nat} (hi : i < l.length) (hk : k < l.length) : at0 (swp l i k) j = if j = k then at0 l i else if j = i then at0 l k else at0 l j := by
  unfold swp
  rw [at0_set _ (by rw [List.length_set]; exact hk)]
  by_cases h : j = k
  · rw [if_pos h, if_pos h]
  · rw [if_neg h, if_neg h, at0_set _ hi]
theorem at0_get {l : List (It α)} {i : Nat} (hi : i < l.length) : at0 l i = l[i] := by
  unfold at0
  rw [List.getD_eq_getElem?_getD, List.getElem?_eq_getElem hi]
  rfl
theorem swp_perm {l : List (It α)} {i k : Nat} (hi : i < l.length) (hk : k < l.length) : (swp l i k).Perm l := by
  unfold swp
  rw [at0_get hi, at0_get hk]
  exact List.set_set_perm hi hk
/-- no item comes out before its parent -/
def Heap (l : List (It α)) : Prop := ∀ k, 0 < k → k < l.length → ltI (at0 l k) (at0 l ((k - 1) / 2)) = false
theorem up_heap : ∀ (i : Nat) (l : List (It α)), i < l.length →
    (∀ k, 0 < k → k < l.length → k ≠ i → ltI (at0 l k) (at0 l ((k - 1) / 2)) = false) →
    (0 < i → ∀ k, 0 < k → k < l.length → (k - 1) / 2 = i → ltI (at0 l k) (at0 l ((i - 1) / 2)) = false) →
    Heap (up i l) ∧ (up i l).Perm l := by
  intro i
  induction i using Nat.strongRecOn with
  | ind i ih =>
    intro l hi h1 h2
    by_cases hc : 0 < i ∧ ltI (at0 l i) (at0 l ((i - 1) / 2)) = true
    · rw [up_step i l hc.1 hc.2]
      obtain ⟨p, hp⟩ : ∃ p, (i - 1) / 2 = p := ⟨_, rfl⟩
      rw [hp] at hc h2 ⊢
      have hpi : p < i := by omega
      have hs := fun j => at0_swp (j := j) hi (show p < l.length by omega)
      have := ih p hpi (swp l i p) (by rw [swp_length]; omega) (by
        intro k k0 kn kp
        rw [swp_length] at kn
        rw [hs k, hs ((k - 1) / 2), if_neg kp]
        have lt := (ltI_iff _ _).1 hc.2
        by_cases ki : k = i
        · subst ki
          rw [if_pos rfl, hp, if_pos rfl, ltI_not]
          omega
        · rw [if_neg ki]
          have q := (ltI_not _ _).1 (h1 k k0 kn ki)
          by_cases kp' : (k - 1) / 2 = p
          · rw [if_pos kp', ltI_not]
            rw [kp'] at q
            omega
          · rw [if_neg kp']
            by_cases ki' : (k - 1) / 2 = i
            · rw [if_pos ki']
              exact h2 (by omega) k k0 kn ki'
            · rw [if_neg ki']
              exact h1 k k0 kn ki) (by
        intro p0 k k0 kn kp
        rw [swp_length] at kn
        have hpp : (p - 1) / 2 ≠ p := by omega
        have hpi' : (p - 1) / 2 ≠ i := by omega
        rw [hs k, hs ((p - 1) / 2), if_neg hpp, if_neg hpi', if_neg (by omega)]
        have q0 := (ltI_not _ _).1 (h1 p p0 (by omega) (by omega))
        by_cases ki : k = i
        · rw [if_pos ki, ltI_not]
          omega
        · rw [if_neg ki, ltI_not]
          have q := (ltI_not _ _).1 (h1 k k0 kn ki)
          rw [kp] at q
          omega)
      exact ⟨this.1, this.2.trans (swp_perm hi (by omega))⟩
    · rw [up_stop i l hc]
      refine ⟨fun k k0 kn => ?_, List.Perm.refl _⟩
      by_cases ki : k = i
      · subst ki
        simpa [k0] using hc
      · exact h1 k k0 kn ki
theorem put_heap {l : List (It α)} (h : Heap l) (x : It α) : Heap (up l.length (l ++ [x])) ∧ (up l.length (l ++ [x])).Perm (x :: l) := by
  have e : ∀ k, k < l.length → at0 (l ++ [x]) k = at0 l k := by
    intro k hk
    unfold at0
    rw [List.getD_eq_getElem?_getD, List.getD_eq_getElem?_getD, List.getElem?_append_left hk]
  have := up_heap l.length (l ++ [x]) (by simp) (by
    intro k k0 kn ki
    have kl : k < l.length := by simp at kn; omega
    rw [e k kl, e _ (by omega)]
    exact h k k0 kl) (by
    intro _ k k0 kn kp
    simp at kn
    omega)
  exact ⟨this.1, this.2.trans (List.perm_append_comm.trans (List.Perm.refl _))⟩
theorem down_heap (n : Nat) : ∀ (d i : Nat) (l : List (It α)), n - i ≤ d → l.length = n → (i < n ∨ i = 0) →
    (∀ k, 0 < k → k < n → (k - 1) / 2 ≠ i → ltI (at0 l k) (at0 l ((k - 1) / 2)) = false) →
    (0 < i → ∀ k, 0 < k → k < n → (k - 1) / 2 = i → ltI (at0 l k) (at0 l ((i - 1) / 2)) = false) →
    Heap (down i n l) ∧ (down i n l).Perm l := by
  intro d
  induction d with
  | zero =>
    intro i l hd hl hi h1 h2
    have hk := kid_gt i n l
    rw [down_stop i n l (by omega)]
    exact ⟨fun k k0 kn => h1 k k0 (by omega) (by omega), List.Perm.refl _⟩
  | succ d ih =>
    intro i l hd hl hi h1 h2
    have hg := kid_gt i n l
    have hkc : (kid i n l = 2 * i + 2 ∧ 2 * i + 2 < n ∧ ltI (at0 l (2 * i + 2)) (at0 l (2 * i + 1)) = true) ∨ (kid i n l = 2 * i + 1 ∧ (2 * i + 2 < n → ltI (at0 l (2 * i + 2)) (at0 l (2 * i + 1)) = false)) := by
      unfold kid
      split
      · exact .inl ⟨rfl, by assumption⟩
      · rename_i hh
        exact .inr ⟨rfl, fun h => by simpa [h] using hh⟩
    -- the other child does not come out before the chosen one
    have hsib : ∀ k, 0 < k → k < n → (k - 1) / 2 = i → kid i n l < n ∧ ltI (at0 l k) (at0 l (kid i n l)) = false := by
      intro k k0 kn kp
      have : k = 2 * i + 1 ∨ k = 2 * i + 2 := by omega
      rcases hkc with ⟨e, e1, e2⟩ | ⟨e, e1⟩
      · rw [e]
        refine ⟨e1, ?_⟩
        rcases this with rfl | rfl
        · have := (ltI_iff _ _).1 e2
          rw [ltI_not]
          omega
        · rw [ltI_not]; omega
      · rw [e]
        refine ⟨by omega, ?_⟩
        rcases this with rfl | rfl
        · rw [ltI_not]; omega
        · exact e1 kn
    by_cases hc : kid i n l < n ∧ ltI (at0 l i) (at0 l (kid i n l)) = false
    · rw [down_step i n l hc]
      have hkp : (kid i n l - 1) / 2 = i := by rcases hkc with ⟨e, _⟩ | ⟨e, _⟩ <;> rw [e] <;> omega
      obtain ⟨q, hq⟩ : ∃ q, kid i n l = q := ⟨_, rfl⟩
      rw [hq] at hc hg hsib hkp ⊢
      have hil : i < l.length := by omega
      have hql : q < l.length := by omega
      have hs := fun j => at0_swp (j := j) hil hql
      have := ih q (swp l i q) (by omega) (by rw [swp_length]; exact hl) (.inl hc.1) (by
        intro k k0 kn kp
        rw [hs k, hs ((k - 1) / 2), if_neg kp]
        by_cases kp' : (k - 1) / 2 = i
        · rw [if_pos kp']
          by_cases kq : k = q
          · rw [if_pos kq]; exact hc.2
          · rw [if_neg kq, if_neg (by omega)]
            exact (hsib k k0 kn kp').2
        · rw [if_neg kp', if_neg (show ¬ k = q from fun e => kp' (by rw [e]; exact hkp))]
          by_cases ki : k = i
          · rw [if_pos ki]
            subst ki
            exact h2 k0 q (by omega) hc.1 hkp
          · rw [if_neg ki]
            exact h1 k k0 kn kp') (by
        intro q0 k k0 kn kp
        have hki : k ≠ i := by omega
        have hkq : k ≠ q := by omega
        rw [hs k, hs ((q - 1) / 2), if_neg hkq, if_neg hki, hkp, if_neg (by omega), if_pos rfl]
        have := h1 k k0 kn (by omega)
        rwa [kp] at this)
      exact ⟨this.1, this.2.trans (swp_perm hil hql)⟩
    · rw [down_stop i n l hc]
      refine ⟨fun k k0 kn => ?_, List.Perm.refl _⟩
      rw [hl] at kn
      by_cases kp : (k - 1) / 2 = i
      · obtain ⟨a, b⟩ := hsib k k0 kn kp
        have hlt : ltI (at0 l i) (at0 l (kid i n l)) = true := by simpa [a] using hc
        have q1 := (ltI_iff _ _).1 hlt
        have q2 := (ltI_not _ _).1 b
        rw [kp, ltI_not]
        omega
      · exact h1 k k0 kn kp
theorem heap_min {l : List (It α)} (h : Heap l) : ∀ k, k < l.length → ltI (at0 l k) (at0 l 0) = false := by
  intro k
  induction k using Nat.strongRecOn with
  | ind k ih =>
    intro hk
    by_cases k0 : k = 0
    · subst k0
      rw [ltI_not]; omega
    · have q1 := (ltI_not _ _).1 (h k (by omega) hk)
      have q2 := (ltI_not _ _).1 (ih ((k - 1) / 2) (by omega) (by omega))
      rw [ltI_not]
      omega
/-- what Take leaves -/
def rest (l : List (It α)) : List (It α) := down 0 (l.length - 1) ((l.set 0 (at0 l (l.length - 1))).take (l.length - 1))
theorem take_heap {l : List (It α)} (h : Heap l) (hl : 0 < l.length) : Heap (rest l) ∧ l.Perm (at0 l 0 :: rest l) ∧ ∀ x ∈ rest l, ltI x (at0 l 0) = false := by
  obtain ⟨m, hm⟩ : ∃ m, l.length = m + 1 := ⟨l.length - 1, by omega⟩
  unfold rest
  rw [hm, Nat.add_sub_cancel]
  have e : ∀ k, k < m → at0 ((l.set 0 (at0 l m)).take m) k = if k = 0 then at0 l m else at0 l k := by
    intro k hk
    rw [← at0_set (at0 l m) (show 0 < l.length from hl)]
    show (((l.set 0 (at0 l m)).take m)[k]?).getD (default, 0, 0) = ((l.set 0 (at0 l m))[k]?).getD (default, 0, 0)
    rw [List.getElem?_take, if_pos hk]
  have hlen : ((l.set 0 (at0 l m)).take m).length = m := by rw [List.length_take, List.length_set]; omega
  have := down_heap m m 0 ((l.set 0 (at0 l m)).take m) (by omega) hlen (.inr rfl) (by
    intro k k0 kn kp
    rw [e k kn, e _ (by omega), if_neg (by omega), if_neg kp]
    exact h k k0 (by omega)) (by omega)
  have hp : l.Perm (at0 l 0 :: (l.set 0 (at0 l m)).take m) := by
    cases l with
    | nil => simp at hl
    | cons a t =>
      rw [List.set_cons_zero]
      have ha : at0 (a :: t) 0 = a := rfl
      rw [ha]
      refine List.Perm.cons a ?_
      have ht : t.length = m := by simpa using hm
      cases m with
      | zero =>
        have : t = [] := List.eq_nil_of_length_eq_zero ht
        subst this
        simp
      | succ m =>
        rw [List.take_succ_cons]
        have hx : at0 (a :: t) (m + 1) = t[m] := by rw [at0_get (by simp; omega)]; rfl
        rw [hx]
        have : t = t.take m ++ [t[m]] := by
          rw [← List.take_succ_eq_append_getElem (by omega), List.take_of_length_le (by omega)]
        calc t = t.take m ++ [t[m]] := this
          List.Perm _ (t[m] :: t.take m) := List.perm_append_comm.trans (List.Perm.refl _)
  have hp2 : l.Perm (at0 l 0 :: down 0 m ((l.set 0 (at0 l m)).take m)) := hp.trans (List.Perm.cons _ this.2.symm)
  refine ⟨this.1, hp2, fun x hx => ?_⟩
  have hxl : x ∈ l := hp2.mem_iff.2 (List.mem_cons_of_mem _ hx)
  obtain ⟨k, hk, rfl⟩ := List.mem_iff_getElem.1 hxl
  rw [← at0_get hk]
  exact heap_min h k hk
end
end Go.Proofs.Ytlbicibihdkpnaa.P
namespace Go.Proofs.Ytlbicibihdkpnaa.P
open Go.RowKit Go.Proofs.YtlbicibihdkpnaaW.PrintWords Go.Proofs.YtlbicibihdkpnaaW.PrintLast Go.Proofs.YtlbicibihdkpnaaW.PrintMore
set_option linter.unusedVariables false
set_option linter.unusedSimpArgs false

theorem infoI3 : (Try.prog.info? 3).map (fun i => (i.zero, i.size, i.bytes)) = some (some (.int .i64 0), 1, 8) := by kernel_rfl
def fillQ (z : List Int) : Nat → List (It Int)
  | 0 => []
  | i + 1 => up (fillQ z i).length (fillQ z i ++ [((i : Int), rd z i, (i : Int))])
def drain : Nat → List (It Int) → List Int
  | 0, _ => []
  | k + 1, h => (at0 h 0).1 :: drain k (rest h)
def sortI (z : List Int) : List Int := drain z.length (fillQ z z.length)
def queue_Sort.f (l0 : List Int) : Option (List Int × Int) := if l0.length ≤ 4096 then some (sortI l0, 0) else none
/-- the items of a sort -/
structure Its (z : List Int) (n : Nat) (h : List (It Int)) : Prop where
  heap : Heap h
  pw : h.Pairwise (fun a b => a.2.2 ≠ b.2.2)
  mem : ∀ x ∈ h, x.2.2 = x.1 ∧ x.2.1 = rd z x.1 ∧ 0 ≤ x.1 ∧ x.1 < n
theorem fillQ_its (z : List Int) : ∀ i, Its z i (fillQ z i) ∧ (fillQ z i).length = i
  | 0 => ⟨⟨fun k _ hk => absurd hk (by simp [fillQ]), List.Pairwise.nil, fun x hx => absurd hx (by simp [fillQ])⟩, rfl⟩
  | i + 1 => by
    obtain ⟨H, hl⟩ := fillQ_its z i
    obtain ⟨q1, q2⟩ := put_heap H.heap ((i : Int), rd z i, (i : Int))
    refine ⟨⟨q1, (q2.pairwise_iff (fun h e => h e.symm)).2 (List.pairwise_cons.2 ⟨fun x hx => ?_, H.pw⟩), fun x hx => ?_⟩, ?_⟩
    · have := H.mem x hx
      show (i : Int) ≠ x.2.2
      omega
    · rcases List.mem_cons.1 (q2.mem_iff.1 hx) with rfl | hx
      · exact ⟨rfl, rfl, by show 0 ≤ (i : Int); omega, by show (i : Int) < ((i + 1 : Nat) : Int); omega⟩
      · have := H.mem x hx
        exact ⟨this.1, this.2.1, this.2.2.1, by omega⟩
    · show (up (fillQ z i).length (fillQ z i ++ [((i : Int), rd z i, (i : Int))])).length = i + 1
      rw [q2.length_eq, List.length_cons, hl]
theorem rest_length {h : List (It Int)} (H : Heap h) (hl : 0 < h.length) : (rest h).length + 1 = h.length := by
  rw [(take_heap H hl).2.1.length_eq, List.length_cons]
theorem Its.rest {z : List Int} {n : Nat} {h : List (It Int)} (H : Its z n h) (hl : 0 < h.length) : Its z n (rest h) := by
  obtain ⟨q1, q2, q3⟩ := take_heap H.heap hl
  exact ⟨q1, (List.pairwise_cons.1 ((q2.pairwise_iff (fun h e => h e.symm)).1 H.pw)).2, fun x hx => H.mem x (q2.mem_iff.2 (List.mem_cons_of_mem _ hx))⟩
/-- by the number, then by the place -/
def Ord (z : List Int) (a b : Int) : Prop := rd z a < rd z b ∨ (rd z a = rd z b ∧ a < b)
theorem drain_spec {z : List Int} {n : Nat} : ∀ (k : Nat) (h : List (It Int)), h.length = k → Its z n h → (drain k h).length = k ∧ (∀ y ∈ drain k h, ∃ x ∈ h, x.1 = y) ∧ (drain k h).Pairwise (Ord z)
  | 0, h, _, _ => ⟨rfl, fun y hy => absurd hy (by simp [drain]), List.Pairwise.nil⟩
  | k + 1, h, hl, H => by
    obtain ⟨q1, q2, q3⟩ := take_heap H.heap (by omega)
    have hr := rest_length H.heap (by omega)
    obtain ⟨d1, d2, d3⟩ := drain_spec k (P.rest h) (by omega) (H.rest (by omega))
    have hpw := List.pairwise_cons.1 ((q2.pairwise_iff (fun h e => h e.symm)).1 H.pw)
    have m0 := H.mem _ (q2.mem_iff.2 (List.mem_cons_self ..))
    refine ⟨by show (drain k (P.rest h)).length + 1 = k + 1; rw [d1], fun y hy => ?_, ?_⟩
    · rcases List.mem_cons.1 hy with rfl | hy
      · exact ⟨_, q2.mem_iff.2 (List.mem_cons_self ..), rfl⟩
      · obtain ⟨x, hx, e⟩ := d2 y hy
        exact ⟨x, q2.mem_iff.2 (List.mem_cons_of_mem _ hx), e⟩
    · refine List.pairwise_cons.2 ⟨fun y hy => ?_, d3⟩
      obtain ⟨x, hx, rfl⟩ := d2 y hy
      have m1 := H.mem x (q2.mem_iff.2 (List.mem_cons_of_mem _ hx))
      have h1 := (ltI_not _ _).1 (q3 x hx)
      have h2 := hpw.1 x hx
      unfold Ord
      rw [m0.2.1, m1.2.1, m0.1, m1.1] at h1
      rw [m0.1, m1.1] at h2
      omega
/-- What Sort gives: all places, by number and place. -/
theorem sortI_spec (z : List Int) : (sortI z).length = z.length ∧ (∀ y ∈ sortI z, 0 ≤ y ∧ y < z.length) ∧ (sortI z).Pairwise (Ord z) := by
  obtain ⟨H, hl⟩ := fillQ_its z z.length
  obtain ⟨d1, d2, d3⟩ := drain_spec z.length _ hl H
  refine ⟨d1, fun y hy => ?_, d3⟩
  obtain ⟨x, hx, rfl⟩ := d2 y hy
  exact (H.mem x hx).2.2
/-- a row of whole numbers, over a call that leaves all but the queue's rows alone -/
theorem keep3 {w w' : World} {base g : Nat} {v : Value} {xs : List Int} (h : Kd.R (Kd.int .i64) 3 w base (fun _ => True) v xs) {cs : Array Value} (hg : w.heap[g]? = some (.cells cs 80 (0, 0)))
    (hk : ∀ k cells t, w.heap[k]? = some (.cells cells t (0, 0)) → t ≠ 106 → k ≠ g → w'.heap[k]? = w.heap[k]?) : Kd.R (Kd.int .i64) 3 w' base (fun _ => True) v xs := by
  refine Kd.R_mono (Kd.R_step (Kd.R_types (Kd.R_bound h) hg (by decide)) (fun k hk' hlt => ?_)) (fun _ _ => trivial)
  obtain ⟨⟨_, _, _, q, hq, cells, hc⟩, hne⟩ := hk'
  have hq : q = 3 := by simpa [Kd.int, Kd.scalar] using hq
  subst hq
  exact hk k cells 3 hc (by decide) hne
theorem IsQ.grown {w0 W W1 : World} {g e : Nat} {l : List (It Int)} {n : Int} (h : IsQ w0 W g l n) {v : Value} {xs : List Int} {base : Nat} {ok : Nat → Prop} (hR : Kd.R (Kd.int .i64) e W base ok v xs) (h1 : e ≠ 80) (h2 : 106 ≠ e) (hg : W.grownBy W1 v.ownBlock) : IsQ w0 W1 g l n := by
  obtain ⟨u, b1, b2, b3⟩ := h
  exact ⟨u, blk_grown b1 hg (Kd.R_ne hR b1 h1), b2, Kd.R_mono (Kd.R_grown (Kd.R_apartR b3 hR (by intro q hq; have : q = 106 := (by simpa [itK, Kd.pair, Kd.int, Kd.scalar] using hq); rw [this]; exact h2)) hg (fun k hk => hk.2)) (fun _ _ => trivial)⟩
theorem IsQ.below' {w0 W W' : World} {g : Nat} {l : List (It Int)} {n : Int} (h : IsQ w0 W g l n) (hb : Below W.heap.size W W') : IsQ w0 W' g l n := by
  obtain ⟨v, h1, h2, h3⟩ := h
  exact ⟨v, (hb.block g (blk_lt h1)).trans h1, h2, Kd.R_below h3 hb⟩
theorem IsQ.new' (w : World) : IsQ w (w.alloc (.cells #[.slice none 0 0, .int .i64 0] 80)) w.heap.size [] 0 :=
  ⟨_, Array.getElem?_push_size, Nat.le_refl _, Kd.R_nil itK 106 _ _ _⟩
set_option maxHeartbeats 4000000 in
set_option maxRecDepth 100000 in
theorem queue_Sort.calls (A0 : Option Addr) (c0 : Nat) (l0 : List Int) (r1 : List Int) (r2 : Int) (w : World) (hr0 : Kd.C (Kd.int .i64) w A0 l0.length l0) (hc0 : l0.length ≤ c0) (h : queue_Sort.f l0 = some (r1, r2)) :
    Calls Try.prog 9 #[.slice A0 l0.length c0] w fun e w' => ∃ v0_ : Value, e = .returned (.tuple #[v0_, .int .i64 r2]) ∧ Kd.R (Kd.int .i64) 3 w' w.heap.size (fun _ => True) v0_ r1 ∧ Below w.heap.size w w' := by
  unfold queue_Sort.f at h
  split at h
  case isFalse => cases h
  rename_i hl
  simp only [Option.some.injEq, Prod.mk.injEq] at h
  obtain ⟨rfl, rfl⟩ := h
  have HR0 := Aside0.mk hr0
  have f0 : decide ((4096 : Int) < (l0.length : Int)) = false := decide_eq_false (by omega)
  clear hr0 hc0
  go_enter Try.func9, Try.ntmps9
  go_wp2_with (fail)
  have HN := Aside0.mk (IsQ.new' w)
  have BN := Aside0.mk (below_alloc (Below.refl w.heap.size w) (.cells #[.slice none 0 0, .int .i64 0] 80))
  obtain ⟨w3, hw3⟩ : ∃ W, w.alloc (.cells #[.slice none 0 0, .int .i64 0] 80) = W := ⟨_, rfl⟩
  rw [hw3] at HN BN
  simp only [hw3]
  obtain ⟨g, hg⟩ : ∃ g, w.heap.size = g := ⟨_, rfl⟩
  rw [hg] at HN
  simp only [hg]
  clear hw3 hg f0
  go_loopg [16] l0.length (fun kq v16 w' => ∃ (i : Nat), v16 = .int .i64 (i : Int) ∧ Aside0 (kq = l0.length - i ∧ i ≤ l0.length) ∧ Aside0 (IsQ w w' g (fillQ l0 i) i ∧ Below w.heap.size w w'))
  case atStart => exact ⟨0, rfl, ⟨rfl, by omega⟩, ⟨HN.out, BN.out⟩⟩
  case round =>
    obtain ⟨i, rfl, HI, HS⟩ := hrel
    have hi1 := HI.out.2
    by_cases hi : i < l0.length
    · have c2 : (i : Int) < (l0.length : Int) := by omega
      have c3 : (0 : Int) ≤ (i : Int) := by omega
      obtain ⟨ad, rfl, hx⟩ := Kd.at_int HR0.out (i : Int) c3 c2
      replace hx := (HS.out.2.cell (World.block_lt_of_cell? w _ hx)).trans hx
      rw [Int.toNat_natCast] at hx
      have e1 : IntKind.i64.wrap ((i : Int) + 1) = (i : Int) + 1 := by rw [IntKind.wrap_i64]; omega
      go_wp2_with (fail)
      refine (Q_put wr w g (fillQ l0 i) i _ i HS.out.1 HS.out.2 (by rw [(fillQ_its l0 i).2]; omega) (by omega)).mono ?_
      rintro e w5 ⟨rfl, Q5, B5⟩
      have Q5 := Aside0.mk Q5
      have B5 := Aside0.mk B5
      clear hx
      go_wp2_with (fail)
      go_roundg (l0.length - (i + 1))
      case measure => have := HI.out.1; omega
      case rel => exact ⟨i + 1, congrArg (Value.int .i64) (by omega), ⟨rfl, by omega⟩, ⟨by have := Q5.out; rwa [show ((i : Int) + 1) = ((i + 1 : Nat) : Int) from by omega] at this, B5.out⟩⟩
    · obtain rfl : i = l0.length := by omega
      have c3 : decide ((l0.length : Int) < (l0.length : Int)) = false := decide_eq_false (by omega)
      go_wp2_with (fail)
      obtain ⟨FI, fl⟩ := fillQ_its l0 l0.length
      go_loopg [7] l0.length (fun kq v7 w' => ∃ (vo : Value) (out : List Int) (h : List (It Int)), v7 = vo ∧ Aside0 (kq = h.length ∧ out ++ drain h.length h = sortI l0 ∧ out.length + h.length ≤ 4096 ∧ Its l0 l0.length h) ∧ Aside0 (Kd.R (Kd.int .i64) 3 w' w.heap.size (fun _ => True) vo out ∧ IsQ w w' g h l0.length ∧ Below w.heap.size w w'))
      case atStart => exact ⟨_, [], fillQ l0 l0.length, rfl, ⟨by rw [fl], by rw [List.nil_append, fl]; rfl, by rw [fl]; simpa using hl, FI⟩, ⟨Kd.R_nil _ _ _ _ _, HS.out⟩⟩
      case round =>
        clear FI fl c3
        obtain ⟨vo, out, h, rfl, HH, HO⟩ := hrel
        go_wp2_with (fail)
        refine (Q_len wr w g h _ HO.out.2.1).mono ?_
        rintro e w4 ⟨rfl, rfl⟩
        by_cases hl0 : h.length = 0
        · obtain rfl := List.eq_nil_of_length_eq_zero hl0
          rw [show (([] : List (It Int)).length : Int) = 0 from rfl]
          go_wp2
          go_ret2
          refine ⟨_, rfl, ?_, HO.out.2.2⟩
          have := HH.out.2.1
          rw [show drain ([] : List (It Int)).length [] = [] from rfl, List.append_nil] at this
          rw [← this]
          exact HO.out.1
        · have hl1 : 0 < h.length := by omega
          have c5 : (0 : Int) < (h.length : Int) := by omega
          obtain ⟨m, hm⟩ : ∃ m, h.length = m + 1 := ⟨h.length - 1, by omega⟩
          go_wp2_with (fail)
          refine (Q_takeK wr w g h _ m HO.out.2.1 HO.out.2.2 hm (by have := HH.out.2.2.1; omega)).mono ?_
          rintro e w6 ⟨rfl, Q6, B6, K6⟩
          rw [show down 0 m ((h.set 0 (at0 h m)).take m) = rest h from by unfold rest; rw [hm, Nat.add_sub_cancel]] at Q6
          have O6 := Aside0.mk (keep3 HO.out.1 (show ∃ cs, wr.heap[g]? = some (.cells cs 80 (0, 0)) from ⟨_, HO.out.2.1.choose_spec.1⟩).choose_spec K6)
          have Q6 := Aside0.mk Q6
          have B6 := Aside0.mk B6
          have HL6 := Aside0.mk (show out.length < 4096 from by have := HH.out.2.2.1; omega)
          have HD6 := Aside0.mk (show (out ++ [(at0 h 0).1]) ++ drain (rest h).length (rest h) = sortI l0 from by
            rw [← HH.out.2.1, List.append_assoc, show h.length = (rest h).length + 1 from (rest_length HH.out.2.2.2.heap hl1).symm]
            rfl)
          obtain ⟨p1, hp1⟩ : ∃ x, (at0 h 0).1 = x := ⟨_, rfl⟩
          rw [hp1] at HD6 ⊢
          obtain ⟨p2, hp2⟩ : ∃ x, (at0 h 0).2.1 = x := ⟨_, rfl⟩
          rw [hp2]
          clear K6 hp1 hp2
          go_wp2_with (((with_reducible refine gate_builtin (b := .append) (xs := #[.tmp 32, .tmp 34]) rfl ?_); at_builtin; refine Kd.R_append (Kd.int .i64) (w0 := w) w.heap.size rfl (.tmp 32) (.tmp 34) 22 3 (.int .i64 0) 8 rfl Try.underlying22 infoI3 rfl (by decide) (by omega) u7 out p1 [.int .i64 p1] (fun _ => True) (fun _ => False) rfl rfl ?aP (fun _ hk => hk.elim) ?aF ?aO ?aB ?aS ?aL ?_; (case aP => exact rfl); (case aF => exact (fun _ _ => trivial)); (case aO => exact O6.out); (case aB => exact B6.out); (case aS => exact below_size B6.out); (case aL => have := HL6.out; omega); intro v8 w7 ho hb hg hat; have o1 := Aside0.mk ho; have q1 := Aside0.mk (Q6.out.grown O6.out (by decide) (by decide) hg); have b1 := Aside0.mk hb; clear ho hb hg hat))
          go_roundg (rest h).length
          case measure => have := HH.out.1; have := rest_length HH.out.2.2.2.heap hl1; omega
          case rel =>
            exact ⟨_, out ++ [p1], rest h, rfl, ⟨rfl, HD6.out, by have := rest_length HH.out.2.2.2.heap hl1; have := HH.out.2.2.1; rw [List.length_append]; simp; omega, HH.out.2.2.2.rest hl1⟩, ⟨o1.out, q1.out, b1.out⟩⟩
end Go.Proofs.Ytlbicibihdkpnaa.P
namespace Go.Proofs.Ytlbicibihdkpnaa.P
open Go.RowKit Go.Proofs.YtlbicibihdkpnaaW.PrintWords Go.Proofs.YtlbicibihdkpnaaW.PrintLast Go.Proofs.YtlbicibihdkpnaaW.PrintMore
set_option linter.unusedVariables false
set_option linter.unusedSimpArgs false

theorem fillQ_all (z : List Int) : ∀ (i j : Nat), j < i → ∃ x ∈ fillQ z i, x.1 = (j : Int)
  | 0, j, h => absurd h (Nat.not_lt_zero _)
  | i + 1, j, h => by
    obtain ⟨H, hl⟩ := fillQ_its z i
    obtain ⟨q1, q2⟩ := put_heap H.heap ((i : Int), rd z i, (i : Int))
    by_cases hj : j < i
    · obtain ⟨x, hx, e⟩ := fillQ_all z i j hj
      exact ⟨x, q2.mem_iff.2 (List.mem_cons_of_mem _ hx), e⟩
    · exact ⟨_, q2.mem_iff.2 (List.mem_cons_self ..), by show (i : Int) = j; omega⟩
theorem drain_all {z : List Int} {n : Nat} : ∀ (k : Nat) (h : List (It Int)), h.length = k → Its z n h → ∀ x ∈ h, x.1 ∈ drain k h
  | 0, h, hl, _, x, hx => by rw [List.eq_nil_of_length_eq_zero hl] at hx; cases hx
  | k + 1, h, hl, H, x, hx => by
    obtain ⟨q1, q2, q3⟩ := take_heap H.heap (by omega)
    have hr := rest_length H.heap (by omega)
    rcases List.mem_cons.1 (q2.mem_iff.1 hx) with rfl | hx
    · exact List.mem_cons_self ..
    · exact List.mem_cons_of_mem _ (drain_all k (P.rest h) (by omega) (H.rest (by omega)) x hx)
theorem sortI_all (z : List Int) (j : Nat) (h : j < z.length) : (j : Int) ∈ sortI z := by
  obtain ⟨H, hl⟩ := fillQ_its z z.length
  obtain ⟨x, hx, e⟩ := fillQ_all z z.length j h
  exact e ▸ drain_all z.length _ hl H x hx
theorem Ord.irrefl {z : List Int} {a : Int} (h : Ord z a a) : False := by unfold Ord at h; omega
theorem Ord.asymm {z : List Int} {a b : Int} (h : Ord z a b) (h' : Ord z b a) : False := by unfold Ord at h h'; omega
theorem rd_eq (l : List Int) (i : Nat) (h : i < l.length) : rd l (i : Int) = l[i] := by
  unfold rd
  rw [Int.toNat_natCast, List.getD_eq_getElem?_getD, List.getElem?_eq_getElem h]
  rfl
/-- The place that comes next: the least of those that are left. -/
theorem ord_next (z : List Int) (k : Nat) (hk : k < z.length) :
    0 ≤ rd (sortI z) k ∧ rd (sortI z) k < z.length ∧ rd (sortI z) k ∉ (sortI z).take k ∧ ∀ j : Nat, j < z.length → (j : Int) ∉ (sortI z).take k → (j : Int) = rd (sortI z) k ∨ Ord z (rd (sortI z) k) j := by
  obtain ⟨h1, h2, h3⟩ := sortI_spec z
  have hk' : k < (sortI z).length := by omega
  rw [rd_eq _ k hk']
  have hm := h2 _ (List.getElem_mem hk')
  refine ⟨hm.1, hm.2, fun hin => ?_, fun j hj hnot => ?_⟩
  · obtain ⟨i, hi, e⟩ := List.getElem_of_mem hin
    have hi' : i < k := by rw [List.length_take] at hi; omega
    rw [List.getElem_take] at e
    have := List.pairwise_iff_getElem.1 h3 i k (by omega) hk' hi'
    rw [e] at this
    exact this.irrefl
  · obtain ⟨i, hi, e⟩ := List.getElem_of_mem (sortI_all z j hj)
    rcases Nat.lt_trichotomy i k with h | h | h
    · exact absurd (e ▸ List.mem_take_iff_getElem.2 ⟨i, by omega, rfl⟩) hnot
    · subst h; exact Or.inl e.symm
    · exact Or.inr (e ▸ List.pairwise_iff_getElem.1 h3 k i hk' hi h)
/-- what a queue of entities holds: the places that are not done -/
structure Qs (ent : Nat → Int × Int) (z : List Int) (D : Int → Prop) (n : Nat) (h : List (It (Int × Int))) : Prop where
  heap : Heap h
  pw : h.Pairwise (fun a b => a.2.2 ≠ b.2.2)
  mem : ∀ x ∈ h, x.1 = ent x.2.2.toNat ∧ x.2.1 = rd z x.2.2 ∧ 0 ≤ x.2.2 ∧ x.2.2 < n ∧ ¬ D x.2.2
  all : ∀ j : Nat, j < n → ¬ D j → ∃ x ∈ h, x.2.2 = j
def fillE (ent : Nat → Int × Int) (z : List Int) : Nat → List (It (Int × Int))
  | 0 => []
  | i + 1 => up (fillE ent z i).length (fillE ent z i ++ [(ent i, rd z i, (i : Int))])
theorem fillE_qs (ent : Nat → Int × Int) (z : List Int) : ∀ i, Qs ent z (fun _ => False) i (fillE ent z i) ∧ (fillE ent z i).length = i
  | 0 => ⟨⟨fun k _ hk => absurd hk (by simp [fillE]), List.Pairwise.nil, fun x hx => absurd hx (by simp [fillE]), fun j hj => absurd hj (Nat.not_lt_zero _)⟩, rfl⟩
  | i + 1 => by
    obtain ⟨H, hl⟩ := fillE_qs ent z i
    obtain ⟨q1, q2⟩ := put_heap H.heap (ent i, rd z i, (i : Int))
    refine ⟨⟨q1, (q2.pairwise_iff (fun h e => h e.symm)).2 (List.pairwise_cons.2 ⟨fun x hx => ?_, H.pw⟩), fun x hx => ?_, fun j hj _ => ?_⟩, ?_⟩
    · have := (H.mem x hx).2.2.2.1
      show (i : Int) ≠ x.2.2
      omega
    · rcases List.mem_cons.1 (q2.mem_iff.1 hx) with rfl | hx
      · exact ⟨by show ent i = ent (i : Int).toNat; rw [Int.toNat_natCast], rfl, by show 0 ≤ (i : Int); omega, by show (i : Int) < ((i + 1 : Nat) : Int); omega, fun h => h⟩
      · have := H.mem x hx
        exact ⟨this.1, this.2.1, this.2.2.1, by omega, fun h => h⟩
    · by_cases h : j < i
      · obtain ⟨x, hx, e⟩ := H.all j h (fun h => h)
        exact ⟨x, q2.mem_iff.2 (List.mem_cons_of_mem _ hx), e⟩
      · exact ⟨_, q2.mem_iff.2 (List.mem_cons_self ..), by show (i : Int) = j; omega⟩
    · show (up (fillE ent z i).length (fillE ent z i ++ [(ent i, rd z i, (i : Int))])).length = i + 1
      rw [q2.length_eq, List.length_cons, hl]
/-- The first of the queue is the place that comes next. -/
theorem Qs.next {ent : Nat → Int × Int} {z : List Int} {k : Nat} {h : List (It (Int × Int))} (H : Qs ent z (· ∈ (sortI z).take k) z.length h) (hk : k < z.length) (hl : 0 < h.length) :
    (at0 h 0).2.2 = rd (sortI z) k ∧ (at0 h 0).2.1 = rd z (rd (sortI z) k) ∧ (at0 h 0).1 = ent (rd (sortI z) k).toNat ∧ Qs ent z (· ∈ (sortI z).take (k + 1)) z.length (rest h) ∧ (rest h).length + 1 = h.length := by
  obtain ⟨o1, o2, o3, o4⟩ := ord_next z k hk
  obtain ⟨q1, q2, q3⟩ := take_heap H.heap hl
  have hx0 : at0 h 0 ∈ h := q2.mem_iff.2 (List.mem_cons_self ..)
  have m0 := H.mem _ hx0
  have hm : ((rd (sortI z) k).toNat : Int) = rd (sortI z) k := by omega
  obtain ⟨xm, hxm, em⟩ := H.all (rd (sortI z) k).toNat (by omega) (by rw [hm]; exact o3)
  rw [hm] at em
  have e : (at0 h 0).2.2 = rd (sortI z) k := by
    rcases o4 (at0 h 0).2.2.toNat (by omega) (by rw [show ((at0 h 0).2.2.toNat : Int) = (at0 h 0).2.2 by omega]; exact m0.2.2.2.2) with e | e
    · omega
    · exfalso
      rw [show ((at0 h 0).2.2.toNat : Int) = (at0 h 0).2.2 by omega] at e
      have mm := H.mem _ hxm
      rcases List.mem_cons.1 (q2.mem_iff.1 hxm) with e2 | hr
      · rw [← e2, em] at e; exact e.irrefl
      · have h3 := (ltI_not _ _).1 (q3 xm hr)
        rw [mm.2.1, m0.2.1, em] at h3
        unfold Ord at e
        omega
  have hpw := List.pairwise_cons.1 ((q2.pairwise_iff (fun h e => h e.symm)).1 H.pw)
  have ht : (sortI z).take (k + 1) = (sortI z).take k ++ [rd (sortI z) k] := by
    have hk' : k < (sortI z).length := by rw [(sortI_spec z).1]; exact hk
    rw [rd_eq _ k hk', List.take_succ_eq_append_getElem hk']
  refine ⟨e, by rw [m0.2.1, e], by rw [m0.1, e], ⟨q1, hpw.2, fun x hx => ?_, fun j hj hnot => ?_⟩, by rw [q2.length_eq, List.length_cons]⟩
  · have m1 := H.mem x (q2.mem_iff.2 (List.mem_cons_of_mem _ hx))
    refine ⟨m1.1, m1.2.1, m1.2.2.1, m1.2.2.2.1, fun hin => ?_⟩
    rw [ht] at hin
    rcases List.mem_append.1 hin with hin | hin
    · exact m1.2.2.2.2 hin
    · rw [List.mem_singleton] at hin
      exact hpw.1 x hx (e.trans hin.symm)
  · rw [ht] at hnot
    obtain ⟨x, hx, e2⟩ := H.all j hj (fun hin => hnot (List.mem_append_left _ hin))
    rcases List.mem_cons.1 (q2.mem_iff.1 hx) with rfl | hx
    · exact absurd (List.mem_append_right _ (List.mem_singleton.2 (e2.symm.trans e))) hnot
    · exact ⟨x, hx, e2⟩
/-- picking the least of those not done -/
def leastI (dn : List Bool) (z : List Int) : Nat → Int
  | 0 => -1
  | j + 1 => if rdOf false dn j = false ∧ (leastI dn z j < 0 ∨ rd z j < rd z (leastI dn z j)) then j else leastI dn z j
theorem leastI_spec (dn : List Bool) (z : List Int) : ∀ j : Nat, (leastI dn z j = -1 ∧ ∀ n : Nat, n < j → rdOf false dn n = true) ∨ ∃ l : Nat, l < j ∧ leastI dn z j = l ∧ rdOf false dn l = false ∧ ∀ n : Nat, n < j → rdOf false dn n = false → n = l ∨ Ord z l n
  | 0 => Or.inl ⟨rfl, fun n h => absurd h (Nat.not_lt_zero _)⟩
  | j + 1 => by
    have hd : leastI dn z (j + 1) = if rdOf false dn j = false ∧ (leastI dn z j < 0 ∨ rd z j < rd z (leastI dn z j)) then (j : Int) else leastI dn z j := rfl
    rcases leastI_spec dn z j with ⟨e, h⟩ | ⟨l, hl, e, hdl, h⟩
    · by_cases hj : rdOf false dn j = false
      · rw [if_pos ⟨hj, Or.inl (by omega)⟩] at hd
        refine Or.inr ⟨j, by omega, hd, hj, fun n hn hdn => ?_⟩
        by_cases hnj : n = j
        · exact Or.inl hnj
        · have := h n (by omega); rw [this] at hdn; cases hdn
      · rw [if_neg (fun h => hj h.1)] at hd
        refine Or.inl ⟨hd.trans e, fun n hn => ?_⟩
        by_cases hnj : n = j
        · subst hnj; simpa using hj
        · exact h n (by omega)
    · by_cases hc : rdOf false dn j = false ∧ rd z j < rd z l
      · rw [if_pos ⟨hc.1, Or.inr (by rw [e]; exact hc.2)⟩] at hd
        refine Or.inr ⟨j, by omega, hd, hc.1, fun n hn hdn => ?_⟩
        by_cases hnj : n = j
        · exact Or.inl hnj
        · refine Or.inr ?_
          rcases h n (by omega) hdn with rfl | h2
          · exact Or.inl hc.2
          · unfold Ord at h2 ⊢; omega
      · rw [if_neg (fun h => hc ⟨h.1, by rw [e] at h; omega⟩)] at hd
        refine Or.inr ⟨l, by omega, hd.trans e, hdl, fun n hn hdn => ?_⟩
        by_cases hnj : n = j
        · subst hnj
          refine Or.inr ?_
          have : ¬ rd z n < rd z l := fun h => hc ⟨hdn, h⟩
          unfold Ord; omega
        · exact h n (by omega) hdn
/-- what is done: the first places of the order -/
def Dn (z : List Int) (k : Nat) (dn : List Bool) : Prop := dn.length = z.length ∧ ∀ j : Nat, j < z.length → (rdOf false dn j = true ↔ (j : Int) ∈ (sortI z).take k)
theorem Dn.least {z : List Int} {k : Nat} {dn : List Bool} (h : Dn z k dn) (hk : k < z.length) : leastI dn z z.length = rd (sortI z) k := by
  obtain ⟨o1, o2, o3, o4⟩ := ord_next z k hk
  have hm : ((rd (sortI z) k).toNat : Int) = rd (sortI z) k := by omega
  have hnd : rdOf false dn ((rd (sortI z) k).toNat : Int) = false := by
    cases hb : rdOf false dn ((rd (sortI z) k).toNat : Int)
    · rfl
    · exact absurd ((h.2 _ (by omega)).1 hb) (by rw [hm]; exact o3)
  rcases leastI_spec dn z z.length with ⟨_, h2⟩ | ⟨l, hl, e, hdl, h2⟩
  · have := h2 (rd (sortI z) k).toNat (by omega); rw [this] at hnd; cases hnd
  · rcases h2 (rd (sortI z) k).toNat (by omega) hnd with e2 | e2
    · rw [e]; omega
    · have hlm : (l : Int) ∉ (sortI z).take k := fun hin => by have := (h.2 l hl).2 hin; rw [this] at hdl; cases hdl
      rw [hm] at e2
      rcases o4 l hl hlm with e3 | e3
      · rw [e, e3]
      · exact absurd e2 (fun h => h.asymm e3)
theorem Dn.step {z : List Int} {k : Nat} {dn : List Bool} (h : Dn z k dn) (hk : k < z.length) : Dn z (k + 1) (dn.set (rd (sortI z) k).toNat true) := by
  obtain ⟨o1, o2, o3, o4⟩ := ord_next z k hk
  have hk' : k < (sortI z).length := by rw [(sortI_spec z).1]; exact hk
  refine ⟨by rw [List.length_set]; exact h.1, fun j hj => ?_⟩
  rw [List.take_succ_eq_append_getElem hk', ← rd_eq _ k hk', List.mem_append, List.mem_singleton, ← h.2 j hj]
  unfold rdOf
  simp only [Int.toNat_natCast, List.getD_eq_getElem?_getD, List.getElem?_set]
  by_cases e : (rd (sortI z) k).toNat = j
  · rw [if_pos e, if_pos (by rw [h.1]; omega)]
    exact ⟨fun _ => Or.inr (by omega), fun _ => rfl⟩
  · rw [if_neg e]
    exact ⟨fun h => Or.inl h, fun h => h.elim id (fun h => absurd (by omega) e)⟩
theorem Dn.zero (z : List Int) : Dn z 0 (List.replicate z.length false) := by
  refine ⟨List.length_replicate .., fun j hj => ?_⟩
  unfold rdOf
  simp [List.getD_eq_getElem?_getD, List.getElem?_replicate, hj]
end Go.Proofs.Ytlbicibihdkpnaa.P
