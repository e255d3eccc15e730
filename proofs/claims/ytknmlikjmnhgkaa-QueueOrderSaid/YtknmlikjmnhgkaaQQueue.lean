/- Package queue: before, Len; how a queue lies in memory. No condition. -/
import Derived.BigRegion
import Derived.Deep.RegionHeld3
import Derived.Deep.QuietTactic
import Derived.BigQuiet
import Derived.Test.YtknmlikjmnhgkaaQHeap
namespace Go.Proofs.Ytknmlikjmnhgkaa.P
open Go.RowKit Go.Proofs.YtknmlikjmnhgkaaW.PrintWords Go.Proofs.YtknmlikjmnhgkaaW.PrintLast Go.Proofs.YtknmlikjmnhgkaaW.PrintMore
set_option linter.unusedVariables false
set_option linter.unusedSimpArgs false

theorem lt_cell {w : World} {b off : Nat} {v : Value} (h : w.cell? ⟨b, off, none⟩ = some v) : b < w.heap.size := by
  apply Classical.byContradiction
  intro hn
  unfold World.cell? at h
  rw [Array.getElem?_eq_none (by show w.heap.size ≤ b; omega)] at h
  simp at h
set_option maxHeartbeats 4000000 in
set_option maxRecDepth 100000 in
theorem queue_before.calls (g gb n cap : Nat) (i k : Nat) (vi vk : Int) (ri ci rk ck : Int) (w : World)
    (hq : w.cell? ⟨g, 0, none⟩ = some (.slice (some ⟨gb, 0, none⟩) n cap)) (hi : i < n) (hk : k < n)
    (i0 : w.cell? ⟨gb, i * 3, none⟩ = some (.int .i64 vi)) (i1 : w.cell? ⟨gb, i * 3 + 1, none⟩ = some (.int .i64 ri)) (i2 : w.cell? ⟨gb, i * 3 + 2, none⟩ = some (.int .i64 ci))
    (k0 : w.cell? ⟨gb, k * 3, none⟩ = some (.int .i64 vk)) (k1 : w.cell? ⟨gb, k * 3 + 1, none⟩ = some (.int .i64 rk)) (k2 : w.cell? ⟨gb, k * 3 + 2, none⟩ = some (.int .i64 ck)) (r : Bool) (h : (if ri = rk then decide (ci < ck) else decide (ri < rk)) = r) :
    Calls Try.prog 51 #[.pointer (some ⟨g, 0, none⟩), .int .i64 i, .int .i64 k] w fun e w' => e = .returned (.bool r) ∧ Below w.heap.size w w' := by
  have f0 : (0 : Int) ≤ (i : Int) := by omega
  have f1 : (i : Int) < (n : Int) := by omega
  have f2 : (0 : Int) ≤ (k : Int) := by omega
  have f3 : (k : Int) < (n : Int) := by omega
  go_enter Try.func51, Try.ntmps51
  go_wp2
  have hgl : g < w.heap.size := lt_cell hq
  have hbl : gb < w.heap.size := lt_cell i0
  have HK := Aside0.mk (show ∀ w', Below w.heap.size w w' → w'.cell? ⟨g, 0, none⟩ = some (.slice (some ⟨gb, 0, none⟩) n cap) ∧ w'.cell? ⟨gb, i * 3, none⟩ = some (.int .i64 vi) ∧ w'.cell? ⟨gb, i * 3 + 1, none⟩ = some (.int .i64 ri) ∧ w'.cell? ⟨gb, i * 3 + 2, none⟩ = some (.int .i64 ci) ∧ w'.cell? ⟨gb, k * 3, none⟩ = some (.int .i64 vk) ∧ w'.cell? ⟨gb, k * 3 + 1, none⟩ = some (.int .i64 rk) ∧ w'.cell? ⟨gb, k * 3 + 2, none⟩ = some (.int .i64 ck) from fun w' hb => ⟨(hb.cell (p := ⟨g, 0, none⟩) hgl).trans hq, (hb.cell (p := ⟨gb, i * 3, none⟩) hbl).trans i0, (hb.cell (p := ⟨gb, i * 3 + 1, none⟩) hbl).trans i1, (hb.cell (p := ⟨gb, i * 3 + 2, none⟩) hbl).trans i2, (hb.cell (p := ⟨gb, k * 3, none⟩) hbl).trans k0, (hb.cell (p := ⟨gb, k * 3 + 1, none⟩) hbl).trans k1, (hb.cell (p := ⟨gb, k * 3 + 2, none⟩) hbl).trans k2⟩)
  have B0 := Below.refl w.heap.size w
  go_region_held3 (fun w' => w'.cell? ⟨g, 0, none⟩ = some (.slice (some ⟨gb, 0, none⟩) n cap) ∧ w'.cell? ⟨gb, i * 3, none⟩ = some (.int .i64 vi) ∧ w'.cell? ⟨gb, i * 3 + 1, none⟩ = some (.int .i64 ri) ∧ w'.cell? ⟨gb, i * 3 + 2, none⟩ = some (.int .i64 ci) ∧ w'.cell? ⟨gb, k * 3, none⟩ = some (.int .i64 vk) ∧ w'.cell? ⟨gb, k * 3 + 1, none⟩ = some (.int .i64 rk) ∧ w'.cell? ⟨gb, k * 3 + 2, none⟩ = some (.int .i64 ck))
    (exact HK.out _ (by with_reducible repeat (first | assumption | apply pw_below_drewN | apply below_drew1 | apply below_alloc)))
    (fail)
  all_goals
    clear HK hq hi hk i0 i1 i2 k0 k1 k2 f0 f1 f2 f3
    by_cases hr : ri = rk
    · have d1 : (ri != rk) = false := by simp [hr]
      rw [if_pos hr] at h
      subst hr h
      go_wp2
      go_ret
      exact ⟨rfl, (below_drew ((B0.alloc (Nat.le_refl _) _).alloc (by rw [World.size_alloc]; exact Nat.le_succ _) _))⟩
    · have d1 : (ri != rk) = true := by simpa using hr
      rw [if_neg hr] at h
      subst h
      go_wp2
      go_ret
      exact ⟨rfl, (below_drew ((B0.alloc (Nat.le_refl _) _).alloc (by rw [World.size_alloc]; exact Nat.le_succ _) _))⟩

theorem results_tmp3 {fn : Func} {t u s : Tmp} (h : fn.results = #[.tmp t, .tmp u, .tmp s]) (tmps : Array Value) (P : Program) (w : World) :
    (results fn tmps).run P w = .ok (.tuple #[tmps.getD t undef, tmps.getD u undef, tmps.getD s undef]) w := by
  simp [results, h, go_sem]
/-- an item: its value, its number, when it came -/
def itK : Kd (It Int) := Kd.pair (Kd.int .i64) (Kd.pair (Kd.int .i64) (Kd.int .i64))
theorem infoIt : (Try.prog.info? 84).map (fun i => (i.zero, i.size, i.bytes)) = some (some (.agg #[.int .i64 0, .int .i64 0, .int .i64 0]), 3, 24) := by kernel_rfl
/-- A queue at block g: its items are l, n items have come. -/
def IsQ (w0 W : World) (g : Nat) (l : List (It Int)) (n : Int) : Prop :=
  ∃ v, W.heap[g]? = some (.cells #[v, .int .i64 n] 27 (0, 0)) ∧ w0.heap.size ≤ g ∧ Kd.R itK 84 W w0.heap.size (fun _ => True) v l
theorem itK_M {w : World} {base : Nat} {ok : Nat → Prop} {x : It Int} {cs : List Value} : itK.M w base ok x cs ↔ cs = [.int .i64 x.1, .int .i64 x.2.1, .int .i64 x.2.2] := by
  constructor
  · rintro ⟨c0, c1, rfl, h0, c2, c3, rfl, h1, h2⟩
    have h0 : c0 = _ := h0
    have h1 : c2 = _ := h1
    have h2 : c3 = _ := h2
    subst h0 h1 h2
    rfl
  · rintro rfl
    exact ⟨[_], [_, _], rfl, rfl, [_], [_], rfl, rfl, rfl⟩
theorem Q_len (w : World) (w0 : World) (g : Nat) (l : List (It Int)) (n : Int) (h : IsQ w0 w g l n) : Calls Try.prog 15 #[.pointer (some ⟨g, 0, none⟩)] w fun e w' => e = .returned (.int .i64 l.length) ∧ w = w' := by
  obtain ⟨v, hb, _, hR⟩ := h
  obtain ⟨A, c, rfl⟩ := Kd.R_slice hR
  have h0 : w.cell? ⟨g, 0, none⟩ = some (.slice A l.length c) := by simp [World.cell?, hb]
  clear hR hb
  go_enter Try.func15, Try.ntmps15
  go_wp2
  go_ret
  exact ⟨rfl, rfl⟩
theorem IsQ.cells {w0 w : World} {g : Nat} {l : List (It Int)} {n : Int} (h : IsQ w0 w g l n) (hl : 0 < l.length) : ∃ gb cap, w.heap[g]? = some (.cells #[.slice (some ⟨gb, 0, none⟩) l.length cap, .int .i64 n] 27 (0, 0)) ∧ l.length ≤ cap ∧ w0.heap.size ≤ gb ∧ gb ≠ g ∧
    Kd.R itK 84 w w0.heap.size (fun _ => True) (.slice (some ⟨gb, 0, none⟩) l.length cap) l ∧
    ∀ i, i < l.length → w.cell? ⟨gb, i * 3, none⟩ = some (.int .i64 (l.getD i (default, 0, 0)).1) ∧ w.cell? ⟨gb, i * 3 + 1, none⟩ = some (.int .i64 (l.getD i (default, 0, 0)).2.1) ∧ w.cell? ⟨gb, i * 3 + 2, none⟩ = some (.int .i64 (l.getD i (default, 0, 0)).2.2) := by
  obtain ⟨v, hb, hg, hR⟩ := h
  obtain ⟨gb, cap, rfl, h1, h2, cells, h3⟩ := Kd.R_form hR hl
  refine ⟨gb, cap, hb, (Kd.R_reads' hR).2.1, h1, ?_, hR, fun i hi => ?_⟩
  · rintro rfl
    rw [hb] at h3
    injection h3 with h3
    injection h3 with _ h3
    cases h3
  · obtain ⟨c, hc, hM, hcell, _⟩ := Kd.R_elem hR (default, 0, 0) (i : Int) (by omega) (by omega)
    rw [itK_M] at hM
    subst hM
    exact ⟨hcell 0 _ rfl, hcell 1 _ rfl, hcell 2 _ rfl⟩
/-- item i is written, a cell at a time -/
theorem Q_seti {w0 W : World} {g b n cap : Nat} {l : List (It Int)} {A B : Value} (hG : W.heap[g]? = some (.cells #[A, B] 27 (0, 0))) (hR : Kd.R itK 84 W w0.heap.size (fun _ => True) (.slice (some ⟨b, 0, none⟩) n cap) l) (hB : Below w0.heap.size w0 W) (i : Nat) (hi : i < l.length) (x : It Int) :
    (((W.setCell ⟨b, i * 3, none⟩ (.int .i64 x.1)).setCell ⟨b, i * 3 + 1, none⟩ (.int .i64 x.2.1)).setCell ⟨b, i * 3 + 2, none⟩ (.int .i64 x.2.2)).heap[g]? = some (.cells #[A, B] 27 (0, 0)) ∧
    Kd.R itK 84 (((W.setCell ⟨b, i * 3, none⟩ (.int .i64 x.1)).setCell ⟨b, i * 3 + 1, none⟩ (.int .i64 x.2.1)).setCell ⟨b, i * 3 + 2, none⟩ (.int .i64 x.2.2)) w0.heap.size (fun _ => True) (.slice (some ⟨b, 0, none⟩) n cap) (l.set i x) ∧
    Below w0.heap.size w0 (((W.setCell ⟨b, i * 3, none⟩ (.int .i64 x.1)).setCell ⟨b, i * 3 + 1, none⟩ (.int .i64 x.2.1)).setCell ⟨b, i * 3 + 2, none⟩ (.int .i64 x.2.2)) := by
  have hn := (Kd.R_reads' hR).1
  obtain ⟨gq, cq, eq, hb, _, cells, hcells⟩ := Kd.R_form hR (by omega)
  injection eq with eq _ _
  injection eq with eq
  injection eq with eq
  subst eq
  have hne : g ≠ b := blk_ne hG hcells (by decide)
  obtain ⟨c, hcl, hM, hcc, _⟩ := Kd.R_elem hR (default, 0, 0) (i : Int) (by omega) (by omega)
  have h3 := Kd.R_seg hR (i : Int) (by omega) (by omega) (j := 0) (seg := [.int .i64 x.1, .int .i64 x.2.1, .int .i64 x.2.2]) (x' := x) (okp := fun _ => False) hcl hcc (by show 3 ≤ 3; omega) (by
    rw [itK_M]
    have : c.length = 3 := hcl
    simp [this]) (fun _ hk => hk.elim)
  exact ⟨blk_grown hG h3.2 (by simpa using hne), h3.1, ((hB.setCell (p := ⟨b, i * 3, none⟩) hb _).setCell (p := ⟨b, i * 3 + 1, none⟩) hb _).setCell (p := ⟨b, i * 3 + 2, none⟩) hb _⟩
/-- three cells of block b are written: the other blocks -/
theorem set3_far {W : World} {b i j k q : Nat} (h : q ≠ b) (x y z : Value) : (((W.setCell ⟨b, i, none⟩ x).setCell ⟨b, j, none⟩ y).setCell ⟨b, k, none⟩ z).heap[q]? = W.heap[q]? :=
  (Below.heap_setCell _ ⟨b, k, none⟩ z q h).trans ((Below.heap_setCell _ ⟨b, j, none⟩ y q h).trans (Below.heap_setCell _ ⟨b, i, none⟩ x q h))
theorem cell_q0 {W : World} {g : Nat} {a b : Value} {t : TypeId} (h : W.heap[g]? = some (.cells #[a, b] t (0, 0))) : W.cell? ⟨g, 0, none⟩ = some a := by simp [World.cell?, h]
theorem cell_q1 {W : World} {g : Nat} {a b : Value} {t : TypeId} (h : W.heap[g]? = some (.cells #[a, b] t (0, 0))) : W.cell? ⟨g, 1, none⟩ = some b := by simp [World.cell?, h]
end Go.Proofs.Ytknmlikjmnhgkaa.P
