/- Package slots: Take. Under way. No condition. -/
import Derived.Test.YtknmlikjmnhgkaaQSlots
namespace Go.Proofs.Ytknmlikjmnhgkaa.P
open Go.RowKit Go.Shelf Go.Proofs.YtknmlikjmnhgkaaW.PrintWords Go.Proofs.YtknmlikjmnhgkaaW.PrintLast Go.Proofs.YtknmlikjmnhgkaaW.PrintMore Go.Proofs.Ytknmlikjmnhgkaa.Pure
attribute [local go_sem] Oper.semAt_some
set_option linter.unusedVariables false
set_option linter.unusedSimpArgs false

theorem box_below {W W' : World} {B : Nat} {t : TypeId} {v : Value} (h : Boxed W B t v) (hb : Below W.heap.size W W') : Boxed W' B t v := (hb.block _ h.lt).trans h
theorem box_alloc (W : World) (t : TypeId) (z v : Value) : (W.alloc (.cells #[z] t)).setCell ⟨W.heap.size, 0, none⟩ v = W.alloc (.cells #[v] t) := by
  have h : ((W.alloc (.cells #[z] t)).setCell ⟨W.heap.size, 0, none⟩ v).heap = (W.alloc (.cells #[v] t)).heap := by
    apply Array.ext_getElem?
    intro i
    show ((W.heap.push _).modify W.heap.size _)[i]? = (W.heap.push _)[i]?
    rw [Array.getElem?_modify, Array.getElem?_push, Array.getElem?_push]
    by_cases hi : W.heap.size = i
    · subst hi; simp
    · rw [if_neg hi, if_neg (fun e => hi e.symm), if_neg (fun e => hi e.symm)]
  show ({ W with heap := _ } : World) = { W with heap := _ }
  exact congrArg (fun q => ({ W with heap := q } : World)) h
/-- all blocks of w0 but one lie as they lay -/
structure KeepY (g : Nat) (w0 W : World) : Prop where
  size : w0.heap.size ≤ W.heap.size
  same : ∀ b, b < w0.heap.size → b ≠ g → W.heap[b]? = w0.heap[b]?
theorem keepY_refl (g : Nat) (w0 : World) : KeepY g w0 w0 := ⟨Nat.le_refl _, fun _ _ _ => rfl⟩
theorem keepY_set {g : Nat} {w0 W : World} (h : KeepY g w0 W) (v : Value) : KeepY g w0 (W.setCell ⟨g, 0, none⟩ v) :=
  ⟨by rw [World.size_setCell]; exact h.size, fun c hc h1 => (Below.heap_setCell W ⟨g, 0, none⟩ v c h1).trans (h.same c hc h1)⟩
theorem keepY_own {β : Type} (g : Nat) (w0 : World) : OwnFrom (β := β) w0.heap.size (fun _ W => KeepY g w0 W) := fun s A B row hs hg hr =>
  ⟨Nat.le_trans hs.size hg.size, fun b hb h1 => (hg.block b (Nat.lt_of_lt_of_le hb hs.size) (fun e => by have := (hr b e.symm).1; omega)).trans (hs.same b hb h1)⟩
theorem IsT.putD {w0 W W' : World} {g D : Nat} {gens used free : List Int} {o : Obj} (h : IsT w0 W g gens used free) (hD : W.heap[D]? = some o) (ho : o.isCells = false) (hk : ∀ b, b ≠ D → W'.heap[b]? = W.heap[b]?) : IsT w0 W' g gens used free := by
  have key : ∀ (b : Nat) (cells : Array Value) (t : TypeId) (f : Nat × Nat), W.heap[b]? = some (.cells cells t f) → b ≠ D := by
    rintro b cells t f hb rfl
    rw [hb] at hD
    injection hD with hD
    subst hD
    simp [Obj.isCells] at ho
  obtain ⟨vg, vu, vf, h1, h2, h3, h4, h5⟩ := h
  exact ⟨vg, vu, vf, (hk g (key _ _ _ _ h1)).trans h1, h2, Kd.R_mono (Kd.R_step (Kd.R_bound h3) (fun k hk' _ => by obtain ⟨_, _, _, q, _, cells, hc⟩ := hk'; exact hk k (key _ _ _ _ hc))) (fun _ _ => trivial), Kd.R_mono (Kd.R_step (Kd.R_bound h4) (fun k hk' _ => by obtain ⟨_, _, _, q, _, cells, hc⟩ := hk'; exact hk k (key _ _ _ _ hc))) (fun _ _ => trivial), Kd.R_mono (Kd.R_step (Kd.R_bound h5) (fun k hk' _ => by obtain ⟨_, _, _, q, _, cells, hc⟩ := hk'; exact hk k (key _ _ _ _ hc))) (fun _ _ => trivial)⟩
theorem Fr.putD {v0 W W' : World} {g D : Nat} {o : Obj} (h : Fr v0 W g) (hD : W.heap[D]? = some o) (ho : o.isCells = false) (hk : ∀ b, b ≠ D → W'.heap[b]? = W.heap[b]?) (hs : W.heap.size ≤ W'.heap.size) : Fr v0 W' g :=
  ⟨Nat.le_trans h.size hs, fun b cells t h1 h2 h3 => (hk b (by
    rintro rfl
    have := (h.same b cells t h1 h2 h3).trans h1
    rw [hD] at this
    injection this with this
    subst this
    simp [Obj.isCells] at ho)).trans (h.same b cells t h1 h2 h3)⟩
theorem IsT.keepY {w0 W W' : World} {g kN : Nat} {gens used free : List Int} {v : Value} {tN : TypeId} (h : IsT w0 W g gens used free) (hb : Boxed W kN tN v) (h3 : tN = 3) (hne : ∀ vg vu vf, W.heap[g]? = some (.cells #[vg, vu, vf] 94 (0, 0)) → vg.ownBlock ≠ some kN) (hk : KeepY kN W W') : IsT w0 W' g gens used free := by
  subst h3
  obtain ⟨vg, vu, vf, h1, h2, h3, h4, h5⟩ := h
  have hg : g ≠ kN := blk_ne h1 hb (by decide)
  exact ⟨vg, vu, vf, (hk.same g (blk_lt h1) hg).trans h1, h2, Kd.R_mono (Kd.R_step (Kd.R_tight rfl h3) (fun k hk' hlt => hk.same k hlt (fun e => hne vg vu vf h1 (by rw [← hk', e])))) (fun _ _ => trivial), Kd.R_mono (Kd.R_step (Kd.R_types h4 hb (by decide)) (fun k hk' hlt => hk.same k hlt hk'.2)) (fun _ _ => trivial), Kd.R_mono (Kd.R_step (Kd.R_types h5 hb (by decide)) (fun k hk' hlt => hk.same k hlt hk'.2)) (fun _ _ => trivial)⟩
theorem infoI3 : (Try.prog.info? 3).map (fun i => (i.zero, i.size, i.bytes)) = some (some (.int .i64 0), 1, 8) := by kernel_rfl
theorem IsT.other {w0 W : World} {g k : Nat} {gens used free : List Int} {cs : Array Value} {t : TypeId} (h : IsT w0 W g gens used free) (hk : W.heap[k]? = some (.cells cs t (0, 0))) (h1 : t ≠ 94) (h2 : 3 ≠ t) (h3 : 37 ≠ t) (j : Nat) (u : Value) : IsT w0 (W.setCell ⟨k, j, none⟩ u) g gens used free := by
  obtain ⟨vg, vu, vf, b1, b2, b3, b4, b5⟩ := h
  exact ⟨vg, vu, vf, blk_far b1 (p := ⟨k, j, none⟩) (Ne.symm (blk_ne hk b1 h1)) u, b2, Kd.R_set b3 hk (by intro q hq; have : q = 3 := (by simpa [Kd.int, Kd.scalar] using hq); rw [this]; exact h2) j u, Kd.R_set b4 hk (by intro q hq; have : q = 37 := (by simpa [Kd.int, Kd.scalar] using hq); rw [this]; exact h3) j u, Kd.R_set b5 hk (by intro q hq; have : q = 37 := (by simpa [Kd.int, Kd.scalar] using hq); rw [this]; exact h3) j u⟩
/-- in the midst of Take -/
structure TkAt (w0 v0 W : World) (g kE kN D : Nat) (gens used free : List Int) (N : Int) (ent : Value × Value) : Prop where
  t : IsT w0 W g gens used free
  e : W.heap[kE]? = some (.cells #[ent.1, ent.2] 64 (0, 0))
  n : W.heap[kN]? = some (.cells #[.int .i64 N] 3 (0, 0))
  b : Below w0.heap.size w0 W
  f : Fr v0 W g
  d : W.heap[D]? = some (.deferred (some []))
  far : ∀ vg vu vf, W.heap[g]? = some (.cells #[vg, vu, vf] 94 (0, 0)) → vg.ownBlock ≠ some kN
theorem TkAt.below {w0 v0 W W' : World} {g kE kN D : Nat} {gens used free : List Int} {N : Int} {ent : Value × Value} (h : TkAt w0 v0 W g kE kN D gens used free N ent) (hb : Below W.heap.size W W') : TkAt w0 v0 W' g kE kN D gens used free N ent :=
  ⟨h.t.below hb, (hb.block _ (blk_lt h.e)).trans h.e, (hb.block _ (blk_lt h.n)).trans h.n, h.b.trans (hb.mono h.b.size), h.f.below hb, (hb.block _ (Array.getElem?_eq_some_iff.1 h.d).1).trans h.d, fun vg vu vf hv => by
    have hg : g < W.heap.size := by obtain ⟨_, _, _, h1, _⟩ := h.t; exact blk_lt h1
    exact h.far vg vu vf ((hb.block g hg).symm.trans hv)⟩
theorem TkAt.ne {w0 v0 W : World} {g kE kN D : Nat} {gens used free : List Int} {N : Int} {ent : Value × Value} (h : TkAt w0 v0 W g kE kN D gens used free N ent) : kE ≠ g ∧ kN ≠ g ∧ D ≠ g ∧ kE ≠ kN ∧ D ≠ kE ∧ D ≠ kN := by
  obtain ⟨_, _, _, h1, _⟩ := h.t
  have hd := h.d
  have he := h.e
  have hn := h.n
  refine ⟨blk_ne he h1 (by decide), blk_ne hn h1 (by decide), ?_, blk_ne he hn (by decide), ?_, ?_⟩
  · rintro rfl
    rw [h1] at hd
    cases hd
  · rintro rfl
    rw [he] at hd
    cases hd
  · rintro rfl
    rw [hn] at hd
    cases hd
theorem TkAt.setu {w0 v0 W : World} {g kE kN D : Nat} {gens used free X : List Int} {N : Int} {ent : Value × Value} {v : Value} (h : TkAt w0 v0 W g kE kN D gens used free N ent) (hX : Kd.R (Kd.int .u64) 37 W w0.heap.size (fun _ => True) v X) : TkAt w0 v0 (W.setCell ⟨g, 1, none⟩ v) g kE kN D gens X free N ent := by
  obtain ⟨n1, n2, n3, _, _, _⟩ := h.ne
  obtain ⟨vg, vu, vf, h1, hg, _⟩ := h.t
  refine ⟨h.t.setu hX, (Below.heap_setCell _ ⟨g, 1, none⟩ _ kE n1).trans h.e, (Below.heap_setCell _ ⟨g, 1, none⟩ _ kN n2).trans h.n, h.b.setCell (p := ⟨g, 1, none⟩) hg _, h.f.setg 1 _, (Below.heap_setCell _ ⟨g, 1, none⟩ _ D n3).trans h.d, fun a b c hv => ?_⟩
  have h2 := blk_set h1 1 v
  rw [hv] at h2
  simp at h2
  rw [h2.1]
  exact h.far _ _ _ h1
theorem TkAt.setf {w0 v0 W : World} {g kE kN D : Nat} {gens used free X : List Int} {N : Int} {ent : Value × Value} {v : Value} (h : TkAt w0 v0 W g kE kN D gens used free N ent) (hX : Kd.R (Kd.int .u64) 37 W w0.heap.size (fun _ => True) v X) : TkAt w0 v0 (W.setCell ⟨g, 2, none⟩ v) g kE kN D gens used X N ent := by
  obtain ⟨n1, n2, n3, _, _, _⟩ := h.ne
  obtain ⟨vg, vu, vf, h1, hg, _⟩ := h.t
  refine ⟨h.t.setf hX, (Below.heap_setCell _ ⟨g, 2, none⟩ _ kE n1).trans h.e, (Below.heap_setCell _ ⟨g, 2, none⟩ _ kN n2).trans h.n, h.b.setCell (p := ⟨g, 2, none⟩) hg _, h.f.setg 2 _, (Below.heap_setCell _ ⟨g, 2, none⟩ _ D n3).trans h.d, fun a b c hv => ?_⟩
  have h2 := blk_set h1 2 v
  rw [hv] at h2
  simp at h2
  rw [h2.1]
  exact h.far _ _ _ h1
/-- an append to gens is stored -/
theorem TkAt.app {w0 v0 W W1 : World} {g kE kN D : Nat} {gens used free gens1 : List Int} {N : Int} {ent : Value × Value} {vg vu vf v1 : Value} (h : TkAt w0 v0 W g kE kN D gens used free N ent) (h1 : W.heap[g]? = some (.cells #[vg, vu, vf] 94 (0, 0))) (hR : Kd.R (Kd.int .i64) 3 W1 w0.heap.size (fun _ => True) v1 gens1) (hb : Below w0.heap.size w0 W1) (hg : W.grownBy W1 vg.ownBlock) (hat : v1.ownBlock = vg.ownBlock ∨ ∃ b, v1.ownBlock = some b ∧ W.heap.size ≤ b) :
    TkAt w0 v0 (W1.setCell ⟨g, 0, none⟩ v1) g kE kN D gens1 used free N ent := by
  obtain ⟨n1, n2, n3, n4, n5, n6⟩ := h.ne
  obtain ⟨vg', vu', vf', h1', h2, h3, h4, h5⟩ := h.t
  rw [h1] at h1'
  simp at h1'
  obtain ⟨rfl, rfl, rfl⟩ := h1'
  have hnn := h.far _ _ _ h1
  have hfar : ∀ (k : Nat) (o : Obj), W.heap[k]? = some o → (∀ cs, o ≠ .cells cs 3 (0, 0)) → W1.heap[k]? = some o := fun k o hk ho => (hg.block k (Array.getElem?_eq_some_iff.1 hk).1 (fun e => by
    obtain ⟨inner, hown⟩ := Kd.R_own h3
    obtain ⟨cs, hc⟩ := own_typed hown k e.symm
    rw [hk] at hc
    injection hc with hc
    exact ho cs hc)).trans hk
  have hg1 := hfar g _ h1 (fun cs e => by simp at e)
  have he1 := hfar kE _ h.e (fun cs e => by simp at e)
  have hd1 := hfar D _ h.d (fun cs e => by simp at e)
  have hn1 : W1.heap[kN]? = _ := (hg.block kN (blk_lt h.n) (fun e => hnn e.symm)).trans h.n
  have hU1 := Kd.R_mono (Kd.R_grown (Kd.R_apartR h4 h3 (by intro q hq; have : q = 37 := (by simpa [Kd.int, Kd.scalar] using hq); rw [this]; decide)) hg (fun k hk => hk.2)) (ok' := fun _ => True) (fun _ _ => trivial)
  have hF1 := Kd.R_mono (Kd.R_grown (Kd.R_apartR h5 h3 (by intro q hq; have : q = 37 := (by simpa [Kd.int, Kd.scalar] using hq); rw [this]; decide)) hg (fun k hk => hk.2)) (ok' := fun _ => True) (fun _ _ => trivial)
  refine ⟨⟨v1, vu, vf, by simpa using blk_set hg1 0 v1, h2, Kd.R_set hR hg1 (by decide) 0 _, Kd.R_set hU1 hg1 (by decide) 0 _, Kd.R_set hF1 hg1 (by decide) 0 _⟩, (Below.heap_setCell _ ⟨g, 0, none⟩ _ kE n1).trans he1, (Below.heap_setCell _ ⟨g, 0, none⟩ _ kN n2).trans hn1, hb.setCell (p := ⟨g, 0, none⟩) h2 _, (h.f.grown h3 hg).setg 0 _, (Below.heap_setCell _ ⟨g, 0, none⟩ _ D n3).trans hd1, fun a b c hv => ?_⟩
  have h6 := blk_set hg1 0 v1
  rw [hv] at h6
  simp at h6
  rw [h6.1]
  rcases hat with e | ⟨b, e, hb⟩
  · rw [e]; exact hnn
  · rw [e]
    intro e2
    injection e2 with e2
    have := blk_lt h.n
    omega
/-- the slot of the next entity -/
def headOr (L : List Int) (d : Nat) : Nat := match L with | [] => d | k :: _ => k.toNat
def nextN (gens free : List Int) : Nat := headOr (elems 0 free) gens.length
theorem head_prefix {L : List Int} {a : Int} {d : Nat} (h : [a] <+: L) (h0 : 0 ≤ a) : (headOr L d : Int) = a := by
  obtain ⟨q, rfl⟩ := h
  show (a.toNat : Int) = a
  omega
set_option maxHeartbeats 4000000 in
set_option maxRecDepth 100000 in
theorem T_take (w w0 : World) (g : Nat) (gens used free : List Int) (N : Nat) (G : List Int) (hNN : nextN gens free = N) (hG : (if N = gens.length then gens ++ [0] else gens) = G) (h : IsT w0 w g gens used free) (hB : Below w0.heap.size w0 w) (hu : GoodS used) (hf : GoodS free) (hl : gens.length ≤ 256) (hN : N < 256) (hfl : ∀ x ∈ elems 0 free, 0 ≤ x ∧ x < gens.length) :
    Calls Try.prog 41 #[.pointer (some ⟨g, 0, none⟩)] w fun e w' => e = .returned (.tuple #[.agg #[.int .i64 N, .int .i64 (rd G N)], .int .i64 0]) ∧
      IsT w0 w' g G (uni used (oneL N)) (dif free (oneL N)) ∧ Below w0.heap.size w0 w' ∧ Fr w w' g := by
  have HN := Aside0.mk hNN
  have HG := Aside0.mk hG
  clear hNN hG
  have HX := Aside0.mk hf
  have HB0 := Aside0.mk hB
  have HFL := Aside0.mk hfl
  refine (callsIn_wide (n := 9)).1 ?_
  refine callsIn_of_wp_marks Try.func41 rfl trivial ?_ rfl
  refine wpIn_wide.2 ?_
  simp only [Try.ntmps41, List.size_toArray, List.length_cons, List.length_nil, Nat.reduceAdd, Nat.reduceSub, Array.replicate_succ, Array.replicate_zero, List.push_toArray, List.append_toArray, List.nil_append, List.cons_append]
  go_upto_region 1 with (fail)
  have B1 := below_alloc (Below.refl w.heap.size w) (.cells #[.int .i64 0, .int .i64 0] 64)
  have bE : (w.alloc (.cells #[.int .i64 0, .int .i64 0] 64)).heap[w.heap.size]? = some (.cells #[.int .i64 0, .int .i64 0] 64 (0, 0)) := Array.getElem?_push_size
  obtain ⟨wa, hwa⟩ : ∃ W, w.alloc (.cells #[.int .i64 0, .int .i64 0] 64) = W := ⟨_, rfl⟩
  have sza : wa.heap.size = w.heap.size + 1 := by rw [← hwa]; simp
  rw [hwa] at B1 bE ⊢
  have hT1 := h.below B1
  obtain ⟨vg, vu, vf, b1, b2, b3, b4, b5⟩ := hT1
  obtain ⟨Ag, cg, rfl⟩ := Kd.R_slice b3
  have c0 := cell3_0 b1
  have HT1 := Aside0.mk (h.below B1)
  have HB1 := Aside0.mk (hB.trans (B1.mono hB.size))
  have HBW := Aside0.mk B1
  have HE1 := Aside0.mk bE
  have HOWN := Aside0.mk (show ∀ vg vu vf, w.heap[g]? = some (.cells #[vg, vu, vf] 94 (0, 0)) → ∀ k, vg.ownBlock = some k → k < w.heap.size from by
    intro vg vu vf hv k e
    obtain ⟨vg', vu', vf', h1, _, h3, _⟩ := h
    rw [hv] at h1
    simp at h1
    obtain ⟨rfl, rfl, rfl⟩ := h1
    obtain ⟨inner, ho⟩ := Kd.R_own h3
    exact own_lt ho k e)
  have HGL := Aside0.mk (show g < w.heap.size from by obtain ⟨_, _, _, h1, _⟩ := h; exact blk_lt h1)
  clear b1 b2 b3 b4 b5 hwa
  go_upto_region 2 with (fail)
  have B2 := below_alloc (Below.refl wa.heap.size wa) (.cells #[.int .i64 gens.length] 3)
  have bN := Boxed.new wa 3 (.int .i64 gens.length)
  rw [sza] at bN
  obtain ⟨wb, hwb⟩ : ∃ W, wa.alloc (.cells #[.int .i64 gens.length] 3) = W := ⟨_, rfl⟩
  have szb : wb.heap.size = w.heap.size + 1 + 1 := by rw [← hwb, World.size_alloc, sza]
  rw [hwb] at B2 bN ⊢
  have hT2 := HT1.out.below B2
  have bE2 := (B2.block _ (blk_lt HE1.out)).trans HE1.out
  have HB2 := Aside0.mk (HB1.out.trans (B2.mono HB1.out.size))
  have HBW2 := Aside0.mk (HBW.out.trans (B2.mono HBW.out.size))
  clear hwb B1 B2 HT1 HB1 HE1 HBW c0 bE h hB
  have HT2 := Aside0.mk hT2
  have HE2 := Aside0.mk bE2
  have HN2 := Aside0.mk bN
  obtain ⟨vg, vu, vf, b1, b2, b3, b4, b5⟩ := hT2
  obtain ⟨Af, cf, rfl⟩ := Kd.R_slice b5
  have c2 := cell3_2 b1
  have HR5 := Aside0.mk b5
  clear b1 b2 b3 b4 b5 bE2 bN
  go_wp2_with (fail)
  refine (sets_Set_All.calls Af cf free wb (Kd.R_reads' HR5.out).2.2 (Kd.R_reads' HR5.out).2.1).mono ?_
  rintro e w9 ⟨rfl, v9, hcl9, hR9, hlt9, hb9⟩
  rw [walked_good HX.out] at hR9
  rw [szb] at hcl9 hR9 hlt9
  have HT9 := Aside0.mk (HT2.out.below hb9)
  have HE9 := Aside0.mk ((hb9.block _ (blk_lt HE2.out)).trans HE2.out)
  have HN9 := Aside0.mk (box_below HN2.out hb9)
  have HB9 := Aside0.mk (HB2.out.trans (hb9.mono HB2.out.size))
  have HBW9 := Aside0.mk (HBW2.out.trans (hb9.mono HBW2.out.size))
  have hv9 : ∀ b, v9.ownBlock = some b → w.heap.size + 1 + 1 < b ∧ b < w9.heap.size := fun b e => by
    have := (Kd.R_bound hR9).1 b e
    omega
  have hs9 : w.heap.size + 1 + 1 ≤ w9.heap.size := by have := hb9.size; omega
  clear hb9 HT2 HE2 HN2 HB2 HBW2 HR5 c2
  simp only [szb]
  clear szb sza
  go_wp2_with (fail)
  have hFAR : ∀ vg vu vf, w9.heap[g]? = some (.cells #[vg, vu, vf] 94 (0, 0)) → vg.ownBlock ≠ some (w.heap.size + 1) := by
    intro vg vu vf hv e
    have := HOWN.out vg vu vf ((HBW9.out.block g HGL.out).symm.trans hv) _ e
    omega
  have HFAR := Aside0.mk hFAR
  clear hFAR
  rename_i K1 hK1
  have REST : ∀ (D : Nat) (W : World), TkAt w0 w W g w.heap.size (w.heap.size + 1) D gens used free N (.int .i64 0, .int .i64 0) → w.heap.size ≤ D → K1 { tmps := #[.pointer (some ⟨g, 0, none⟩), undef, .pointer (some ⟨w.heap.size, 0, none⟩), .int .i64 0, .pointer (some ⟨w.heap.size + 1, 0, none⟩), undef, .pointer (some ⟨g, 0, none⟩), .pointer (some ⟨g, 0, none⟩), .pointer (some ⟨g, 0, none⟩), .slice Ag gens.length cg, .int .i64 gens.length, .pointer (some ⟨g, 0, none⟩), .pointer (some ⟨g, 0, none⟩), .pointer (some ⟨g, 2, none⟩), .slice Af free.length cf, .func (.func 58) #[] #[.pointer (some ⟨w.heap.size + 1 + 1, 0, none⟩)], undef, undef, undef, undef, undef, undef, undef, undef, undef, undef, undef, undef, undef, undef, undef, undef, undef, undef, undef, undef, undef, undef, undef, undef, undef, undef, undef, undef, undef, undef, undef, undef, undef, undef, undef, undef, undef, undef, undef, undef, undef, undef, undef, undef, undef, undef, undef, undef], defers := [{ target := Target.collected D, args := #[] }] } W := by
    intro D W hW hDle
    have HW := Aside0.mk hW
    clear hW
    dsimp only
    refine hK1 _ _ ?_
    obtain ⟨vg, vu, vf, b1, b2, b3, b4, b5⟩ := HW.out.t
    obtain ⟨Ag', cg', rfl⟩ := Kd.R_slice b3
    have HB1' := Aside0.mk b1
    have HR3 := Aside0.mk b3
    have c0 := cell3_0 b1
    have cN : W.cell? ⟨w.heap.size + 1, 0, none⟩ = some (.int .i64 (N : Int)) := by have := HW.out.n; simp [World.cell?, this]
    have d0 : ((N : Int) == 256) = false := by simp; omega
    clear b1 b3 b4 b5
    go_upto_region 7 with (fail)
    go_quiet (fail)
    have HW7 := Aside0.mk (HW.out.below (pw_below_drewN (Below.refl _ _) nq))
    have HB7 := Aside0.mk (show (W.drewN nq).heap[g]? = _ from HB1'.out)
    have HR7 := Aside0.mk (Kd.R_drewN HR3.out nq)
    obtain ⟨W7, hW7⟩ : ∃ X, W.drewN nq = X := ⟨_, rfl⟩
    rw [hW7] at HW7 HB7 HR7 ⊢
    clear hW7 c0 cN HW HB1' HR3
    go_upto_if 27 with (fail)
    go_cut [] from 5 to 63 (fun wc => Aside0 (TkAt w0 w wc g w.heap.size (w.heap.size + 1) D G used free N (.int .i64 0, .int .i64 0)))
    case first =>
      by_cases hE : N = gens.length
      · have hEb : ((N : Int) == (gens.length : Int)) = true := by simp [hE]
        have hG2 : G = gens ++ [0] := by rw [← HG.out, if_pos hE]
        have c0 := cell3_0 HB7.out
        go_wp2_with (((with_reducible refine gate_builtin (b := .append) (xs := #[.tmp 32, .tmp 33]) rfl ?_); at_builtin; refine Kd.R_append (Kd.int .i64) (w0 := w0) w0.heap.size rfl (.tmp 32) (.tmp 33) 22 3 (.int .i64 0) 8 rfl Try.underlying22 infoI3 rfl (by decide) (by omega) (.slice Ag' gens.length cg') gens 0 [.int .i64 0] (fun _ => True) (fun _ => False) rfl rfl ?aP (fun _ hk => hk.elim) ?aF ?aO ?aB ?aS ?aL ?_; (case aP => exact rfl); (case aF => exact (fun _ _ => trivial)); (case aO => exact HR7.out); (case aB => exact HW7.out.b); (case aS => exact below_size HW7.out.b); (case aL => omega); intro v8 w8 ho hb hg hat; have HAP := Aside0.mk (And.intro ho (And.intro hb (And.intro hg hat))); obtain ⟨b8, cap8, rfl, _⟩ := Kd.R_form ho (by simp); have g8 := Aside0.mk (blk_grown HB7.out hg (Kd.R_ne HR7.out HB7.out (by decide))); have c8 := cell3_0 g8.out; have z8 := blk_frozen g8.out 0; clear ho hb hg hat))
        go_meet
        case rel => exact ⟨by rw [hG2]; exact HW7.out.app HB7.out (by rw [show gens.length + 1 = (gens ++ [0]).length from by simp]; exact HAP.out.1) HAP.out.2.1 HAP.out.2.2.1 HAP.out.2.2.2⟩
      · have hEb : ((N : Int) == (gens.length : Int)) = false := by simp; omega
        have hG2 : G = gens := by rw [← HG.out, if_neg hE]
        go_wp2
        go_meet
        case rel => exact ⟨by rw [hG2]; exact HW7.out⟩
    case rest =>
      have HW8 := hcut
      clear HB7 HR7 HW7 d0
      go_upto_region 9 with (fail)
      go_cut [] from 5 to 63 (fun wc => Aside0 (TkAt w0 w wc g w.heap.size (w.heap.size + 1) D G (uni used (oneL N)) (dif free (oneL N)) N (.int .i64 0, .int .i64 0)))
      case first =>
        obtain ⟨vg8, vu8, vf8, b1, b2, b3, b4, b5⟩ := HW8.out.t
        obtain ⟨Au, cu, rfl⟩ := Kd.R_slice b4
        obtain ⟨Af8, cf8, rfl⟩ := Kd.R_slice b5
        have c1 := cell3_1 b1
        have c2 := cell3_2 b1
        have z1 := blk_frozen b1 1
        have z2 := blk_frozen b1 2
        have cN : wc.cell? ⟨w.heap.size + 1, 0, none⟩ = some (.int .i64 (N : Int)) := by have := HW8.out.n; simp [World.cell?, this]
        have hgl8 : g < wc.heap.size := blk_lt b1
        have hnl8 : w.heap.size + 1 < wc.heap.size := blk_lt HW8.out.n
        have HBB := Aside0.mk b1
        have HRU := Aside0.mk b4
        have HRF := Aside0.mk b5
        clear b1 b3 b4 b5
        have B0 := Below.refl wc.heap.size wc
        refine wp_region_noPanic ?_
        go_region_law
          (first
            | (go_simp; go_at_call 25; (with_reducible refine (sets_Set_With.calls Au cu used N (uni used (oneL N)) _ (Kd.R_reads' (Kd.R_below HRU.out (by with_reducible repeat (first | assumption | apply pw_below_drewN | apply below_drew1 | apply below_alloc)))).2.2 (Kd.R_reads' HRU.out).2.1 (With_f used N)).mono ?_); rintro e w9 ⟨v9, rfl, hR9, hb9⟩; have hB9 : Below wc.heap.size wc w9 := below_step (by with_reducible repeat (first | assumption | apply pw_below_drewN | apply below_drew1 | apply below_alloc)) hb9; have c29 := (hB9.cell (p := ⟨g, 2, none⟩) hgl8).trans c2; have cN9 := (hB9.cell (p := ⟨w.heap.size + 1, 0, none⟩) hnl8).trans cN; obtain ⟨A9, c9, rfl⟩ := Kd.R_slice hR9; have HR9 := Aside0.mk (Kd.R_lower hR9 (show w0.heap.size ≤ wc.heap.size from HW8.out.b.size)); clear hR9 hb9)
            | (go_simp; go_at_call 26; (with_reducible refine (sets_Set_Without.calls Af8 cf8 free N (dif free (oneL N)) _ (Kd.R_reads' (Kd.R_below HRF.out (by with_reducible repeat (first | assumption | apply pw_below_drewN | apply below_drew1 | apply below_alloc)))).2.2 (Kd.R_reads' HRF.out).2.1 (Without_f free N)).mono ?_); rintro e w10 ⟨v10, rfl, hR10, hb10⟩; have hB10 : Below wc.heap.size wc w10 := below_step (by with_reducible repeat (first | assumption | apply pw_below_drewN | apply below_drew1 | apply below_alloc)) hb10; have c110 := (hB10.cell (p := ⟨g, 1, none⟩) hgl8).trans c1; have c210 := (hB10.cell (p := ⟨g, 2, none⟩) hgl8).trans c2; have z110 := blk_frozen ((hB10.block g hgl8).trans HBB.out) 1; have z210 := blk_frozen ((hB10.block g hgl8).trans HBB.out) 2; obtain ⟨A10, c10, rfl⟩ := Kd.R_slice hR10; have HR10 := Aside0.mk (Kd.R_lower hR10 (Nat.le_trans (show w0.heap.size ≤ wc.heap.size from HW8.out.b.size) hB9.size)); have HR9b := Aside0.mk (Kd.R_below HR9.out hb10); clear hR10 hb10))
        all_goals refine NoPanic.normal ?_
        all_goals
          have hX := ((HW8.out.below hB10).setu HR9b.out).setf (Kd.R_set HR10.out ((hB10.block g hgl8).trans HBB.out) (by decide) 1 (.slice A9 (uni used (oneL N)).length c9))
          have HX9 := Aside0.mk hX
          clear hX
          go_wp2
          go_meet
          case rel => exact ⟨HX9.out⟩
      case rest =>
        have HW9 := hcut
        have hGl : N < G.length := by
          rw [← HG.out]
          split
          · rename_i hE; simp; omega
          · rename_i hE
            have h0 := HN.out
            have : N < gens.length := by
              have hh := HFL.out
              unfold nextN headOr at h0
              cases hel : elems 0 free with
              | nil => rw [hel] at h0; exact absurd h0.symm hE
              | cons k q =>
                rw [hel] at h0 hh
                have := hh k (List.mem_cons_self ..)
                have h0 : k.toNat = N := h0
                omega
            exact this
        obtain ⟨gb, c, A, B, b1, hgb, ⟨cs3, hcs3⟩, hcell⟩ := HW9.out.t.blk (by omega)
        have hx := hcell N hGl
        have c0 := cell3_0 b1
        have cN : wc.cell? ⟨w.heap.size + 1, 0, none⟩ = some (.int .i64 (N : Int)) := by have := HW9.out.n; simp [World.cell?, this]
        have e0 := cell2_0 HW9.out.e
        have e1 := cell2_1 HW9.out.e
        have z0 := blk_frozen HW9.out.e 0
        have z1 := blk_frozen HW9.out.e 1
        have f0 : (N : Int) < (G.length : Int) := by omega
        have f1 : (0 : Int) ≤ (N : Int) := by omega
        clear b1 hgb hcs3 hcell HW8
        go_upto_region 10 with (fail)
        refine wp_region_noPanic ?_
        go_region
        all_goals refine NoPanic.normal ?_
        all_goals
          obtain ⟨kE, hkE⟩ : ∃ k, w.heap.size = k := ⟨_, rfl⟩
          have n6 := HW9.out.ne.2.2.2.2.1
          have t1 := (HW9.out.t.other HW9.out.e (by decide) (by decide) (by decide) 0 (.int .i64 N)).other (blk_set HW9.out.e 0 (.int .i64 N)) (by decide) (by decide) (by decide) 1 (.int .i64 (rd G N))
          have t2 := blk_set (blk_set HW9.out.e 0 (.int .i64 N)) 1 (.int .i64 (rd G N))
          have t3 := (HW9.out.b.setCell (p := ⟨w.heap.size, 0, none⟩) HB0.out.size (.int .i64 N)).setCell (p := ⟨w.heap.size, 1, none⟩) HB0.out.size (.int .i64 (rd G N))
          have t4 : Fr w ((wc.setCell ⟨w.heap.size, 0, none⟩ (.int .i64 N)).setCell ⟨w.heap.size, 1, none⟩ (.int .i64 (rd G N))) g := ⟨by rw [World.size_setCell, World.size_setCell]; exact HW9.out.f.size, fun b cells t h1 h2 h3 => (Below.heap_setCell _ ⟨w.heap.size, 1, none⟩ _ b (by have := blk_lt h1; show b ≠ w.heap.size; omega)).trans ((Below.heap_setCell _ ⟨w.heap.size, 0, none⟩ _ b (by have := blk_lt h1; show b ≠ w.heap.size; omega)).trans (HW9.out.f.same b cells t h1 h2 h3))⟩
          have t5 : ((wc.setCell ⟨w.heap.size, 0, none⟩ (.int .i64 N)).setCell ⟨w.heap.size, 1, none⟩ (.int .i64 (rd G N))).heap[D]? = _ := (Below.heap_setCell _ ⟨w.heap.size, 1, none⟩ _ D n6).trans ((Below.heap_setCell _ ⟨w.heap.size, 0, none⟩ _ D n6).trans HW9.out.d)
          obtain ⟨wy, hwy⟩ : ∃ X, (wc.setCell ⟨w.heap.size, 0, none⟩ (.int .i64 N)).setCell ⟨w.heap.size, 1, none⟩ (.int .i64 (rd G N)) = X := ⟨_, rfl⟩
          rw [hwy] at t1 t2 t3 t4 t5 ⊢
          have HZ := Aside0.mk (And.intro t1 (And.intro t2 (And.intro t3 (And.intro t4 t5))))
          have HKE := Aside0.mk (And.intro hkE n6)
          clear t1 t2 t3 t4 t5 hwy hx c0 cN e0 e1 z0 z1 hkE n6
          go_wp2
          have hz := HZ.out
          obtain ⟨t1, t2, t3, t4, t5⟩ := hz
          have t5 : wy.drew.heap[D]? = some (.deferred (some [])) := t5
          have t2 : wy.drew.heap[w.heap.size]? = some (.cells #[.int .i64 N, .int .i64 (rd G N)] 64 (0, 0)) := t2
          have c5 := cell_kept (cell2_0 t2) (grownBy_putObj' wy.drew D (.deferred none)) (fun r e => by cases e; exact ⟨_, t5, rfl⟩)
          have c6 := cell_kept (cell2_1 t2) (grownBy_putObj' wy.drew D (.deferred none)) (fun r e => by cases e; exact ⟨_, t5, rfl⟩)
          have hput : ∀ b, b ≠ D → (wy.drew.putObj D (.deferred none)).heap[b]? = wy.drew.heap[b]? := fun b hb => World.putObj_heap_other hb
          refine ⟨by simp, .inl ⟨_, _, rfl, run_takeDeferred t5, ?_⟩⟩
          refine ⟨.tuple #[.agg #[.int .i64 N, .int .i64 (rd G N)], .int .i64 0], ?_, rfl, IsT.putD (W := wy.drew) (t1.below (below_drew (Below.refl _ _))) t5 rfl hput, ?_, ?_⟩
          · simp [results, Try.f41, go_sem, c5, c6]
          · exact (below_drew t3).trans (belowK_b (w := w) HB0.out.size wy.drew D _ _ (by omega) t5 rfl rfl)
          · exact Fr.putD (W := wy.drew) (t4.below (below_drew (Below.refl _ _))) t5 rfl hput (grownBy_putObj' wy.drew D (.deferred none)).size
  refine (wpIn_wide (n := 9)).1 ?_
  refine wpIn_rangeFunc_ownG rfl (by omega) (gf := 58) (lb := #[.pointer (some ⟨w.heap.size + 1 + 1, 0, none⟩)]) rfl trivial (enters_of Try.func58 (by kernel_rfl) rfl)
    (sets_walk_stops Fence.wide (9 - 1) trivial rfl (by omega) (fun x => x ∈ elems 0 free) (w.heap.size + 1 + 1) (w.heap.size + 1 + 1 + 1) (fun _ => True) v9 free HX.out.len HX.out.words (fun _ h => h) w9 (by omega) hcl9 hR9) keepV_t (putObj_keepV (fun b e => (hv9 b e).2)) (Below.refl _ _) (fun _ => rfl)
    (fun pre W => (pre = [] ∧ Boxed W (w.heap.size + 1) 3 (.int .i64 gens.length)) ∧ KeepY (w.heap.size + 1) w9 W ∧ Below w.heap.size w W)
    (fun c pre W => ((c = .exit 0 ∧ ∃ x, pre = [x]) ∧ Boxed W (w.heap.size + 1) 3 (.int .i64 (pre.map (·.1)).getLast!)) ∧ KeepY (w.heap.size + 1) w9 W ∧ Below w.heap.size w W)
    (OwnFrom.and (OwnFrom.and (fun s A B row hs _ _ => hs) (Own.from (boxed_own _ 3 (fun (pre : List {x : Int // x ∈ elems 0 free}) => .int .i64 ((gens.length : Nat) : Int))) _)) (OwnFrom.and (keepY_own _ _) (ownFrom_below (by omega) (by omega))))
    (fun c => OwnFrom.and (OwnFrom.and (fun s A B row hs _ _ => hs) (Own.from (boxed_own _ 3 (fun (pre : List {x : Int // x ∈ elems 0 free}) => .int .i64 (pre.map (·.1)).getLast!)) _)) (OwnFrom.and (keepY_own _ _) (ownFrom_below (by omega) (by omega))))
    ⟨⟨rfl, HN9.out⟩, keepY_refl _ _, HBW9.out⟩
    (fun x => { tmps := #[.pointer (some ⟨g, 0, none⟩), undef, .pointer (some ⟨w.heap.size, 0, none⟩), .int .i64 0, .pointer (some ⟨w.heap.size + 1, 0, none⟩), .int .i64 x.1, .pointer (some ⟨g, 0, none⟩), .pointer (some ⟨g, 0, none⟩), .pointer (some ⟨g, 0, none⟩), .slice Ag gens.length cg, .int .i64 gens.length, .pointer (some ⟨g, 0, none⟩), .pointer (some ⟨g, 0, none⟩), .pointer (some ⟨g, 2, none⟩), .slice Af free.length cf, .func (.func 58) #[] #[.pointer (some ⟨w.heap.size + 1 + 1, 0, none⟩)], .int .i64 x.1, undef, undef, undef, undef, undef, undef, undef, undef, undef, undef, undef, undef, undef, undef, undef, undef, undef, undef, undef, undef, undef, undef, undef, undef, undef, undef, undef, undef, undef, undef, undef, undef, undef, undef, undef, undef, undef, undef, undef, undef, undef, undef, undef, undef, undef, undef, undef], defers := [] }) ?assign ?body ?done ?stop
  case assign =>
    intro l x W K hK
    gi_wp2
    first | exact hK | simpa using hK
  case body =>
    rintro l pre ⟨x, hx⟩ W ⟨⟨rfl, bn⟩, hK, hBW⟩ hlen
    have cN := bn.cell
    have fN := bn.frozen
    gi_wp2
    exact ⟨(KeepsOthers.setCell _ _ _).from _, ⟨⟨rfl, x, hx, rfl⟩, bn.set _⟩, keepY_set hK _, hBW.setCell (p := ⟨w.heap.size + 1, 0, none⟩) (Nat.le_succ _) _⟩
  case done =>
    rintro D ys W hD hys ⟨⟨rfl, bn⟩, hK, hBW⟩ hKD
    have hN0 : N = gens.length := by rw [← HN.out]; unfold nextN; rw [← hys]; rfl
    exact REST D W ⟨HT9.out.keepY HN9.out rfl HFAR.out hK, (hK.same _ (blk_lt HE9.out) (by omega)).trans HE9.out, by rw [hN0]; exact bn, HB0.out.trans (hBW.mono HB0.out.size), (Fr.refl w g).below hBW, hKD, fun a b c hv => HFAR.out a b c ((hK.same g (Nat.lt_of_lt_of_le HGL.out HBW9.out.size) (fun e => by have := HGL.out; omega)).symm.trans hv)⟩ (by omega)
  case stop =>
    rintro D c pre W hD hpre ⟨⟨⟨rfl, x, rfl⟩, bn⟩, hK, hBW⟩ hKD
    have hN0 : (N : Int) = x.1 := by
      rw [← HN.out]
      have h0 := (HFL.out x.1 x.2).1
      exact head_prefix hpre h0
    refine wpIn_wide.2 ?_
    refine wp_exit ?_
    exact REST D W ⟨HT9.out.keepY HN9.out rfl HFAR.out hK, (hK.same _ (blk_lt HE9.out) (by omega)).trans HE9.out, by rw [hN0]; exact bn, HB0.out.trans (hBW.mono HB0.out.size), (Fr.refl w g).below hBW, hKD, fun a b c hv => HFAR.out a b c ((hK.same g (Nat.lt_of_lt_of_le HGL.out HBW9.out.size) (fun e => by have := HGL.out; omega)).symm.trans hv)⟩ (by omega)
end Go.Proofs.Ytknmlikjmnhgkaa.P
