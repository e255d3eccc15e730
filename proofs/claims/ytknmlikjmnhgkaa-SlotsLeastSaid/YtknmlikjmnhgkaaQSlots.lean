/- Package slots: how slots lie in memory; Alive. No condition. -/
import Derived.BigRegion
import Derived.Deep.RegionHeld3
import Derived.Deep.RegionLaw
import Derived.Test.YtknmlikjmnhgkaaPAllx2
import Derived.Test.YtknmlikjmnhgkaaQElems
namespace Go.Proofs.Ytknmlikjmnhgkaa.P
open Go.RowKit Go.Shelf Go.Proofs.YtknmlikjmnhgkaaW.PrintWords Go.Proofs.YtknmlikjmnhgkaaW.PrintLast Go.Proofs.YtknmlikjmnhgkaaW.PrintMore Go.Proofs.Ytknmlikjmnhgkaa.Pure
set_option linter.unusedVariables false
set_option linter.unusedSimpArgs false

theorem Without_f (s : List Int) (i : Int) : sets_Set_Without.f s i = some (dif s (oneL i)) := by
  unfold sets_Set_Without.f
  rw [one_f, Option.bind_some, Minus_f, Option.bind_some]
/-- Slots at block g: how often each was freed, the used ones, the free ones. -/
def IsT (w0 W : World) (g : Nat) (gens used free : List Int) : Prop :=
  ∃ vg vu vf, W.heap[g]? = some (.cells #[vg, vu, vf] 94 (0, 0)) ∧ w0.heap.size ≤ g ∧ Kd.R (Kd.int .i64) 3 W w0.heap.size (fun _ => True) vg gens ∧ Kd.R (Kd.int .u64) 37 W w0.heap.size (fun _ => True) vu used ∧ Kd.R (Kd.int .u64) 37 W w0.heap.size (fun _ => True) vf free
theorem IsT.below {w0 W W' : World} {g : Nat} {gens used free : List Int} (h : IsT w0 W g gens used free) (hb : Below W.heap.size W W') : IsT w0 W' g gens used free := by
  obtain ⟨vg, vu, vf, h1, h2, h3, h4, h5⟩ := h
  exact ⟨vg, vu, vf, (hb.block g (blk_lt h1)).trans h1, h2, Kd.R_below h3 hb, Kd.R_below h4 hb, Kd.R_below h5 hb⟩
theorem cell3_0 {W : World} {g : Nat} {a b c : Value} {t : TypeId} (h : W.heap[g]? = some (.cells #[a, b, c] t (0, 0))) : W.cell? ⟨g, 0, none⟩ = some a := by simp [World.cell?, h]
theorem cell3_1 {W : World} {g : Nat} {a b c : Value} {t : TypeId} (h : W.heap[g]? = some (.cells #[a, b, c] t (0, 0))) : W.cell? ⟨g, 1, none⟩ = some b := by simp [World.cell?, h]
theorem cell3_2 {W : World} {g : Nat} {a b c : Value} {t : TypeId} (h : W.heap[g]? = some (.cells #[a, b, c] t (0, 0))) : W.cell? ⟨g, 2, none⟩ = some c := by simp [World.cell?, h]
theorem cell2_0 {W : World} {g : Nat} {a b : Value} {t : TypeId} (h : W.heap[g]? = some (.cells #[a, b] t (0, 0))) : W.cell? ⟨g, 0, none⟩ = some a := by simp [World.cell?, h]
theorem cell2_1 {W : World} {g : Nat} {a b : Value} {t : TypeId} (h : W.heap[g]? = some (.cells #[a, b] t (0, 0))) : W.cell? ⟨g, 1, none⟩ = some b := by simp [World.cell?, h]
/-- whether an entity exists -/
def aliveF (gens used : List Int) (n gen : Int) : Bool := hasB used n.toNat && (rd gens n == gen)
set_option maxHeartbeats 4000000 in
set_option maxRecDepth 100000 in
theorem T_alive (w w0 : World) (g : Nat) (gens used free : List Int) (n gen : Int) (h : IsT w0 w g gens used free) (hu : GoodS used) (h0 : 0 ≤ n) (h1 : n < 4096) (hi : hasB used n.toNat = true → n < gens.length) :
    Calls Try.prog 43 #[.pointer (some ⟨g, 0, none⟩), .agg #[.int .i64 n, .int .i64 gen]] w fun e w' => e = .returned (.bool (aliveF gens used n gen)) ∧ Below w.heap.size w w' := by
  obtain ⟨vg, vu, vf, hb, hg, hR, hU, hF⟩ := h
  obtain ⟨Ag, cg, rfl⟩ := Kd.R_slice hR
  obtain ⟨Au, cu, rfl⟩ := Kd.R_slice hU
  have HU := Aside0.mk hU
  have HHF := Aside0.mk (Has_f hu.words n h0 h1)
  have hgl : g < w.heap.size := blk_lt hb
  have HB := Aside0.mk hb
  have HRG := Aside0.mk (show ∀ i : Int, 0 ≤ i → i < gens.length → ∃ ad, Ag = some ad ∧ w.cell? (ad.add i.toNat) = some (.int .i64 (rd gens i)) from fun i => Kd.at_int (Kd.R_reads' hR).2.2 i)
  have c1 := cell3_1 hb
  have c0 := cell3_0 hb
  have B1 := below_alloc (Below.refl w.heap.size w) (.cells #[.int .i64 n, .int .i64 gen] 64)
  have hE : (w.alloc (.cells #[.int .i64 n, .int .i64 gen] 64)).heap[w.heap.size]? = some (.cells #[.int .i64 n, .int .i64 gen] 64 (0, 0)) := Array.getElem?_push_size
  have hb1 := (B1.block g hgl).trans hb
  have hU1 := Kd.R_below hU B1
  have hszle : w.heap.size < (w.alloc (.cells #[.int .i64 n, .int .i64 gen] 64)).heap.size := by rw [World.size_alloc]; omega
  unfold aliveF
  cases hh : hasB used n.toNat with
  | false =>
    rw [hh] at HHF
    go_enter Try.func43, Try.ntmps43
    go_wp2_with (fail)
    obtain ⟨wa, hwa⟩ : ∃ W, w.alloc (.cells #[.int .i64 n, .int .i64 gen] 64) = W := ⟨_, rfl⟩
    rw [hwa] at B1 hE hb1 hU1 hszle ⊢
    clear hb hR hU hF hi hh c0 c1 hwa
    obtain ⟨k, hk⟩ : ∃ k, w.heap.size = k := ⟨_, rfl⟩
    have HB1 := Aside0.mk B1
    rw [hk] at hE hszle ⊢
    have HU1 := Aside0.mk hU1
    have c1 := cell3_1 hb1
    have d0 := cell2_0 hE
    clear hE hb1 hU1 B1 hszle hk
    go_quiet ((go_at_call 28; (with_reducible refine (sets_Set_Has.calls Au cu used n false _ (Kd.R_reads' (by (with_reducible repeat (first | apply Kd.R_drewN | apply Kd.R_drew)); exact HU1.out)).2.2 (Kd.R_reads' HU1.out).2.1 HHF.out).mono ?_); rintro e w' ⟨rfl, ⟨nd, rfl⟩⟩; (try first | exact ⟨rfl, _, World.drewN_drewN _ _ _⟩ | exact ⟨rfl, _, Eq.trans (World.drewN_drewN _ _ _) (congrArg (World.drewN _) (Nat.add_assoc _ _ _))⟩)))
    go_wp2
    go_ret
    exact ⟨by simp, pw_below_drewN HB1.out _⟩
  | true =>
    rw [hh] at HHF
    obtain ⟨ad, rfl, hx⟩ := HRG.out n h0 (hi hh)
    have hx1 := (B1.cell (World.block_lt_of_cell? w _ hx)).trans hx
    have f1 := hi hh
    go_enter Try.func43, Try.ntmps43
    go_wp2_with (fail)
    obtain ⟨wa, hwa⟩ : ∃ W, w.alloc (.cells #[.int .i64 n, .int .i64 gen] 64) = W := ⟨_, rfl⟩
    rw [hwa] at B1 hE hb1 hU1 hszle hx1 ⊢
    clear hb hR hU hF hi hh c0 c1 hwa hx
    obtain ⟨k, hk⟩ : ∃ k, w.heap.size = k := ⟨_, rfl⟩
    have HB1 := Aside0.mk B1
    rw [hk] at hE hszle ⊢
    have HU1 := Aside0.mk hU1
    have c1 := cell3_1 hb1
    have c0 := cell3_0 hb1
    have d0 := cell2_0 hE
    have d1 := cell2_1 hE
    clear hE hb1 hU1 B1 hszle hk
    go_quiet ((go_at_call 28; (with_reducible refine (sets_Set_Has.calls Au cu used n true _ (Kd.R_reads' (by (with_reducible repeat (first | apply Kd.R_drewN | apply Kd.R_drew)); exact HU1.out)).2.2 (Kd.R_reads' HU1.out).2.1 HHF.out).mono ?_); rintro e w' ⟨rfl, ⟨nd, rfl⟩⟩; (try first | exact ⟨rfl, _, World.drewN_drewN _ _ _⟩ | exact ⟨rfl, _, Eq.trans (World.drewN_drewN _ _ _) (congrArg (World.drewN _) (Nat.add_assoc _ _ _))⟩)))
    go_wp2
    go_ret
    exact ⟨by simp, pw_below_drewN HB1.out _⟩
/-- what a call on slots leaves alone: all but the slots' block and rows of whole numbers -/
structure Fr (v0 W : World) (g : Nat) : Prop where
  size : v0.heap.size ≤ W.heap.size
  same : ∀ b cells t, v0.heap[b]? = some (.cells cells t (0, 0)) → t ≠ 3 → b ≠ g → W.heap[b]? = v0.heap[b]?
theorem Fr.refl (w : World) (g : Nat) : Fr w w g := ⟨Nat.le_refl _, fun _ _ _ _ _ _ => rfl⟩
theorem Fr.below {v0 W W' : World} {g : Nat} (h : Fr v0 W g) (hb : Below W.heap.size W W') : Fr v0 W' g :=
  ⟨Nat.le_trans h.size hb.size, fun b cells t h1 h2 h3 => (hb.block b (Nat.lt_of_lt_of_le (blk_lt h1) h.size)).trans (h.same b cells t h1 h2 h3)⟩
theorem Fr.setg {v0 W : World} {g : Nat} (h : Fr v0 W g) (j : Nat) (u : Value) : Fr v0 (W.setCell ⟨g, j, none⟩ u) g :=
  ⟨by rw [World.size_setCell]; exact h.size, fun b cells t h1 h2 h3 => (Below.heap_setCell _ ⟨g, j, none⟩ _ b h3).trans (h.same b cells t h1 h2 h3)⟩
theorem Fr.ne {v0 W : World} {g gb : Nat} (h : Fr v0 W g) {cs : Array Value} (hgb : W.heap[gb]? = some (.cells cs 3 (0, 0))) {b : Nat} {cells : Array Value} {t : TypeId} (h1 : v0.heap[b]? = some (.cells cells t (0, 0))) (h2 : t ≠ 3) (h3 : b ≠ g) : b ≠ gb := by
  rintro rfl
  have := (h.same b cells t h1 h2 h3).trans h1
  rw [hgb] at this
  injection this with this
  injection this with _ this
  exact h2 this.symm
theorem Fr.set3 {v0 W : World} {g gb : Nat} (h : Fr v0 W g) {cs : Array Value} (hgb : W.heap[gb]? = some (.cells cs 3 (0, 0))) (j : Nat) (u : Value) : Fr v0 (W.setCell ⟨gb, j, none⟩ u) g :=
  ⟨by rw [World.size_setCell]; exact h.size, fun b cells t h1 h2 h3 => (Below.heap_setCell _ ⟨gb, j, none⟩ _ b (h.ne hgb h1 h2 h3)).trans (h.same b cells t h1 h2 h3)⟩
theorem Fr.grown {v0 W W1 : World} {g base : Nat} {ok : Nat → Prop} {v : Value} {xs : List Int} (h : Fr v0 W g) (hR : Kd.R (Kd.int .i64) 3 W base ok v xs) (hg : W.grownBy W1 v.ownBlock) : Fr v0 W1 g :=
  ⟨Nat.le_trans h.size hg.size, fun b cells t h1 h2 h3 => (hg.block b (Nat.lt_of_lt_of_le (blk_lt h1) h.size) (fun e => by
    obtain ⟨inner, ho⟩ := Kd.R_own hR
    obtain ⟨cs, hc⟩ := own_typed ho b e.symm
    exact h.ne hc h1 h2 h3 rfl)).trans (h.same b cells t h1 h2 h3)⟩
theorem Fr.trans {v0 W W1 : World} {g : Nat} (h : Fr v0 W g) (h' : Fr W W1 g) : Fr v0 W1 g :=
  ⟨Nat.le_trans h.size h'.size, fun b cells t h1 h2 h3 => (h'.same b cells t ((h.same b cells t h1 h2 h3).trans h1) h2 h3).trans (h.same b cells t h1 h2 h3)⟩
theorem IsT.setu {w0 W : World} {g : Nat} {gens used free X : List Int} {v : Value} (h : IsT w0 W g gens used free) (hX : Kd.R (Kd.int .u64) 37 W w0.heap.size (fun _ => True) v X) : IsT w0 (W.setCell ⟨g, 1, none⟩ v) g gens X free := by
  obtain ⟨vg, vu, vf, h1, h2, h3, h4, h5⟩ := h
  exact ⟨vg, v, vf, by simpa using blk_set h1 1 v, h2, Kd.R_set h3 h1 (by decide) 1 _, Kd.R_set hX h1 (by decide) 1 _, Kd.R_set h5 h1 (by decide) 1 _⟩
theorem IsT.setf {w0 W : World} {g : Nat} {gens used free X : List Int} {v : Value} (h : IsT w0 W g gens used free) (hX : Kd.R (Kd.int .u64) 37 W w0.heap.size (fun _ => True) v X) : IsT w0 (W.setCell ⟨g, 2, none⟩ v) g gens used X := by
  obtain ⟨vg, vu, vf, h1, h2, h3, h4, h5⟩ := h
  exact ⟨vg, vu, v, by simpa using blk_set h1 2 v, h2, Kd.R_set h3 h1 (by decide) 2 _, Kd.R_set h4 h1 (by decide) 2 _, Kd.R_set hX h1 (by decide) 2 _⟩
/-- one number of a row of the call's own is written -/
theorem row_set {W : World} {base gb n c : Nat} {xs : List Int} (h : Kd.R (Kd.int .i64) 3 W base (fun _ => True) (.slice (some ⟨gb, 0, none⟩) n c) xs) (i : Nat) (hi : i < xs.length) (x : Int) :
    Kd.R (Kd.int .i64) 3 (W.setCell ⟨gb, i, none⟩ (.int .i64 x)) base (fun _ => True) (.slice (some ⟨gb, 0, none⟩) n c) (xs.set i x) ∧ W.grownBy (W.setCell ⟨gb, i, none⟩ (.int .i64 x)) (some gb) := by
  have hn := (Kd.R_reads' h).1
  obtain ⟨cs, hcl, hM, hcc, _⟩ := Kd.R_elem h 0 (i : Int) (by omega) (by omega)
  have h3 := Kd.R_seg h (i : Int) (by omega) (by omega) (j := 0) (seg := [.int .i64 x]) (x' := x) (okp := fun _ => False) hcl hcc (Nat.le_refl 1) (by
    have : cs.length = 1 := hcl
    have e : cs.take 0 ++ [.int .i64 x] ++ cs.drop (0 + [Value.int .i64 x].length) = [.int .i64 x] := by
      obtain ⟨a, rfl⟩ := List.length_eq_one_iff.1 this
      rfl
    rw [e]
    rfl) (fun _ hk => hk.elim)
  have e : ((i : Int).toNat * (Kd.int .i64).sz + 0) = i := by rw [Int.toNat_natCast]; exact Nat.mul_one i
  rw [e, Int.toNat_natCast] at h3
  exact h3
theorem IsT.seti {w0 W : World} {g gb n c : Nat} {gens used free : List Int} {A B : Value} (h : IsT w0 W g gens used free) (hb : W.heap[g]? = some (.cells #[.slice (some ⟨gb, 0, none⟩) n c, A, B] 94 (0, 0))) (i : Nat) (hi : i < gens.length) (x : Int) :
    IsT w0 (W.setCell ⟨gb, i, none⟩ (.int .i64 x)) g (gens.set i x) used free := by
  obtain ⟨vg, vu, vf, h1, h2, h3, h4, h5⟩ := h
  rw [hb] at h1
  injection h1 with h1
  injection h1 with h1
  simp only [Array.mk.injEq, List.cons.injEq, and_true] at h1
  obtain ⟨rfl, rfl, rfl⟩ := h1
  obtain ⟨h6, h7⟩ := row_set h3 i hi x
  exact ⟨_, _, _, blk_grown hb h7 (Kd.R_ne h3 hb (by decide)), h2, h6, Kd.R_mono (Kd.R_grown (Kd.R_apartR h4 h3 (by intro q hq; have : q = 37 := (by simpa [Kd.int, Kd.scalar] using hq); rw [this]; decide)) h7 (fun k hk => hk.2)) (fun _ _ => trivial), Kd.R_mono (Kd.R_grown (Kd.R_apartR h5 h3 (by intro q hq; have : q = 37 := (by simpa [Kd.int, Kd.scalar] using hq); rw [this]; decide)) h7 (fun k hk => hk.2)) (fun _ _ => trivial)⟩
theorem IsT.blk {w0 W : World} {g : Nat} {gens used free : List Int} (h : IsT w0 W g gens used free) (hl : 0 < gens.length) : ∃ gb c A B, W.heap[g]? = some (.cells #[.slice (some ⟨gb, 0, none⟩) gens.length c, A, B] 94 (0, 0)) ∧ w0.heap.size ≤ gb ∧ (∃ cs, W.heap[gb]? = some (.cells cs 3 (0, 0))) ∧
    (∀ i : Nat, i < gens.length → W.cell? ⟨gb, i, none⟩ = some (.int .i64 (rd gens i))) := by
  obtain ⟨vg, vu, vf, h1, h2, h3, h4, h5⟩ := h
  obtain ⟨gb, c, rfl, hb, _, cs, hcs⟩ := Kd.R_form h3 hl
  refine ⟨gb, c, vu, vf, h1, hb, ⟨cs, hcs⟩, fun i hi => ?_⟩
  obtain ⟨ad, e, hx⟩ := Kd.at_int (Kd.R_reads' h3).2.2 (i : Int) (by omega) (by omega)
  injection e with e
  subst e
  rw [Int.toNat_natCast, add_plain] at hx
  exact hx
end Go.Proofs.Ytknmlikjmnhgkaa.P
