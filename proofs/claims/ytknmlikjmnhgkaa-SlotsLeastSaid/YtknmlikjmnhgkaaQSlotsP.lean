/- Package slots: what the laws say of it, in plain Lean. No condition. -/
import Derived.Test.YtknmlikjmnhgkaaQTakeT
namespace Go.Proofs.Ytknmlikjmnhgkaa.P
open Go.RowKit Go.Shelf Go.Proofs.YtknmlikjmnhgkaaW.PrintWords Go.Proofs.YtknmlikjmnhgkaaW.PrintLast Go.Proofs.YtknmlikjmnhgkaaW.PrintMore Go.Proofs.Ytknmlikjmnhgkaa.Pure
set_option linter.unusedVariables false

theorem rd_nat (l : List Int) (n : Nat) : rd l (n : Int) = l.getD n 0 := by unfold rd; rw [Int.toNat_natCast]
/-- between two steps -/
structure SI (i : Nat) (gens used free : List Int) (old : List S64) : Prop where
  gu : GoodS used
  gf : GoodS free
  len : gens.length ≤ i
  us : ∀ x ∈ elems 0 used, 0 ≤ x ∧ x < gens.length
  fr : ∀ x ∈ elems 0 free, 0 ≤ x ∧ x < gens.length
  dis : ∀ x ∈ elems 0 free, hasB used x.toNat = false
  gen : ∀ v ∈ gens, 0 ≤ v ∧ v ≤ i
  dead : ∀ e ∈ old, 0 ≤ e.f0 ∧ e.f0 < gens.length ∧ e.f1 < rd gens e.f0
  oldlen : old.length ≤ i
theorem SI.start : SI 0 [] [] [] [] := by
  refine ⟨goodS_nil, goodS_nil, Nat.le_refl _, fun x hx => ?_, fun x hx => ?_, fun x hx => ?_, fun v hv => absurd hv (by simp), fun e he => absurd he (by simp), Nat.le_refl _⟩ <;> exact absurd hx (by simp [elems])
theorem SI.gens_rd {i : Nat} {gens used free : List Int} {old : List S64} (h : SI i gens used free old) (n : Nat) (hn : n < gens.length) : 0 ≤ rd gens n ∧ rd gens n ≤ i := by
  rw [rd_nat, List.getD_eq_getElem?_getD, List.getElem?_eq_getElem hn]
  exact h.gen _ (List.getElem_mem hn)
theorem rd_set (gens : List Int) (n : Nat) (x : Int) (hn : n < gens.length) (k : Int) (hk : 0 ≤ k) : rd (gens.set n x) k = if k = n then x else rd gens k := by
  obtain ⟨k, rfl⟩ : ∃ q : Nat, k = q := ⟨k.toNat, by omega⟩
  rw [rd_nat, rd_nat, List.getD_eq_getElem?_getD, List.getD_eq_getElem?_getD, List.getElem?_set]
  by_cases e : n = k
  · subst e; simp [hn]
  · have e' : ¬ ((k : Int) = (n : Int)) := by omega
    simp [e, e']
/-- Free of an entity that exists -/
theorem SI.free {i : Nat} {gens used free : List Int} {old : List S64} (h : SI i gens used free old) (hi : i ≤ 200) (n : Nat) (hm : (n : Int) ∈ elems 0 used) :
    n < gens.length ∧ n < 4096 ∧ aliveF gens used n (rd gens n) = true ∧ 0 ≤ rd gens n ∧ rd gens n + 1 < 1073741824 ∧ aliveF (gens.set n (rd gens n + 1)) (dif used (oneL n)) n (rd gens n) = false ∧
    SI (i + 1) (gens.set n (rd gens n + 1)) (dif used (oneL n)) (uni free (oneL n)) (old ++ [⟨n, rd gens n⟩]) := by
  have hu := h.us _ hm
  have hn : n < gens.length := by omega
  have hl := h.len
  have h4 : n < 4096 := by omega
  have hh := ((elems_has h.gu n).1 hm).2.2
  rw [Int.toNat_natCast] at hh
  have hg := h.gens_rd n hn
  have hwo : hasB (dif used (oneL n)) n = false := by have := has_without used n (by omega) (by omega); rwa [Int.toNat_natCast] at this
  refine ⟨hn, h4, by unfold aliveF; rw [Int.toNat_natCast, hh]; simp, hg.1, by omega, by unfold aliveF; rw [Int.toNat_natCast, hwo]; rfl, good_dif _ _, good_uni _ _, by rw [List.length_set]; omega, fun x hx => ?_, fun x hx => ?_, fun x hx => ?_, fun v hv => ?_, fun e he => ?_, by rw [List.length_append]; have := h.oldlen; simp; omega⟩
  · rw [List.length_set]
    obtain ⟨x0, x1, xb⟩ := (elems_has (good_dif _ _) x).1 hx
    rw [hasB_dif _ _ _ (by omega)] at xb
    have : hasB used x.toNat = true := by revert xb; cases hasB used x.toNat <;> simp
    exact h.us x ((elems_has h.gu x).2 ⟨x0, x1, this⟩)
  · rw [List.length_set]
    obtain ⟨x0, x1, xb⟩ := (elems_has (good_uni _ _) x).1 hx
    by_cases e : x = n
    · subst e; omega
    · have := has_other free n x (by omega) (by omega) hx e
      exact h.fr x ((elems_has h.gf x).2 ⟨x0, x1, this⟩)
  · obtain ⟨x0, x1, xb⟩ := (elems_has (good_uni _ _) x).1 hx
    rw [hasB_dif _ _ _ (by omega)]
    by_cases e : x = n
    · subst e
      rw [hasB_one n (by omega) (by omega) _ (by omega)]
      simp
    · have := has_other free n x (by omega) (by omega) hx e
      rw [h.dis x ((elems_has h.gf x).2 ⟨x0, x1, this⟩)]
      rfl
  · rcases List.mem_or_eq_of_mem_set hv with hv | rfl
    · have := h.gen v hv; omega
    · omega
  · rw [List.length_set]
    rcases List.mem_append.1 he with he | he
    · have := h.dead e he
      rw [rd_set gens n _ hn _ this.1]
      split
      · rename_i e0
        rw [e0] at this
        omega
      · exact this
    · rw [List.mem_singleton.1 he]
      refine ⟨by show 0 ≤ (n : Int); omega, by show (n : Int) < gens.length; omega, ?_⟩
      rw [rd_set gens n _ hn _ (by show 0 ≤ (n : Int); omega)]
      show rd gens n < if (n : Int) = n then rd gens n + 1 else _
      rw [if_pos rfl]
      omega
/-- Take -/
theorem SI.take {i : Nat} {gens used free : List Int} {old : List S64} (h : SI i gens used free old) (hi : i < 200) (N : Nat) (G : List Int) (hN : nextN gens free = N) (hG : (if N = gens.length then gens ++ [0] else gens) = G) :
    N < 200 ∧ hasB used N = false ∧ N < G.length ∧ aliveF G (uni used (oneL N)) N (rd G N) = true ∧ SI (i + 1) G (uni used (oneL N)) (dif free (oneL N)) old := by
  have hl := h.len
  have hcase : (N = gens.length ∧ G = gens ++ [0]) ∨ ((N : Int) ∈ elems 0 free ∧ G = gens) := by
    by_cases e : N = gens.length
    · rw [if_pos e] at hG
      exact .inl ⟨e, hG.symm⟩
    · rw [if_neg e] at hG
      refine .inr ⟨?_, hG.symm⟩
      unfold nextN headOr at hN
      cases hel : elems 0 free with
      | nil => rw [hel] at hN; exact absurd hN.symm e
      | cons k q =>
        rw [hel] at hN
        have hN : k.toNat = N := hN
        have h0 := (h.fr k (by rw [hel]; exact List.mem_cons_self ..)).1
        have : (N : Int) = k := by omega
        rw [this]
        exact List.mem_cons_self ..
  have hN2 : N < 200 ∧ hasB used N = false ∧ N < G.length ∧ G.length ≤ i + 1 := by
    rcases hcase with ⟨e, rfl⟩ | ⟨e, rfl⟩
    · refine ⟨by omega, ?_, by simp; omega, by simp; omega⟩
      cases hb : hasB used N with
      | false => rfl
      | true =>
        have := (h.us N ((elems_has h.gu N).2 ⟨by omega, by omega, by rw [Int.toNat_natCast]; exact hb⟩)).2
        omega
    · have h1 := h.fr _ e
      have h2 := h.dis _ e
      rw [Int.toNat_natCast] at h2
      exact ⟨by omega, h2, by omega, by omega⟩
  obtain ⟨n1, n2, n3, n4⟩ := hN2
  have hGl : gens.length ≤ G.length := by rcases hcase with ⟨_, rfl⟩ | ⟨_, rfl⟩ <;> simp
  have hGr : ∀ k : Int, 0 ≤ k → k < gens.length → rd G k = rd gens k := by
    intro k h0 h1
    rcases hcase with ⟨_, rfl⟩ | ⟨_, rfl⟩
    · obtain ⟨k, rfl⟩ : ∃ q : Nat, k = q := ⟨k.toNat, by omega⟩
      rw [rd_nat, rd_nat, List.getD_eq_getElem?_getD, List.getD_eq_getElem?_getD, List.getElem?_append_left (by omega)]
    · rfl
  have hw := has_with used N (by omega) (by omega)
  rw [Int.toNat_natCast] at hw
  refine ⟨n1, n2, n3, by unfold aliveF; rw [Int.toNat_natCast, hw]; simp, good_uni _ _, good_dif _ _, n4, fun x hx => ?_, fun x hx => ?_, fun x hx => ?_, fun v hv => ?_, fun e he => ?_, by have := h.oldlen; omega⟩
  · obtain ⟨x0, x1, xb⟩ := (elems_has (good_uni _ _) x).1 hx
    by_cases e : x = N
    · subst e; omega
    · have := h.us x ((elems_has h.gu x).2 ⟨x0, x1, has_other used N x (by omega) (by omega) hx e⟩)
      omega
  · obtain ⟨x0, x1, xb⟩ := (elems_has (good_dif _ _) x).1 hx
    rw [hasB_dif _ _ _ (by omega)] at xb
    have : hasB free x.toNat = true := by revert xb; cases hasB free x.toNat <;> simp
    have := h.fr x ((elems_has h.gf x).2 ⟨x0, x1, this⟩)
    omega
  · obtain ⟨x0, x1, xb⟩ := (elems_has (good_dif _ _) x).1 hx
    rw [hasB_dif _ _ _ (by omega)] at xb
    have h1 : hasB free x.toNat = true := by revert xb; cases hasB free x.toNat <;> simp
    have h2 : hasB (oneL N) x.toNat = false := by revert xb; rw [h1]; cases hasB (oneL N) x.toNat <;> simp
    rw [hasB_uni _ _ _ (by omega), h2, h.dis x ((elems_has h.gf x).2 ⟨x0, x1, h1⟩)]
    rfl
  · rcases hcase with ⟨_, rfl⟩ | ⟨_, rfl⟩
    · rcases List.mem_append.1 hv with hv | hv
      · have := h.gen v hv; omega
      · rw [List.mem_singleton.1 hv]; omega
    · have := h.gen v hv; omega
  · have := h.dead e he
    rw [hGr _ this.1 this.2.1]
    omega
/-- who is dead is not alive -/
theorem SI.gone {i : Nat} {gens used free : List Int} {old : List S64} (h : SI i gens used free old) (e : S64) (he : e ∈ old) : aliveF gens used e.f0 e.f1 = false := by
  have := h.dead e he
  unfold aliveF
  have hne : (rd gens e.f0 == e.f1) = false := by simp; omega
  rw [hne, Bool.and_false]
end Go.Proofs.Ytknmlikjmnhgkaa.P
