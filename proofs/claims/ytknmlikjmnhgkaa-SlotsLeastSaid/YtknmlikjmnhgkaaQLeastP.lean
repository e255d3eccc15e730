/- SlotsLeast: the least slot, in plain Lean. No condition. -/
import Derived.Test.YtknmlikjmnhgkaaQSlotsO
import Derived.Test.YtknmlikjmnhgkaaQSlotsP
namespace Go.Proofs.Ytknmlikjmnhgkaa.P
open Go.RowKit Go.Shelf Go.Proofs.YtknmlikjmnhgkaaW.PrintWords Go.Proofs.YtknmlikjmnhgkaaW.PrintLast Go.Proofs.YtknmlikjmnhgkaaW.PrintMore Go.Proofs.Ytknmlikjmnhgkaa.Pure
set_option linter.unusedVariables false
/-- the head of a row whose least element is k -/
theorem nextN_is {gens F : List Int} (hF : GoodS F) (k : Nat) (hk : (k : Int) ∈ elems 0 F) (hl : ∀ x ∈ elems 0 F, (k : Int) ≤ x) : nextN gens F = k := by
  unfold nextN headOr
  have hs := elems_sorted F 0 hF.words
  cases he : elems 0 F with
  | nil => rw [he] at hk; cases hk
  | cons x r =>
    rw [he] at hk hl hs
    have h1 := hl x (List.mem_cons_self ..)
    have : x = (k : Int) := by
      rcases List.mem_cons.1 hk with h | h
      · exact h.symm
      · have := (List.pairwise_cons.1 hs).1 _ h
        omega
    show x.toNat = k
    omega
theorem nextN_none {gens F : List Int} (h : ∀ x, x ∉ elems 0 F) : nextN gens F = gens.length := by
  unfold nextN headOr
  cases he : elems 0 F with
  | nil => rfl
  | cons x r => exact absurd (by rw [he]; exact List.mem_cons_self ..) (h x)
theorem frees_mem {U l : List Int} (h : IsS U l) (G : Nat) (hG : G ≤ 256) (x : Int) : x ∈ elems 0 (freesF U G []) ↔ 0 ≤ x ∧ x < G ∧ x ∉ l := by
  obtain ⟨g1, g2⟩ := frees_is h G hG
  rw [elems_has g1]
  constructor
  · rintro ⟨a, b, c⟩
    exact ⟨a, (g2 x a b).1 c⟩
  · rintro ⟨a, b⟩
    exact ⟨a, by omega, (g2 x a (by omega)).2 b⟩
theorem sorted_nodup {l : List Int} (h : l.Pairwise (· < ·)) : l.Nodup := h.imp (fun h => by omega)
/-- the used ones behind it all: one more -/
theorem ents_len {U l : List Int} (h : IsS U l) (hs : l.Pairwise (· < ·)) (hr : ∀ x ∈ l, 0 ≤ x ∧ x < 4096) (k : Nat) (hk : k < 4096) (hn : (k : Int) ∉ l) : (elems 0 (uni (dif (uni U (oneL k)) (oneL k)) (oneL k))).length = l.length + 1 ∧ ∀ x ∈ elems 0 (uni (dif (uni U (oneL k)) (oneL k)) (oneL k)), x = k ∨ x ∈ l := by
  have hm : ∀ x : Int, x ∈ elems 0 (uni (dif (uni U (oneL k)) (oneL k)) (oneL k)) ↔ x ∈ (k : Int) :: l := fun x => by
    rw [elems_has (good_uni _ _), List.mem_cons]
    constructor
    · rintro ⟨a, b, c⟩
      by_cases e : x = (k : Int)
      · exact .inl e
      · rw [hasB_uni _ _ _ (by omega), hasB_dif _ _ _ (by omega), hasB_uni _ _ _ (by omega), hasB_one k (by omega) (by omega) _ (by omega), decide_eq_false (by omega)] at c
        exact .inr ((h.2 x a b).1 (by simpa using c))
    · rintro (e | e)
      · subst e
        refine ⟨by omega, by omega, ?_⟩
        rw [hasB_uni _ _ _ (by omega), hasB_one k (by omega) (by omega) _ (by omega)]
        simp
      · obtain ⟨a, b⟩ := hr x e
        refine ⟨a, b, ?_⟩
        have hne : x ≠ (k : Int) := fun e' => hn (e' ▸ e)
        rw [hasB_uni _ _ _ (by omega), hasB_dif _ _ _ (by omega), hasB_uni _ _ _ (by omega), hasB_one k (by omega) (by omega) _ (by omega), decide_eq_false (by omega), (h.2 x a b).2 e]
        rfl
  refine ⟨?_, fun x hx => List.mem_cons.1 ((hm x).1 hx)⟩
  have hp : List.Perm (elems 0 (uni (dif (uni U (oneL k)) (oneL k)) (oneL k))) ((k : Int) :: l) := by
    rw [List.perm_iff_count]
    intro a
    rw [(sorted_nodup (elems_sorted _ 0 (good_uni _ _).words)).count, (List.nodup_cons.2 ⟨hn, sorted_nodup hs⟩).count]
    simp only [hm a]
  rw [hp.length_eq, List.length_cons]
/-- the first slot that is free -/
theorem least_next {U l : List Int} (h : IsS U l) (G : Nat) (hG : G ≤ 256) (k : Nat) (hk : k ≤ G) (hlt : ∀ i : Nat, i < k → (i : Int) ∈ l) (hn : (k : Int) ∉ l) : nextN (List.replicate G 0) (freesF U G []) = k := by
  by_cases e : k < G
  · refine nextN_is (frees_is h G hG).1 k ((frees_mem h G hG _).2 ⟨by omega, by omega, hn⟩) (fun x hx => ?_)
    obtain ⟨a, b, c⟩ := (frees_mem h G hG x).1 hx
    by_cases hx2 : (k : Int) ≤ x
    · exact hx2
    · have := hlt x.toNat (by omega)
      rw [show ((x.toNat : Nat) : Int) = x by omega] at this
      exact absurd this c
  · rw [nextN_none (fun x hx => ?_), List.length_replicate]
    · omega
    · obtain ⟨a, b, c⟩ := (frees_mem h G hG x).1 hx
      have := hlt x.toNat (by omega)
      rw [show ((x.toNat : Nat) : Int) = x by omega] at this
      exact c this
/-- behind Take and Free it is the first again -/
theorem again_next {U l : List Int} (h : IsS U l) (G : Nat) (hG : G ≤ 256) (k : Nat) (hk : k ≤ G) (hk2 : k < 256) (hlt : ∀ i : Nat, i < k → (i : Int) ∈ l) (gens : List Int) : nextN gens (uni (dif (freesF U G []) (oneL k)) (oneL k)) = k := by
  refine nextN_is (good_uni _ _) k ((elems_has (good_uni _ _) _).2 ⟨by omega, by omega, by have := has_with (dif (freesF U G []) (oneL k)) k (by omega) (by omega); exact this⟩) (fun x hx => ?_)
  by_cases e : x = (k : Int)
  · omega
  · have h1 := has_other _ (k : Int) x (by omega) (by omega) hx e
    obtain ⟨x0, x1, _⟩ := (elems_has (good_uni _ _) x).1 hx
    rw [hasB_dif _ _ _ (by omega)] at h1
    have h2 : hasB (freesF U G []) x.toNat = true := by revert h1; cases hasB (freesF U G []) x.toNat <;> simp
    obtain ⟨a, b, c⟩ := (frees_mem h G hG x).1 ((elems_has (frees_is h G hG).1 x).2 ⟨x0, x1, h2⟩)
    by_cases hx2 : (k : Int) ≤ x
    · exact hx2
    · have := hlt x.toNat (by omega)
      rw [show ((x.toNat : Nat) : Int) = x by omega] at this
      exact absurd this c
theorem least_facts {l : List Int} (hs : l.Pairwise (· < ·)) (h0 : ∀ x ∈ l, 0 ≤ x) (k : Nat) (hk : k ≤ l.length) (hi : ∀ i : Nat, i < k → rd l (i : Int) = i) (hn : k < l.length → rd l (k : Int) ≠ k) : (∀ i : Nat, i < k → (i : Int) ∈ l) ∧ (k : Int) ∉ l := by
  have hg : ∀ i : Nat, ∀ h : i < l.length, rd l (i : Int) = l[i] := fun i h => by
    rw [rd_nat, List.getD_eq_getElem?_getD, List.getElem?_eq_getElem h]
    rfl
  refine ⟨fun i h => ?_, fun hm => ?_⟩
  · have h1 := hi i h
    rw [hg i (by omega)] at h1
    rw [← h1]
    exact List.getElem_mem (by omega)
  · obtain ⟨j, hj, e⟩ := List.getElem_of_mem hm
    by_cases h1 : j < k
    · have h2 := hi j h1
      rw [hg j hj, e] at h2
      omega
    · have hkl : k < l.length := by omega
      have h2 := hn hkl
      rw [hg k hkl] at h2
      have h3 : (k : Int) ≤ l[k] := by
        by_cases hz : k = 0
        · have := h0 _ (List.getElem_mem hkl)
          omega
        · have h4 := hi (k - 1) (by omega)
          rw [hg (k - 1) (by omega)] at h4
          have := List.pairwise_iff_getElem.1 hs (k - 1) k (by omega) hkl (by omega)
          omega
      by_cases hjk : j = k
      · subst hjk
        exact h2 e
      · have := List.pairwise_iff_getElem.1 hs k j hkl hj (by omega)
        omega
end Go.Proofs.Ytknmlikjmnhgkaa.P
