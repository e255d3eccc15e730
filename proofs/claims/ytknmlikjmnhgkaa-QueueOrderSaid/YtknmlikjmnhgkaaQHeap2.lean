/- A binary heap as a list: Put and Take keep the heap's order and the items; the first one comes out first. No condition. -/
import Derived.Test.YtknmlikjmnhgkaaQHeap
namespace Go.Proofs.Ytknmlikjmnhgkaa.P
set_option linter.unusedVariables false
section
variable {α : Type} [Inhabited α]
omit [Inhabited α] in
theorem ltI_iff (a b : It α) : ltI a b = true ↔ a.2.1 < b.2.1 ∨ (a.2.1 = b.2.1 ∧ a.2.2 < b.2.2) := by
  unfold ltI
  split
  · rename_i h; simp [h]
  · rename_i h; simp; omega
omit [Inhabited α] in
theorem ltI_not (a b : It α) : ltI a b = false ↔ b.2.1 < a.2.1 ∨ (b.2.1 = a.2.1 ∧ b.2.2 ≤ a.2.2) := by
  have h := ltI_iff a b
  constructor
  · intro h1
    rw [h1] at h
    simp at h
    omega
  · intro h1
    cases hc : ltI a b
    · rfl
    · rw [hc] at h
      simp at h
      omega
theorem at0_set {l : List (It α)} {i k : Nat} (x : It α) (hi : i < l.length) : at0 (l.set i x) k = if k = i then x else at0 l k := by
  unfold at0
  rw [List.getD_eq_getElem?_getD, List.getD_eq_getElem?_getD, List.getElem?_set]
  by_cases h : i = k
  · subst h
    simp [hi]
  · have h' : ¬ k = i := fun e => h e.symm
    simp [h, h']
theorem at0_swp {l : List (It α)} {i k j : Nat} (hi : i < l.length) (hk : k < l.length) : at0 (swp l i k) j = if j = k then at0 l i else if j = i then at0 l k else at0 l j := by
  unfold swp
  rw [at0_set _ (by rw [List.length_set]; exact hk)]
  by_cases h : j = k
  · rw [if_pos h, if_pos h]
  · rw [if_neg h, if_neg h, at0_set _ hi]
theorem at0_get {l : List (It α)} {i : Nat} (hi : i < l.length) : at0 l i = l[i] := by
  unfold at0
  rw [List.getD_eq_getElem?_getD, List.getElem?_eq_getElem hi]
  rfl
theorem swp_perm {l : List (It α)} {i k : Nat} (hi : i < l.length) (hk : k < l.length) : (swp l i k).Perm l := by
  unfold swp
  rw [at0_get hi, at0_get hk]
  exact List.set_set_perm hi hk
/-- no item comes out before its parent -/
def Heap (l : List (It α)) : Prop := ∀ k, 0 < k → k < l.length → ltI (at0 l k) (at0 l ((k - 1) / 2)) = false
theorem up_heap : ∀ (i : Nat) (l : List (It α)), i < l.length →
    (∀ k, 0 < k → k < l.length → k ≠ i → ltI (at0 l k) (at0 l ((k - 1) / 2)) = false) →
    (0 < i → ∀ k, 0 < k → k < l.length → (k - 1) / 2 = i → ltI (at0 l k) (at0 l ((i - 1) / 2)) = false) →
    Heap (up i l) ∧ (up i l).Perm l := by
  intro i
  induction i using Nat.strongRecOn with
  | ind i ih =>
    intro l hi h1 h2
    by_cases hc : 0 < i ∧ ltI (at0 l i) (at0 l ((i - 1) / 2)) = true
    · rw [up_step i l hc.1 hc.2]
      obtain ⟨p, hp⟩ : ∃ p, (i - 1) / 2 = p := ⟨_, rfl⟩
      rw [hp] at hc h2 ⊢
      have hpi : p < i := by omega
      have hs := fun j => at0_swp (j := j) hi (show p < l.length by omega)
      have := ih p hpi (swp l i p) (by rw [swp_length]; omega) (by
        intro k k0 kn kp
        rw [swp_length] at kn
        rw [hs k, hs ((k - 1) / 2), if_neg kp]
        have lt := (ltI_iff _ _).1 hc.2
        by_cases ki : k = i
        · subst ki
          rw [if_pos rfl, hp, if_pos rfl, ltI_not]
          omega
        · rw [if_neg ki]
          have q := (ltI_not _ _).1 (h1 k k0 kn ki)
          by_cases kp' : (k - 1) / 2 = p
          · rw [if_pos kp', ltI_not]
            rw [kp'] at q
            omega
          · rw [if_neg kp']
            by_cases ki' : (k - 1) / 2 = i
            · rw [if_pos ki']
              exact h2 (by omega) k k0 kn ki'
            · rw [if_neg ki']
              exact h1 k k0 kn ki) (by
        intro p0 k k0 kn kp
        rw [swp_length] at kn
        have hpp : (p - 1) / 2 ≠ p := by omega
        have hpi' : (p - 1) / 2 ≠ i := by omega
        rw [hs k, hs ((p - 1) / 2), if_neg hpp, if_neg hpi', if_neg (by omega)]
        have q0 := (ltI_not _ _).1 (h1 p p0 (by omega) (by omega))
        by_cases ki : k = i
        · rw [if_pos ki, ltI_not]
          omega
        · rw [if_neg ki, ltI_not]
          have q := (ltI_not _ _).1 (h1 k k0 kn ki)
          rw [kp] at q
          omega)
      exact ⟨this.1, this.2.trans (swp_perm hi (by omega))⟩
    · rw [up_stop i l hc]
      refine ⟨fun k k0 kn => ?_, List.Perm.refl _⟩
      by_cases ki : k = i
      · subst ki
        simpa [k0] using hc
      · exact h1 k k0 kn ki
theorem put_heap {l : List (It α)} (h : Heap l) (x : It α) : Heap (up l.length (l ++ [x])) ∧ (up l.length (l ++ [x])).Perm (x :: l) := by
  have e : ∀ k, k < l.length → at0 (l ++ [x]) k = at0 l k := by
    intro k hk
    unfold at0
    rw [List.getD_eq_getElem?_getD, List.getD_eq_getElem?_getD, List.getElem?_append_left hk]
  have := up_heap l.length (l ++ [x]) (by simp) (by
    intro k k0 kn ki
    have kl : k < l.length := by simp at kn; omega
    rw [e k kl, e _ (by omega)]
    exact h k k0 kl) (by
    intro _ k k0 kn kp
    simp at kn
    omega)
  exact ⟨this.1, this.2.trans (List.perm_append_comm.trans (List.Perm.refl _))⟩
theorem down_heap (n : Nat) : ∀ (d i : Nat) (l : List (It α)), n - i ≤ d → l.length = n → (i < n ∨ i = 0) →
    (∀ k, 0 < k → k < n → (k - 1) / 2 ≠ i → ltI (at0 l k) (at0 l ((k - 1) / 2)) = false) →
    (0 < i → ∀ k, 0 < k → k < n → (k - 1) / 2 = i → ltI (at0 l k) (at0 l ((i - 1) / 2)) = false) →
    Heap (down i n l) ∧ (down i n l).Perm l := by
  intro d
  induction d with
  | zero =>
    intro i l hd hl hi h1 h2
    have hk := kid_gt i n l
    rw [down_stop i n l (by omega)]
    exact ⟨fun k k0 kn => h1 k k0 (by omega) (by omega), List.Perm.refl _⟩
  | succ d ih =>
    intro i l hd hl hi h1 h2
    have hg := kid_gt i n l
    have hkc : (kid i n l = 2 * i + 2 ∧ 2 * i + 2 < n ∧ ltI (at0 l (2 * i + 2)) (at0 l (2 * i + 1)) = true) ∨ (kid i n l = 2 * i + 1 ∧ (2 * i + 2 < n → ltI (at0 l (2 * i + 2)) (at0 l (2 * i + 1)) = false)) := by
      unfold kid
      split
      · exact .inl ⟨rfl, by assumption⟩
      · rename_i hh
        exact .inr ⟨rfl, fun h => by simpa [h] using hh⟩
    -- the other child does not come out before the chosen one
    have hsib : ∀ k, 0 < k → k < n → (k - 1) / 2 = i → kid i n l < n ∧ ltI (at0 l k) (at0 l (kid i n l)) = false := by
      intro k k0 kn kp
      have : k = 2 * i + 1 ∨ k = 2 * i + 2 := by omega
      rcases hkc with ⟨e, e1, e2⟩ | ⟨e, e1⟩
      · rw [e]
        refine ⟨e1, ?_⟩
        rcases this with rfl | rfl
        · have := (ltI_iff _ _).1 e2
          rw [ltI_not]
          omega
        · rw [ltI_not]; omega
      · rw [e]
        refine ⟨by omega, ?_⟩
        rcases this with rfl | rfl
        · rw [ltI_not]; omega
        · exact e1 kn
    by_cases hc : kid i n l < n ∧ ltI (at0 l i) (at0 l (kid i n l)) = false
    · rw [down_step i n l hc]
      have hkp : (kid i n l - 1) / 2 = i := by rcases hkc with ⟨e, _⟩ | ⟨e, _⟩ <;> rw [e] <;> omega
      obtain ⟨q, hq⟩ : ∃ q, kid i n l = q := ⟨_, rfl⟩
      rw [hq] at hc hg hsib hkp ⊢
      have hil : i < l.length := by omega
      have hql : q < l.length := by omega
      have hs := fun j => at0_swp (j := j) hil hql
      have := ih q (swp l i q) (by omega) (by rw [swp_length]; exact hl) (.inl hc.1) (by
        intro k k0 kn kp
        rw [hs k, hs ((k - 1) / 2), if_neg kp]
        by_cases kp' : (k - 1) / 2 = i
        · rw [if_pos kp']
          by_cases kq : k = q
          · rw [if_pos kq]; exact hc.2
          · rw [if_neg kq, if_neg (by omega)]
            exact (hsib k k0 kn kp').2
        · rw [if_neg kp', if_neg (show ¬ k = q from fun e => kp' (by rw [e]; exact hkp))]
          by_cases ki : k = i
          · rw [if_pos ki]
            subst ki
            exact h2 k0 q (by omega) hc.1 hkp
          · rw [if_neg ki]
            exact h1 k k0 kn kp') (by
        intro q0 k k0 kn kp
        have hki : k ≠ i := by omega
        have hkq : k ≠ q := by omega
        rw [hs k, hs ((q - 1) / 2), if_neg hkq, if_neg hki, hkp, if_neg (by omega), if_pos rfl]
        have := h1 k k0 kn (by omega)
        rwa [kp] at this)
      exact ⟨this.1, this.2.trans (swp_perm hil hql)⟩
    · rw [down_stop i n l hc]
      refine ⟨fun k k0 kn => ?_, List.Perm.refl _⟩
      rw [hl] at kn
      by_cases kp : (k - 1) / 2 = i
      · obtain ⟨a, b⟩ := hsib k k0 kn kp
        have hlt : ltI (at0 l i) (at0 l (kid i n l)) = true := by simpa [a] using hc
        have q1 := (ltI_iff _ _).1 hlt
        have q2 := (ltI_not _ _).1 b
        rw [kp, ltI_not]
        omega
      · exact h1 k k0 kn kp
theorem heap_min {l : List (It α)} (h : Heap l) : ∀ k, k < l.length → ltI (at0 l k) (at0 l 0) = false := by
  intro k
  induction k using Nat.strongRecOn with
  | ind k ih =>
    intro hk
    by_cases k0 : k = 0
    · subst k0
      rw [ltI_not]; omega
    · have q1 := (ltI_not _ _).1 (h k (by omega) hk)
      have q2 := (ltI_not _ _).1 (ih ((k - 1) / 2) (by omega) (by omega))
      rw [ltI_not]
      omega
/-- what Take leaves -/
def rest (l : List (It α)) : List (It α) := down 0 (l.length - 1) ((l.set 0 (at0 l (l.length - 1))).take (l.length - 1))
theorem take_heap {l : List (It α)} (h : Heap l) (hl : 0 < l.length) : Heap (rest l) ∧ l.Perm (at0 l 0 :: rest l) ∧ ∀ x ∈ rest l, ltI x (at0 l 0) = false := by
  obtain ⟨m, hm⟩ : ∃ m, l.length = m + 1 := ⟨l.length - 1, by omega⟩
  unfold rest
  rw [hm, Nat.add_sub_cancel]
  have e : ∀ k, k < m → at0 ((l.set 0 (at0 l m)).take m) k = if k = 0 then at0 l m else at0 l k := by
    intro k hk
    rw [← at0_set (at0 l m) (show 0 < l.length from hl)]
    show (((l.set 0 (at0 l m)).take m)[k]?).getD (default, 0, 0) = ((l.set 0 (at0 l m))[k]?).getD (default, 0, 0)
    rw [List.getElem?_take, if_pos hk]
  have hlen : ((l.set 0 (at0 l m)).take m).length = m := by rw [List.length_take, List.length_set]; omega
  have := down_heap m m 0 ((l.set 0 (at0 l m)).take m) (by omega) hlen (.inr rfl) (by
    intro k k0 kn kp
    rw [e k kn, e _ (by omega), if_neg (by omega), if_neg kp]
    exact h k k0 (by omega)) (by omega)
  have hp : l.Perm (at0 l 0 :: (l.set 0 (at0 l m)).take m) := by
    cases l with
    | nil => simp at hl
    | cons a t =>
      rw [List.set_cons_zero]
      have ha : at0 (a :: t) 0 = a := rfl
      rw [ha]
      refine List.Perm.cons a ?_
      have ht : t.length = m := by simpa using hm
      cases m with
      | zero =>
        have : t = [] := List.eq_nil_of_length_eq_zero ht
        subst this
        simp
      | succ m =>
        rw [List.take_succ_cons]
        have hx : at0 (a :: t) (m + 1) = t[m] := by rw [at0_get (by simp; omega)]; rfl
        rw [hx]
        have : t = t.take m ++ [t[m]] := by
          rw [← List.take_succ_eq_append_getElem (by omega), List.take_of_length_le (by omega)]
        calc t = t.take m ++ [t[m]] := this
          List.Perm _ (t[m] :: t.take m) := List.perm_append_comm.trans (List.Perm.refl _)
  have hp2 : l.Perm (at0 l 0 :: down 0 m ((l.set 0 (at0 l m)).take m)) := hp.trans (List.Perm.cons _ this.2.symm)
  refine ⟨this.1, hp2, fun x hx => ?_⟩
  have hxl : x ∈ l := hp2.mem_iff.2 (List.mem_cons_of_mem _ hx)
  obtain ⟨k, hk, rfl⟩ := List.mem_iff_getElem.1 hxl
  rw [← at0_get hk]
  exact heap_min h k hk
end
end Go.Proofs.Ytknmlikjmnhgkaa.P
