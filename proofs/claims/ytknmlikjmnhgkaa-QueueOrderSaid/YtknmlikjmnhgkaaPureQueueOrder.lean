/- QueueOrder: sorting gives each place once, in order; sorting what is sorted changes nothing. No condition. -/
import Derived.Test.YtknmlikjmnhgkaaPAllx3
namespace Go.Proofs.Ytknmlikjmnhgkaa.Pure
open Go.RowKit Go.Proofs.Ytknmlikjmnhgkaa.P Go.Proofs.YtknmlikjmnhgkaaW.PrintWords Go.Proofs.YtknmlikjmnhgkaaW.PrintLast
set_option linter.unusedVariables false

theorem rd_get (l : List Int) (i : Nat) (h : i < l.length) : rd l (i : Int) = l[i] := by
  unfold rd
  rw [Int.toNat_natCast, List.getD_eq_getElem?_getD, List.getElem?_eq_getElem h]
  rfl
theorem pw_rd {R : Int → Int → Prop} {l : List Int} (h : l.Pairwise R) (a b : Nat) (hab : a < b) (hb : b < l.length) : R (rd l a) (rd l b) := by
  rw [rd_get l a (by omega), rd_get l b hb]
  exact List.pairwise_iff_getElem.1 h a b (by omega) hb hab
theorem mem_rd (l : List Int) (i : Nat) (h : i < l.length) : rd l (i : Int) ∈ l := by
  rw [rd_get l i h]
  exact List.getElem_mem h
/-- increasing numbers below n, n of them: each is its place -/
theorem places {y : List Int} {n : Nat} (hl : y.length = n) (hm : ∀ v ∈ y, 0 ≤ v ∧ v < (n : Int)) (hi : ∀ a b : Nat, a < b → b < n → rd y a < rd y b) : ∀ i : Nat, i < n → rd y (i : Int) = i := by
  have h1 : ∀ i : Nat, i < n → (i : Int) ≤ rd y i := by
    intro i
    induction i with
    | zero => intro h; exact (hm _ (mem_rd y 0 (by omega))).1
    | succ i ih => intro h; have := ih (by omega); have := hi i (i + 1) (by omega) h; omega
  have h2 : ∀ d i : Nat, i + d + 1 = n → rd y (i : Int) ≤ i := by
    intro d
    induction d with
    | zero => intro i h; have := (hm _ (mem_rd y i (by omega))).2; omega
    | succ d ih => intro i h; have := ih (i + 1) (by omega); have := hi i (i + 1) (by omega) (by omega); omega
  intro i h
  have := h1 i h
  have := h2 (n - 1 - i) i (by omega)
  omega
theorem sort21 : sortI [2, 1] = [1, 0] := by
  obtain ⟨h1, h2, h3⟩ := sortI_spec [2, 1]
  match hs : sortI [2, 1], h1, h2, h3 with
  | [a, b], _, h2, h3 =>
    have ha := h2 a (by simp)
    have hb := h2 b (by simp)
    have ho := (List.pairwise_cons.1 h3).1 b (by simp)
    have e2 : (([2, 1] : List Int).length : Int) = 2 := rfl
    rw [e2] at ha hb
    have ca : a = 0 ∨ a = 1 := by omega
    have cb : b = 0 ∨ b = 1 := by omega
    have r0 : rd [2, 1] 0 = 2 := rfl
    have r1 : rd [2, 1] 1 = 1 := rfl
    unfold P.Ord at ho
    rcases ca with rfl | rfl <;> rcases cb with rfl | rfl <;> simp only [r0, r1] at ho <;> first | rfl | omega
theorem eq10 (k : Nat) : slices_Equal_int_int.f (k + 3) [1, 0] [1, 0] = some true := by
  simp [slices_Equal_int_int.f, slices_Equal_int_int.l0, wrap64]
theorem less_f (a b : Int) : cmp_Less_int.f a b = some (decide (a < b)) := by
  simp [cmp_Less_int.f, cmp_isNaN_int.f]
theorem sorted_f {s : List Int} (hl : s.length ≤ 4096) (hs : ∀ a b : Nat, a < b → b < s.length → rd s a ≤ rd s b) : ∀ (i k : Nat), i < s.length → i < k → slices_IsSorted_int_int.l0 k s (i : Int) = some true := by
  intro i
  induction i with
  | zero =>
    intro k h hk
    obtain ⟨k, rfl⟩ : ∃ q, k = q + 1 := ⟨k - 1, by omega⟩
    simp [slices_IsSorted_int_int.l0]
  | succ i ih =>
    intro k h hk
    obtain ⟨k, rfl⟩ : ∃ q, k = q + 1 := ⟨k - 1, by omega⟩
    have e1 : wrap64 (((i + 1 : Nat) : Int) - 1) = (i : Int) := by unfold wrap64; omega
    have := hs i (i + 1) (by omega) h
    rw [slices_IsSorted_int_int.l0, e1, less_f, Option.bind_some, decide_eq_false (by omega)]
    rw [if_pos (by omega), if_pos (by omega), if_pos (by omega), if_pos (by omega), if_pos (by omega), if_neg (by decide)]
    exact ih k (by omega) (by omega)
theorem sortedF {s : List Int} (hl : s.length ≤ 4096) (hs : ∀ a b : Nat, a < b → b < s.length → rd s a ≤ rd s b) (k : Nat) (hk : 4097 ≤ k) : slices_IsSorted_int_int.f k s = some true := by
  unfold slices_IsSorted_int_int.f
  by_cases h0 : s.length = 0
  · obtain ⟨k, rfl⟩ : ∃ q, k = q + 1 := ⟨k - 1, by omega⟩
    rw [h0, show wrap64 (((0 : Nat) : Int) - 1) = -1 from by unfold wrap64; omega, slices_IsSorted_int_int.l0, if_neg (by decide)]
  · rw [show wrap64 ((s.length : Int) - 1) = ((s.length - 1 : Nat) : Int) from by unfold wrap64; omega]
    exact sorted_f hl hs _ _ (by omega) (by omega)
theorem sort_f {z : List Int} (h : z.length ≤ 4096) : queue_Sort.f z = some (sortI z, 0) := by
  unfold queue_Sort.f
  rw [if_pos h]
/-- the last loop -/
theorem l1_f {z x s y : List Int} (hl : z.length ≤ 4096) (hs : s.length = z.length) (hsi : ∀ a b : Nat, a < b → b < s.length → rd s a ≤ rd s b) (hy : y.length = z.length) (hp : ∀ i : Nat, i < y.length → rd y (i : Int) = i) :
    ∀ (d i k : Nat), i + d = y.length → d + 4098 ≤ k → tourkeep1_QueueOrder.l1 k z 0 s y (y.length : Int) (i : Int) = some true := by
  intro d
  induction d with
  | zero =>
    intro i k h hk
    obtain ⟨k, rfl⟩ : ∃ q, k = q + 1 := ⟨k - 1, by omega⟩
    rw [tourkeep1_QueueOrder.l1, if_neg (by omega), if_pos rfl, if_pos (by omega), sortedF (by omega) hsi k (by omega)]
    rfl
  | succ d ih =>
    intro i k h hk
    obtain ⟨k, rfl⟩ : ∃ q, k = q + 1 := ⟨k - 1, by omega⟩
    rw [tourkeep1_QueueOrder.l1, if_pos (by omega), if_pos (by omega), if_pos (by omega), if_pos (hp i (by omega)).symm, show wrap64 ((i : Int) + 1) = ((i + 1 : Nat) : Int) from by unfold wrap64; omega]
    exact ih (i + 1) k (by omega) (by omega)
theorem l0_f {z : List Int} (hl : z.length ≤ 300) :
    ∀ (d i k : Nat) (seen : List Bool), i + d = (sortI z).length → d + 5000 ≤ k → seen.length = z.length → (∀ v : Nat, v < z.length → rdOf false seen (v : Int) = decide ((v : Int) ∈ (sortI z).take i)) →
      tourkeep1_QueueOrder.l0 k z (sortI z) seen (((sortI z).take i).map (rd z)) ((sortI z).length : Int) (i : Int) = some true := by
  obtain ⟨h1, h2, h3⟩ := sortI_spec z
  intro d
  induction d with
  | zero =>
    intro i k seen h hk hsl hse
    obtain ⟨k, rfl⟩ : ∃ q, k = q + 1 := ⟨k - 1, by omega⟩
    rw [List.take_of_length_le (by omega)]
    obtain ⟨s, hs⟩ : ∃ s, (sortI z).map (rd z) = s := ⟨_, rfl⟩
    have hsl : s.length = z.length := by rw [← hs, List.length_map, h1]
    have hr : ∀ a : Nat, a < s.length → rd s (a : Int) = rd z (rd (sortI z) a) := by
      intro a ha
      rw [rd_get s a ha]
      have : s[a] = ((sortI z).map (rd z))[a]'(by rw [hs]; exact ha) := by simp only [hs]
      rw [this, List.getElem_map, rd_get (sortI z) a (by omega)]
    have hsi : ∀ a b : Nat, a < b → b < s.length → rd s a ≤ rd s b := by
      intro a b hab hb
      rw [hr a (by omega), hr b hb]
      have := pw_rd h3 a b hab (by omega)
      unfold P.Ord at this
      omega
    rw [hs, tourkeep1_QueueOrder.l0, if_neg (by omega), sort_f (by omega), Option.bind_some]
    show tourkeep1_QueueOrder.l1 k z 0 s (sortI s) ((sortI s).length : Int) 0 = some true
    obtain ⟨g1, g2, g3⟩ := sortI_spec s
    refine l1_f (x := []) (by omega) hsl hsi (by omega) (fun i hi => places (n := z.length) (by omega) (fun v hv => by have := g2 v hv; omega) (fun a b hab hb => ?_) i (by omega)) (sortI s).length 0 k (by omega) (by omega)
    have := pw_rd g3 a b hab (by omega)
    unfold P.Ord at this
    have ma := g2 _ (mem_rd (sortI s) a (by omega))
    have mb := g2 _ (mem_rd (sortI s) b (by omega))
    rcases Int.lt_trichotomy (rd (sortI s) a) (rd (sortI s) b) with hlt | he | hgt
    · exact hlt
    · rw [he] at this; omega
    · have := hsi (rd (sortI s) b).toNat (rd (sortI s) a).toNat (by omega) (by omega)
      rw [Int.toNat_of_nonneg ma.1, Int.toNat_of_nonneg mb.1] at this
      omega
  | succ d ih =>
    intro i k seen h hk hsl hse
    obtain ⟨k, rfl⟩ : ∃ q, k = q + 1 := ⟨k - 1, by omega⟩
    obtain ⟨v, hv⟩ : ∃ v : Nat, rd (sortI z) i = (v : Int) := ⟨(rd (sortI z) i).toNat, by have := h2 _ (mem_rd (sortI z) i (by omega)); omega⟩
    have hm := h2 _ (mem_rd (sortI z) i (by omega))
    rw [hv] at hm
    have hnew : (v : Int) ∉ (sortI z).take i := by
      intro hin
      obtain ⟨a, ha, e⟩ := List.mem_iff_getElem.1 hin
      rw [List.length_take] at ha
      have := pw_rd h3 a i (by omega) (by omega)
      rw [rd_get (sortI z) a (by omega), hv] at this
      rw [List.getElem_take] at e
      rw [e] at this
      unfold P.Ord at this
      omega
    have htake : (sortI z).take (i + 1) = (sortI z).take i ++ [(v : Int)] := by
      rw [List.take_succ_eq_append_getElem (by omega), ← rd_get (sortI z) i (by omega), hv]
    rw [tourkeep1_QueueOrder.l0, hv, if_pos (by omega), if_pos (by omega), if_pos (by omega), if_neg (by omega), if_neg (by omega), if_pos (by omega), if_pos (by omega), hse v (by omega), decide_eq_false hnew, if_neg (by decide), if_pos (by omega), if_pos (by rw [List.length_map, List.length_take]; omega),
      show wrap64 ((i : Int) + 1) = ((i + 1 : Nat) : Int) from by unfold wrap64; omega]
    have := ih (i + 1) k (seen.set v true) (by omega) (by omega) (by rw [List.length_set]; exact hsl) (by
      intro u hu
      rw [htake]
      have hs : rdOf false (seen.set v true) (u : Int) = if u = v then true else rdOf false seen (u : Int) := by
        unfold rdOf
        rw [Int.toNat_natCast, List.getD_eq_getElem?_getD, List.getD_eq_getElem?_getD, List.getElem?_set]
        by_cases e : v = u
        · subst e
          simp [show v < seen.length from by omega]
        · have e' : ¬ u = v := fun q => e q.symm
          simp [e, e']
      rw [hs, hse u hu]
      by_cases e : u = v
      · subst e; simp
      · have : ¬ ((u : Int) = (v : Int)) := by omega
        simp [e, this])
    rw [htake, List.map_append] at this
    exact this
theorem QueueOrder : tourkeep1_QueueOrder.Pure := by
  intro l0 hm0 _ _
  refine ⟨10003, ?_⟩
  obtain ⟨m, hm⟩ : ∃ m : Nat, m = min 300 l0.length := ⟨_, rfl⟩
  have hmn : mn (l0.length : Int) 300 = (m : Int) := by unfold mn; split <;> omega
  unfold tourkeep1_QueueOrder.f
  rw [sort_f (show ([2, 1] : List Int).length ≤ 4096 by decide), Option.bind_some, if_pos rfl, sort21, eq10 10000, Option.bind_some]
  rw [tourkeep1_QueueOrder.j0, if_neg (by decide), hmn, if_pos (by omega), if_pos (by omega), Int.toNat_natCast]
  obtain ⟨z, hz⟩ : ∃ z, l0.take m = z := ⟨_, rfl⟩
  have hzl : z.length = m := by rw [← hz, List.length_take]; omega
  rw [hz, sort_f (by omega), Option.bind_some, if_pos rfl]
  obtain ⟨h1, h2, h3⟩ := sortI_spec z
  show tourkeep1_QueueOrder.j1 10002 z (sortI z) (((sortI z).length : Int) != (z.length : Int)) = some true
  rw [tourkeep1_QueueOrder.j1, show (((sortI z).length : Int) != (z.length : Int)) = false from by rw [h1]; simp, if_neg (by decide), if_pos (by omega), Int.toNat_natCast, if_pos (by omega)]
  exact l0_f (by omega) (sortI z).length 0 _ _ (by omega) (by omega) (by simp) (by
    intro v hv
    unfold rdOf
    simp [List.getD_eq_getElem?_getD, hv])
end Go.Proofs.Ytknmlikjmnhgkaa.Pure
