/- What the printed function rnd.Order computes: a list that has each number below n once. Conditions: 0 <= n <= 1000, an odd step. -/
import Derived.Test.YtggfiacnkbcjbaaPAllx5
import Derived.Test.YtggfiacnkbcjbaaQRnd2
namespace Go.Proofs.Ytggfiacnkbcjbaa.QRnd
open Go Go.RowKit Go.Proofs.Ytggfiacnkbcjbaa.P Go.Proofs.YtggfiacnkbcjbaaW.PrintWords Go.Proofs.YtggfiacnkbcjbaaW.PrintLast Go.Proofs.YtggfiacnkbcjbaaW.PrintMore

theorem w64_in (x : Int) (h0 : -9223372036854775808 ≤ x) (h1 : x < 9223372036854775808) : wrap64 x = x := by unfold wrap64; omega
/-- the numbers below n -/
def upto (n : Nat) : List Int := (List.range n).map Int.ofNat
theorem upto_length (n : Nat) : (upto n).length = n := by simp [upto]
theorem order_swaps (g : Int) (hg : g % 2 = 1) (hg0 : 0 ≤ g) (i : Nat) : ∀ (l : List Int) (s : Int), i < l.length → l.length ≤ 1000 → 0 ≤ s → s < 18446744073709551616 →
    ∃ (K : Nat) (l' : List Int) (s' : Int), l'.Perm l ∧ ∀ k, K ≤ k → rnd_Order.l1 k l (i : Int) s g = some (l', s', g, 0) := by
  induction i with
  | zero =>
    intro l s _ _ _ _
    refine ⟨1, l, s, List.Perm.refl _, fun k hk => ?_⟩
    obtain ⟨k, rfl⟩ : ∃ m, k = m + 1 := ⟨k - 1, by omega⟩
    rw [rnd_Order.l1, if_neg (by omega)]
  | succ i ih =>
    intro l s hi hl h0 h1
    obtain ⟨K1, x, s1, x0, x1, _, ⟨s10, s11⟩, hb⟩ := below_takes ((i : Int) + 2) s g (by omega) (by omega) h0 h1 hg hg0
    have hx : x.toNat < l.length := by omega
    have r1 : rd l x = l[x.toNat] := by simp [rd, hx]
    have r2 : rd l ((i + 1 : Nat) : Int) = l[i + 1] := by simp [rd, hi]
    have p : ((l.set (i + 1) l[x.toNat]).set x.toNat l[i + 1]).Perm l := List.set_set_perm hi hx
    obtain ⟨K2, l', s', hp, hk2⟩ := ih ((l.set (i + 1) l[x.toNat]).set x.toNat l[i + 1]) s1 (by simp; omega) (by simpa using hl) s10 s11
    refine ⟨max K1 K2 + 1, l', s', hp.trans p, fun k hk => ?_⟩
    obtain ⟨k, rfl⟩ : ∃ m, k = m + 1 := ⟨k - 1, by omega⟩
    rw [rnd_Order.l1, if_pos (by omega), w64_in (((i + 1 : Nat) : Int) + 1) (by omega) (by omega), show ((i + 1 : Nat) : Int) + 1 = (i : Int) + 2 by omega, hb k (by omega), Option.bind_some]
    dsimp only
    rw [if_pos x0, if_pos (by omega), if_pos (by omega), if_pos (by omega), r1, r2, w64_in (((i + 1 : Nat) : Int) - 1) (by omega) (by omega), show ((i + 1 : Nat) : Int) - 1 = (i : Int) by omega, Int.toNat_natCast, hk2 k (by omega)]
theorem order_fill (n : Nat) (hn : n ≤ 1000) (s g : Int) (d : Nat) : ∀ (k i : Nat), i + d = n → d < k → ∃ k', k = k' + d + 1 ∧
    rnd_Order.l0 k (n : Int) (upto i ++ List.replicate d 0) (n : Int) (i : Int) s g = rnd_Order.l1 k' (upto n) ((n : Int) - 1) s g := by
  induction d with
  | zero =>
    intro k i hd hk
    obtain ⟨k, rfl⟩ : ∃ m, k = m + 1 := ⟨k - 1, by omega⟩
    refine ⟨k, rfl, ?_⟩
    obtain rfl : i = n := by omega
    rw [rnd_Order.l0, if_neg (by omega), List.replicate_zero, List.append_nil, w64_in ((i : Int) - 1) (by omega) (by omega)]
  | succ d ih =>
    intro k i hd hk
    obtain ⟨k, rfl⟩ : ∃ m, k = m + 1 := ⟨k - 1, by omega⟩
    obtain ⟨k', e, h⟩ := ih k (i + 1) (by omega) (by omega)
    refine ⟨k', by omega, ?_⟩
    have hlen := upto_length i
    rw [rnd_Order.l0, if_pos (by omega), if_pos (by omega), if_pos (by rw [List.length_append, hlen, List.length_replicate]; omega), w64_in ((i : Int) + 1) (by omega) (by omega)]
    have e1 : (upto i ++ List.replicate (d + 1) 0).set ((i : Int)).toNat (i : Int) = upto (i + 1) ++ List.replicate d 0 := by
      rw [Int.toNat_natCast, List.set_append_right _ _ (by omega), hlen, Nat.sub_self, List.replicate_succ, List.set_cons_zero]
      unfold upto
      rw [List.range_succ, List.map_append, List.append_assoc]
      rfl
    rw [e1]
    exact h
theorem order_f (n : Nat) (hn : n ≤ 1000) (s g : Int) (hg : g % 2 = 1) (hg0 : 0 ≤ g) (h0 : 0 ≤ s) (h1 : s < 18446744073709551616) :
    ∃ (K : Nat) (l : List Int) (s' : Int), l.Perm (upto n) ∧ ∀ k, K ≤ k → rnd_Order.f k s g (n : Int) = some (l, s', g, 0) := by
  have hodd : (Int.tmod g 2 == 0) = false := by rw [Int.tmod_eq_emod_of_nonneg hg0, hg]; rfl
  obtain ⟨K, l, s', hp, hk⟩ : ∃ (K : Nat) (l : List Int) (s' : Int), l.Perm (upto n) ∧ ∀ k, K ≤ k → rnd_Order.l1 k (upto n) ((n : Int) - 1) s g = some (l, s', g, 0) := by
    rcases Nat.eq_zero_or_pos n with h | h
    · subst h
      refine ⟨1, upto 0, s, List.Perm.refl _, fun k hk => ?_⟩
      obtain ⟨k, rfl⟩ : ∃ m, k = m + 1 := ⟨k - 1, by omega⟩
      rw [rnd_Order.l1, if_neg (by omega)]
    · obtain ⟨K, l, s', hp, hk⟩ := order_swaps g hg hg0 (n - 1) (upto n) s (by rw [upto_length]; omega) (by rw [upto_length]; omega) h0 h1
      exact ⟨K, l, s', hp, by rwa [show ((n - 1 : Nat) : Int) = (n : Int) - 1 by omega] at hk⟩
  refine ⟨K + n + 3, l, s', hp, fun k hk' => ?_⟩
  obtain ⟨k, rfl⟩ : ∃ m, k = m + 1 := ⟨k - 1, by omega⟩
  obtain ⟨k', e, h⟩ := order_fill n hn s g n k 0 (by omega) (by omega)
  have e0 : upto 0 ++ List.replicate n 0 = List.replicate n (0 : Int) := rfl
  unfold rnd_Order.f
  rw [if_neg (by omega), if_neg (by omega), hodd, rnd_Order.j0, if_neg (by decide), if_pos (by omega), if_pos (by omega), Option.bind_some, Int.toNat_natCast, List.length_replicate]
  rw [e0] at h
  exact h.trans (hk k' (by omega))
/-- sorted, such a list is the numbers in their order -/
theorem sorted_upto (n : Nat) (l : List Int) (hp : l.Perm (upto n)) : (l.mergeSort fun x y => decide (x ≤ y)) = upto n := by
  refine List.Perm.eq_of_pairwise (le := fun a b : Int => decide (a ≤ b) = true) ?_ ?_ ?_ ((List.mergeSort_perm l _).trans hp)
  · intro a b _ _ h1 h2
    have := of_decide_eq_true h1
    have := of_decide_eq_true h2
    omega
  · exact List.pairwise_mergeSort (fun a b c h1 h2 => by
      have := of_decide_eq_true h1
      have := of_decide_eq_true h2
      exact decide_eq_true (by omega)) (fun a b => by
      rcases Int.le_total a b with h | h
      · simp [h]
      · simp [h]) l
  · unfold upto
    rw [List.pairwise_map]
    refine List.pairwise_lt_range.imp (fun h => decide_eq_true ?_)
    exact Int.ofNat_le.2 (Nat.le_of_lt h)

end Go.Proofs.Ytggfiacnkbcjbaa.QRnd
