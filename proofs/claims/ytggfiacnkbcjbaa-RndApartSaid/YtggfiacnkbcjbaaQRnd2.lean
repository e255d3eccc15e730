/- Facts about the printed functions rnd.Of and rnd.Below: what they return, and that a stream comes to a number that rnd.Below takes within one period. No condition. -/
import Derived.Test.YtggfiacnkbcjbaaPAllx4
import Derived.Test.YtggfiacnkbcjbaaPAllx2
import Derived.Test.YtggfiacnkbcjbaaQRnd
namespace Go.Proofs.Ytggfiacnkbcjbaa.QRnd
open Go Go.RowKit Go.Proofs.Ytggfiacnkbcjbaa.P Go.Proofs.YtggfiacnkbcjbaaW.PrintWords Go.Proofs.YtggfiacnkbcjbaaW.PrintLast

def ofStep (s n : Int) : Int := Go.bits .xor .u64 (mixI ((s + 11400714819323198485) % 18446744073709551616)) (n % 18446744073709551616)
def ofEnd (s : Int) : Int × Int := (mixI ((s + 11400714819323198485) % 18446744073709551616), Go.bits .or .u64 (mixI ((mixI ((s + 11400714819323198485) % 18446744073709551616) + 11400714819323198485) % 18446744073709551616)) 1)

theorem of_loop (l : List Int) (hl : l.length * 8 ≤ 281474976710656) (d : Nat) : ∀ (k : Nat) (s i : Int), 0 ≤ i → (l.length : Int) - i = d → d < k →
    rnd_Of.l0 k s l (l.length : Int) i = some (ofEnd ((l.drop i.toNat).foldl ofStep s)) := by
  induction d with
  | zero =>
    intro k s i h0 hd hk
    obtain ⟨k, rfl⟩ : ∃ m, k = m + 1 := ⟨k - 1, by omega⟩
    simp only [rnd_Of.l0]
    rw [if_neg (by omega), List.drop_eq_nil_of_le (by omega)]
    simp only [IntKind.wrap_u64, mix_f, Option.bind_some, List.foldl_nil]
    rfl
  | succ d ih =>
    intro k s i h0 hd hk
    obtain ⟨k, rfl⟩ : ∃ m, k = m + 1 := ⟨k - 1, by omega⟩
    have hlt : i.toNat < l.length := by omega
    simp only [rnd_Of.l0]
    rw [if_pos (by omega), if_pos h0, if_pos (by omega)]
    simp only [IntKind.wrap_u64, mix_f, Option.bind_some]
    have hw : wrap64 (i + 1) = i + 1 := by unfold wrap64; omega
    rw [hw, ih k _ (i + 1) (by omega) (by omega) (by omega)]
    have e1 : (i + 1).toNat = i.toNat + 1 := by omega
    have e2 : l.drop i.toNat = l[i.toNat] :: l.drop (i.toNat + 1) := List.drop_eq_getElem_cons hlt
    have e3 : rd l i = l[i.toNat] := by simp [rd, hlt]
    rw [e1, e2, List.foldl_cons, e3]
    rfl
theorem of_f (l : List Int) (hl : l.length * 8 ≤ 281474976710656) (k : Nat) (hk : l.length < k) : rnd_Of.f k l = some (ofEnd (l.foldl ofStep (l.length : Int))) := by
  unfold rnd_Of.f
  rw [of_loop l hl l.length k _ 0 (by omega) (by omega) hk]
  rw [IntKind.wrap_u64]
  have : (l.length : Int) % 18446744073709551616 = l.length := by omega
  rw [this]; rfl
theorem ofEnd_range (s : Int) : 0 ≤ (ofEnd s).1 ∧ (ofEnd s).1 < 18446744073709551616 ∧ 0 ≤ (ofEnd s).2 ∧ (ofEnd s).2 < 18446744073709551616 ∧ (ofEnd s).2 % 2 = 1 :=
  by unfold ofEnd; exact ⟨(mixI_range _).1, (mixI_range _).2, (bits_range .or _ _).1, (bits_range .or _ _).2, or_one _⟩

/-! an odd number has an inverse modulo 2^64 -/
theorem newton (M g : Int) (h : ∃ u t, g * u = 1 + M * t) : ∃ u t, g * u = 1 + (M * M) * t := by
  obtain ⟨u, t, h⟩ := h
  refine ⟨u * (2 - g * u), -(t * t), ?_⟩
  have e : g * (u * (2 - g * u)) = (g * u) * (2 - g * u) := by grind
  rw [e, h]; grind
theorem odd_inverse (g : Int) (hg : g % 2 = 1) : ∃ u r : Int, g * u = 1 + 18446744073709551616 * r := by
  obtain ⟨h, rfl⟩ : ∃ h, g = 2 * h + 1 := ⟨g / 2, by omega⟩
  obtain ⟨m, hm⟩ : ∃ m, h * (h + 1) = 2 * m := by
    rcases Int.emod_two_eq h with e | e
    · obtain ⟨q, rfl⟩ : ∃ q, h = 2 * q := ⟨h / 2, by omega⟩
      exact ⟨q * (2 * q + 1), by grind⟩
    · obtain ⟨q, rfl⟩ : ∃ q, h = 2 * q + 1 := ⟨h / 2, by omega⟩
      exact ⟨(2 * q + 1) * (q + 1), by grind⟩
  have h0 : (2 * h + 1) * (2 * h + 1) = 1 + 8 * m := by grind
  obtain ⟨u, t, h⟩ := newton _ _ (newton _ _ (newton _ _ (newton _ _ (newton 8 _ ⟨_, _, h0⟩))))
  exact ⟨u, 4294967296 * t, by rw [h]; omega⟩

theorem below_loop (n rest g : Int) (hn : 0 < n) (hr0 : 0 ≤ rest) (hr : rest < 18446744073709551616) (j : Nat) : ∀ (s : Int), mixI ((s + ((j : Int) + 1) * g) % 18446744073709551616) ≤ 18446744073709551615 - rest →
    ∃ i : Nat, i ≤ j ∧ ∀ k, j + 1 ≤ k → rnd_Below.l0 k n rest s g = some (wrap64 (Int.tmod (mixI ((s + ((i : Int) + 1) * g) % 18446744073709551616)) n), (s + ((i : Int) + 1) * g) % 18446744073709551616, g, 0) := by
  have hB : IntKind.u64.wrap (18446744073709551615 - rest) = 18446744073709551615 - rest := by rw [IntKind.wrap_u64]; omega
  induction j with
  | zero =>
    intro s h
    refine ⟨0, Nat.le_refl _, fun k hk => ?_⟩
    obtain ⟨k, rfl⟩ : ∃ m, k = m + 1 := ⟨k - 1, by omega⟩
    simp only [rnd_Below.l0]
    have e : (s + (((0 : Nat) : Int) + 1) * g) = s + g := by grind
    rw [e] at h ⊢
    rw [next_f]
    simp only [Option.bind_some, hB]
    unfold nx
    rw [if_pos h, if_neg (by omega)]
  | succ j ih =>
    intro s h
    by_cases h0 : mixI (nx s g) ≤ 18446744073709551615 - rest
    · refine ⟨0, by omega, fun k hk => ?_⟩
      obtain ⟨k, rfl⟩ : ∃ m, k = m + 1 := ⟨k - 1, by omega⟩
      simp only [rnd_Below.l0]
      have e : (s + (((0 : Nat) : Int) + 1) * g) = s + g := by grind
      rw [e]
      rw [next_f]
      simp only [Option.bind_some, hB]
      rw [if_pos h0, if_neg (by omega)]
      rfl
    · have sh : ∀ c : Int, (nx s g + c * g) % 18446744073709551616 = (s + (c + 1) * g) % 18446744073709551616 := by
        intro c
        unfold nx
        rw [Int.emod_add_emod]
        congr 1; grind
      have h' := h
      rw [show ((j + 1 : Nat) : Int) = (j : Int) + 1 from rfl, ← sh] at h'
      obtain ⟨i, hi, hk⟩ := ih (nx s g) h'
      refine ⟨i + 1, by omega, fun k hkk => ?_⟩
      obtain ⟨k, rfl⟩ : ∃ m, k = m + 1 := ⟨k - 1, by omega⟩
      simp only [rnd_Below.l0]
      rw [next_f]
      simp only [Option.bind_some, hB]
      rw [if_neg h0, hk k (by omega), sh]
      rfl

theorem below_takes (n s g : Int) (hn : 0 < n) (hn2 : n ≤ 4611686018427387904) (hs0 : 0 ≤ s) (hs : s < 18446744073709551616) (hg : g % 2 = 1) (hg0 : 0 ≤ g) :
    ∃ (K : Nat) (x s' : Int), 0 ≤ x ∧ x < n ∧ s' ≠ s ∧ (0 ≤ s' ∧ s' < 18446744073709551616) ∧ ∀ k, K ≤ k → rnd_Below.f k s g n = some (x, s', g, 0) := by
  obtain ⟨u, r, hu⟩ := odd_inverse g hg
  -- a state that is taken
  obtain ⟨t, ht, ht0, ht1, htm⟩ : ∃ t : Int, t ≠ s ∧ 0 ≤ t ∧ t < 18446744073709551616 ∧ mixI t ≤ 13835058055282163711 := by
    by_cases h : s = 0
    · exact ⟨1, by omega, by omega, by omega, by decide +kernel⟩
    · exact ⟨0, by omega, by omega, by omega, by decide +kernel⟩
  have hj0 := Int.emod_nonneg ((t - s) * u) (show (18446744073709551616 : Int) ≠ 0 by omega)
  have hj1 := Int.emod_lt_of_pos ((t - s) * u) (show (0 : Int) < 18446744073709551616 by omega)
  have hq := Int.mul_ediv_add_emod ((t - s) * u) 18446744073709551616
  generalize hJ : ((t - s) * u) % 18446744073709551616 = J at *
  generalize ((t - s) * u) / 18446744073709551616 = q at *
  have hJg : (s + J * g) % 18446744073709551616 = t := by
    have : s + J * g = t + 18446744073709551616 * ((t - s) * r - q * g) := by
      have e : J = (t - s) * u - 18446744073709551616 * q := by omega
      rw [e]; grind
    rw [this, Int.add_mul_emod_self_left]; omega
  have hJ0 : J ≠ 0 := by
    intro h
    rw [h, Int.zero_mul, Int.add_zero] at hJg
    omega
  obtain ⟨j, hj⟩ : ∃ j : Nat, J = (j : Int) + 1 := ⟨(J - 1).toNat, by omega⟩
  -- the rest
  have hm1 : IntKind.u64.wrap n = n := by rw [IntKind.wrap_u64]; omega
  have hr1 : 0 ≤ (18446744073709551615 : Int) % n := Int.emod_nonneg _ (by omega)
  have hr2 : (18446744073709551615 : Int) % n < n := Int.emod_lt_of_pos _ hn
  have hm2 : IntKind.u64.wrap ((18446744073709551615 : Int) % n + 1) = (18446744073709551615 : Int) % n + 1 := by rw [IntKind.wrap_u64]; omega
  have hm3 : Int.tmod ((18446744073709551615 : Int) % n + 1) n = ((18446744073709551615 : Int) % n + 1) % n := Int.tmod_eq_emod_of_nonneg (by omega)
  have hr3 : 0 ≤ ((18446744073709551615 : Int) % n + 1) % n := Int.emod_nonneg _ (by omega)
  have hr4 : ((18446744073709551615 : Int) % n + 1) % n < n := Int.emod_lt_of_pos _ hn
  generalize hR : ((18446744073709551615 : Int) % n + 1) % n = R at *
  obtain ⟨i, hi, hk⟩ := below_loop n R g hn hr3 (by omega) j s (by rw [← hj, hJg]; omega)
  have hmr := mixI_range ((s + ((i : Int) + 1) * g) % 18446744073709551616)
  have hx0 := Int.emod_nonneg (mixI ((s + ((i : Int) + 1) * g) % 18446744073709551616)) (show n ≠ 0 by omega)
  have hx1 := Int.emod_lt_of_pos (mixI ((s + ((i : Int) + 1) * g) % 18446744073709551616)) hn
  refine ⟨j + 2, wrap64 (Int.tmod (mixI ((s + ((i : Int) + 1) * g) % 18446744073709551616)) n), (s + ((i : Int) + 1) * g) % 18446744073709551616, ?_, ?_, ?_, ⟨Int.emod_nonneg _ (by omega), Int.emod_lt_of_pos _ (by omega)⟩, fun k hkk => ?_⟩
  · rw [Int.tmod_eq_emod_of_nonneg hmr.1]; unfold wrap64; omega
  · rw [Int.tmod_eq_emod_of_nonneg hmr.1]; unfold wrap64; omega
  · intro h
    have hd : (18446744073709551616 : Int) ∣ ((i : Int) + 1) * g := by
      have h2 := Int.mul_ediv_add_emod (s + ((i : Int) + 1) * g) 18446744073709551616
      exact ⟨(s + ((i : Int) + 1) * g) / 18446744073709551616, by omega⟩
    obtain ⟨c, hc⟩ := hd
    have : (i : Int) + 1 = 18446744073709551616 * (c * u - ((i : Int) + 1) * r) := by
      have e : ((i : Int) + 1) * (g * u) = (18446744073709551616 * c) * u := by rw [← hc]; grind
      rw [hu] at e
      grind
    omega
  · obtain ⟨k, rfl⟩ : ∃ m, k = m + 1 := ⟨k - 1, by omega⟩
    unfold rnd_Below.f
    rw [if_neg (by omega)]
    have e : (Int.tmod g 2 == 0) = false := by rw [Int.tmod_eq_emod_of_nonneg hg0, hg]; rfl
    rw [e]
    simp only [rnd_Below.j0, hm1]
    rw [if_neg (by decide), if_neg (by omega), hm2, hm3]
    exact hk k (by omega)
theorem below_head (n s g : Int) (hn : 0 < n) (hn2 : n ≤ 4611686018427387904) (hg : g % 2 = 1) (hg0 : 0 ≤ g) (k : Nat) :
    rnd_Below.f (k + 1) s g n = rnd_Below.l0 k n (((18446744073709551615 : Int) % n + 1) % n) s g := by
  have hm1 : IntKind.u64.wrap n = n := by rw [IntKind.wrap_u64]; omega
  have hr1 : 0 ≤ (18446744073709551615 : Int) % n := Int.emod_nonneg _ (by omega)
  have hr2 : (18446744073709551615 : Int) % n < n := Int.emod_lt_of_pos _ hn
  have hm2 : IntKind.u64.wrap ((18446744073709551615 : Int) % n + 1) = (18446744073709551615 : Int) % n + 1 := by rw [IntKind.wrap_u64]; omega
  have hm3 : Int.tmod ((18446744073709551615 : Int) % n + 1) n = ((18446744073709551615 : Int) % n + 1) % n := Int.tmod_eq_emod_of_nonneg (by omega)
  unfold rnd_Below.f
  rw [if_neg (by omega)]
  have e : (Int.tmod g 2 == 0) = false := by rw [Int.tmod_eq_emod_of_nonneg hg0, hg]; rfl
  rw [e]
  simp only [rnd_Below.j0, hm1]
  rw [if_neg (by decide), if_neg (by omega), hm2, hm3]
theorem below_one (s g : Int) (hg : g % 2 = 1) (hg0 : 0 ≤ g) (k : Nat) (hk : 2 ≤ k) : rnd_Below.f k s g 1 = some (0, nx s g, g, 0) := by
  obtain ⟨k, rfl⟩ : ∃ m, k = m + 1 := ⟨k - 1, by omega⟩
  rw [below_head 1 s g (by omega) (by omega) hg hg0]
  have hr : (((18446744073709551615 : Int) % 1 + 1) % 1) = 0 := Int.emod_one _
  rw [hr]
  have hmr := mixI_range ((s + (((0 : Nat) : Int) + 1) * g) % 18446744073709551616)
  obtain ⟨i, hi, h⟩ := below_loop 1 0 g (by omega) (by omega) (by omega) 0 s (by omega)
  obtain rfl : i = 0 := by omega
  rw [h k (by omega), Int.tmod_one, show wrap64 0 = 0 by unfold wrap64; omega]
  have e : (s + (((0 : Nat) : Int) + 1) * g) = s + g := by grind
  rw [e]; rfl
end Go.Proofs.Ytggfiacnkbcjbaa.QRnd
