/- The plain statement of RndApart: for every input the law's printed function returns true. No condition. -/
import Derived.Test.YtggfiacnkbcjbaaPAllx5
import Derived.Test.YtggfiacnkbcjbaaQMix
namespace Go.Proofs.Ytggfiacnkbcjbaa.Pure
open Go Go.RowKit Go.Proofs.Ytggfiacnkbcjbaa.P Go.Proofs.Ytggfiacnkbcjbaa.QRnd Go.Proofs.YtggfiacnkbcjbaaW.PrintWords Go.Proofs.YtggfiacnkbcjbaaW.PrintLast Go.Proofs.YtggfiacnkbcjbaaW.PrintMore

theorem wr64 (x : Int) (h0 : -9223372036854775808 ≤ x) (h1 : x < 9223372036854775808) : wrap64 x = x := by unfold wrap64; omega
/-! fifty numbers of a stream are different -/
theorem raSt_eq (s g : Int) (h0 : 0 ≤ s) (h1 : s < 18446744073709551616) (n : Nat) : raSt s g n = ((s + (n : Int) * g) % 18446744073709551616, g) := by
  induction n with
  | zero =>
    show (s, g) = _
    rw [show (((0 : Nat) : Int) * g) = 0 by rw [Int.natCast_zero, Int.zero_mul], Int.add_zero, Int.emod_eq_of_lt h0 h1]
  | succ n ih =>
    rw [raSt, ih]
    simp only [next_f]
    unfold nx
    rw [Int.emod_add_emod, Int.add_assoc, show ((n : Int) * g + g) = ((n + 1 : Nat) : Int) * g by rw [Int.natCast_add, Int.add_mul]; simp]
theorem raKey_eq (s g : Int) (h0 : 0 ≤ s) (h1 : s < 18446744073709551616) (n : Nat) : raKey s g n = mixI ((s + ((n + 1 : Nat) : Int) * g) % 18446744073709551616) := by
  unfold raKey
  rw [raSt_eq s g h0 h1]
  simp only [next_f]
  unfold nx
  rw [Int.emod_add_emod, Int.add_assoc, show ((n : Int) * g + g) = ((n + 1 : Nat) : Int) * g by rw [Int.natCast_add, Int.add_mul]; simp]
theorem raKey_ne (s g : Int) (h0 : 0 ≤ s) (h1 : s < 18446744073709551616) (hg : g % 2 = 1) (i j : Nat) (hi : i < 1000) (hj : j < 1000) (h : raKey s g i = raKey s g j) : i = j := by
  rw [raKey_eq s g h0 h1, raKey_eq s g h0 h1] at h
  have e := mix_inj _ _ (Int.emod_nonneg _ (by decide)) (Int.emod_lt_of_pos _ (by decide)) (Int.emod_nonneg _ (by decide)) (Int.emod_lt_of_pos _ (by decide)) h
  have e2 : (((i + 1 : Nat) : Int) * g) % 18446744073709551616 = (((j + 1 : Nat) : Int) * g) % 18446744073709551616 := by
    generalize ((i + 1 : Nat) : Int) * g = x at *
    generalize ((j + 1 : Nat) : Int) * g = y at *
    omega
  have e3 := odd_inj g hg ((i + 1 : Nat) : Int) ((j + 1 : Nat) : Int) (by omega) (by omega) (by omega) (by omega) e2
  omega
theorem addKey_new (L : List Lit) (x : Lit) (h : ∀ y ∈ L, y.sameKey x = false) : Go.Maps.addKey L x = L ++ [x] := by
  unfold Go.Maps.addKey
  rw [if_neg]
  intro hh
  obtain ⟨y, hy, h2⟩ := List.any_eq_true.1 hh
  rw [h y hy] at h2
  cases h2
theorem fold_new (f : Nat → Lit) (m : Nat) (hf : ∀ i j, i < m → j < m → i ≠ j → (f i).sameKey (f j) = false) : ∀ n, n ≤ m → ((List.range n).map f).foldl Go.Maps.addKey [] = (List.range n).map f := by
  intro n
  induction n with
  | zero => intro _; rfl
  | succ n ih =>
    intro hn
    rw [List.range_succ, List.map_append, List.foldl_append, ih (by omega)]
    exact addKey_new _ _ (fun y hy => by
      obtain ⟨i, hi, rfl⟩ := List.mem_map.1 hy
      have := List.mem_range.1 hi
      exact hf i n (by omega) (by omega) (by omega))
theorem raCount_eq (s g : Int) (h0 : 0 ≤ s) (h1 : s < 18446744073709551616) (hg : g % 2 = 1) : raCount s g = 50 := by
  unfold raCount raSet
  rw [Go.Maps.size_setOf _ _ (fun x hx => by
    obtain ⟨i, _, rfl⟩ := List.mem_map.1 hx
    trivial)]
  unfold raKeys
  rw [fold_new _ 50 (fun i j hi hj hne => by
    have hk : raKey s g i ≠ raKey s g j := fun e => hne (raKey_ne s g h0 h1 hg i j (by omega) (by omega) e)
    simp [Lit.sameKey, hk]) 50 (Nat.le_refl _)]
  simp
/-! lists that differ in one number have different states -/
theorem ofStep_range (s n : Int) : 0 ≤ ofStep s n ∧ ofStep s n < 18446744073709551616 := bits_range .xor _ _
theorem xor_cancel (a b c : Int) (a0 : 0 ≤ a) (a1 : a < 18446744073709551616) (b0 : 0 ≤ b) (b1 : b < 18446744073709551616) (c0 : 0 ≤ c) (c1 : c < 18446744073709551616) (h : Go.bits .xor .u64 a c = Go.bits .xor .u64 b c) : a = b := by
  rw [u64_xor _ _ a0 a1 c0 c1, u64_xor _ _ b0 b1 c0 c1] at h
  have e : a.toNat ^^^ c.toNat = b.toNat ^^^ c.toNat := by omega
  have e2 : a.toNat ^^^ c.toNat ^^^ c.toNat = b.toNat ^^^ c.toNat ^^^ c.toNat := by rw [e]
  rw [Nat.xor_assoc, Nat.xor_assoc, Nat.xor_self, Nat.xor_zero, Nat.xor_zero] at e2
  omega
theorem xor_cancel' (a b c : Int) (a0 : 0 ≤ a) (a1 : a < 18446744073709551616) (b0 : 0 ≤ b) (b1 : b < 18446744073709551616) (c0 : 0 ≤ c) (c1 : c < 18446744073709551616) (h : Go.bits .xor .u64 c a = Go.bits .xor .u64 c b) : a = b := by
  rw [u64_xor _ _ c0 c1 a0 a1, u64_xor _ _ c0 c1 b0 b1] at h
  have e : c.toNat ^^^ a.toNat = c.toNat ^^^ b.toNat := by omega
  have e2 : c.toNat ^^^ (c.toNat ^^^ a.toNat) = c.toNat ^^^ (c.toNat ^^^ b.toNat) := by rw [e]
  rw [← Nat.xor_assoc, ← Nat.xor_assoc, Nat.xor_self, Nat.zero_xor, Nat.zero_xor] at e2
  omega
theorem md (x : Int) : 0 ≤ x % 18446744073709551616 ∧ x % 18446744073709551616 < 18446744073709551616 := by omega
theorem ad (x y c : Int) (x0 : 0 ≤ x) (x1 : x < 18446744073709551616) (y0 : 0 ≤ y) (y1 : y < 18446744073709551616) (h : (x + c) % 18446744073709551616 = (y + c) % 18446744073709551616) : x = y := by omega
theorem ofStep_left (s t n : Int) (s0 : 0 ≤ s) (s1 : s < 18446744073709551616) (t0 : 0 ≤ t) (t1 : t < 18446744073709551616) (h : ofStep s n = ofStep t n) : s = t := by
  have e := xor_cancel _ _ _ (mixI_range _).1 (mixI_range _).2 (mixI_range _).1 (mixI_range _).2 (md _).1 (md _).2 h
  exact ad _ _ _ s0 s1 t0 t1 (mix_inj _ _ (md _).1 (md _).2 (md _).1 (md _).2 e)
theorem ofStep_right (s n m : Int) (h : ofStep s n = ofStep s m) : n % 18446744073709551616 = m % 18446744073709551616 :=
  xor_cancel' _ _ _ (md _).1 (md _).2 (md _).1 (md _).2 (mixI_range _).1 (mixI_range _).2 h
theorem of_state (l : List Int) : ∀ s t : Int, (0 ≤ s ∧ s < 18446744073709551616) → (0 ≤ t ∧ t < 18446744073709551616) → s ≠ t → l.foldl ofStep s ≠ l.foldl ofStep t := by
  induction l with
  | nil => intro s t _ _ h; exact h
  | cons x l ih => intro s t hs ht h; exact ih _ _ (ofStep_range _ _) (ofStep_range _ _) (fun e => h (ofStep_left _ _ _ hs.1 hs.2 ht.1 ht.2 e))
theorem of_apart (l : List Int) : ∀ (i : Nat) (v s : Int), (h : i < l.length) → v % 18446744073709551616 ≠ l[i] % 18446744073709551616 → (l.set i v).foldl ofStep s ≠ l.foldl ofStep s := by
  induction l with
  | nil => intro i v s h; simp at h
  | cons x l ih =>
    intro i v s h hne
    cases i with
    | zero => exact of_state l _ _ (ofStep_range _ _) (ofStep_range _ _) (fun e => hne (ofStep_right _ _ _ e))
    | succ i => exact ih i v _ (by simpa using h) (by simpa using hne)
theorem fold_range (l : List Int) : ∀ s : Int, (0 ≤ s ∧ s < 18446744073709551616) → 0 ≤ l.foldl ofStep s ∧ l.foldl ofStep s < 18446744073709551616 := by
  induction l with
  | nil => intro s h; exact h
  | cons x l ih => intro s _; exact ih _ (ofStep_range _ _)
theorem end_ne (a b : Int) (a0 : 0 ≤ a) (a1 : a < 18446744073709551616) (b0 : 0 ≤ b) (b1 : b < 18446744073709551616) (h : (ofEnd a).1 = (ofEnd b).1) : a = b :=
  ad _ _ _ a0 a1 b0 b1 (mix_inj _ _ (md _).1 (md _).2 (md _).1 (md _).2 h)
/-- a number and 1 to 2^40, bit by bit: another number, also as words -/
theorem xor_other (z b : Int) (b0 : 0 < b) (b1 : b ≤ 1099511627776) : Go.bits .xor .i64 z b % 18446744073709551616 ≠ z % 18446744073709551616 := by
  intro h
  have e : Go.bits .xor .i64 z b % 18446744073709551616 = ((BitVec.ofInt 64 z ^^^ BitVec.ofInt 64 b).toNat : Int) := by
    show IntKind.i64.wrap (((BitVec.ofInt 64 z) ^^^ (BitVec.ofInt 64 b)).toNat : Int) % 18446744073709551616 = _
    have hl := (BitVec.ofInt 64 z ^^^ BitVec.ofInt 64 b).isLt
    generalize ((BitVec.ofInt 64 z) ^^^ (BitVec.ofInt 64 b)).toNat = x at *
    have : IntKind.i64.wrap (x : Int) = wrap64 x := i64_w _
    rw [this]
    unfold wrap64
    omega
  have e2 : z % 18446744073709551616 = ((BitVec.ofInt 64 z).toNat : Int) := by
    rw [BitVec.toNat_ofInt]
    omega
  rw [e, e2] at h
  have h2 : BitVec.ofInt 64 z ^^^ BitVec.ofInt 64 b = BitVec.ofInt 64 z := BitVec.eq_of_toNat_eq (by omega)
  have h3 : BitVec.ofInt 64 z ^^^ (BitVec.ofInt 64 z ^^^ BitVec.ofInt 64 b) = BitVec.ofInt 64 z ^^^ BitVec.ofInt 64 z := by rw [h2]
  rw [← BitVec.xor_assoc, BitVec.xor_self, BitVec.zero_xor] at h3
  have h4 := congrArg BitVec.toNat h3
  rw [BitVec.toNat_ofInt] at h4
  simp at h4
  omega
theorem apart_loop (z y : List Int) (i : Nat) (k : Nat) (hk : z.length < k) (hz : z.length * 8 ≤ 281474976710656) (hy : y.length = z.length) (hi : i < z.length) (hzi : z[i] % 18446744073709551616 ≠ y[i] % 18446744073709551616) (s g : Int) (hs0 : 0 ≤ s) (hs : s < 18446744073709551616) (hg0 : 0 ≤ g) (hg : g % 2 = 1) (hne : (ofEnd (y.foldl ofStep (y.length : Int))).1 ≠ s) (d : Nat) :
    ∀ (n : Nat) (a b : Int), n + d = 50 → tourkeep1_RndApart.l0 (k + d + 1) z (i : Int) y (n : Int) s g a b = some true := by
  induction d with
  | zero =>
    intro n a b hn
    rw [tourkeep1_RndApart.l0, if_neg (by omega), if_pos (raCount_eq s g hs0 hs hg), if_pos (by omega), if_pos (by omega)]
    have r1 : rd z (i : Int) = z[i] := by simp [rd, hi]
    have r2 : rd y (i : Int) = y[i] := by have : i < y.length := by omega
                                          simp [rd, this]
    have hof : rnd_Of.f k y = some (ofEnd (y.foldl ofStep (y.length : Int))) := of_f y (by omega) k (by omega)
    rw [r1, r2, mix_f, Option.bind_some, if_pos (by omega), mix_f, Option.bind_some, if_neg (fun e => hzi (by
      have := mix_inj _ _ (by rw [IntKind.wrap_u64]; exact (md _).1) (by rw [IntKind.wrap_u64]; exact (md _).2) (by rw [IntKind.wrap_u64]; exact (md _).1) (by rw [IntKind.wrap_u64]; exact (md _).2) e
      rwa [IntKind.wrap_u64, IntKind.wrap_u64] at this)), hof, Option.bind_some, if_neg hne, odd_tmod g hg0 hg]
  | succ d ih =>
    intro n a b hn
    rw [show k + (d + 1) + 1 = (k + d + 1) + 1 by omega, tourkeep1_RndApart.l0, if_pos (by omega), next_f, Option.bind_some, wr64 ((n : Int) + 1) (by omega) (by omega)]
    exact ih (n + 1) _ _ (by omega)
theorem RndApart : tourkeep1_RndApart.Pure := by
  intro l0 a1 a2 _ hl hw w1 w2
  obtain ⟨K0, hb⟩ : ∃ K0, ∀ k, K0 ≤ k → tourkeep1_rndBegun.f k = some true := begun_ev
  have wi : ∀ x : Int, (Lit.int .i64 x).wf = true → -9223372036854775808 ≤ x ∧ x ≤ 9223372036854775807 := fun x h => by
    have e1 : IntKind.i64.min = -9223372036854775808 := by decide +kernel
    have e2 : IntKind.i64.max = 9223372036854775807 := by decide +kernel
    simp only [Lit.wf, Bool.and_eq_true, decide_eq_true_eq, e1, e2] at h
    exact h
  have hw' : ∀ x ∈ l0 ++ [a2], -9223372036854775808 ≤ x ∧ x ≤ 9223372036854775807 := fun x hx => by
    rcases List.mem_append.1 hx with h | h
    · exact wi x (hw x h)
    · rw [List.mem_singleton.1 h]; exact wi a2 w2
  have hlen : (l0 ++ [a2]).length = l0.length + 1 := by simp
  refine ⟨max K0 (l0.length + 2) + 50 + 1, ?_⟩
  have c1 : ∀ z : List Int, z.length ≤ 17592186044416 → slices_Clone_int_int.f z = some z := fun z hz => by unfold slices_Clone_int_int.f; rw [if_pos hz]
  unfold tourkeep1_RndApart.f
  rw [hb _ (by omega), Option.bind_some, if_pos rfl, c1 l0 (by omega), Option.bind_some, if_pos (by omega), Option.bind_some]
  generalize l0 ++ [a2] = z at *
  have i0 : 0 ≤ a1 % (z.length : Int) := Int.emod_nonneg _ (by omega)
  have i1 : a1 % (z.length : Int) < z.length := Int.emod_lt_of_pos _ (by omega)
  have j0 : 0 ≤ a2 % 1099511627776 := Int.emod_nonneg _ (by omega)
  have j1 : a2 % 1099511627776 < 1099511627776 := Int.emod_lt_of_pos _ (by omega)
  have hof : rnd_Of.f (max K0 (l0.length + 2) + 50 + 1) z = some (ofEnd (z.foldl ofStep (z.length : Int))) := of_f z (by omega) _ (by omega)
  rw [c1 z (by omega), Option.bind_some, below_f a1 z.length (by omega) (by omega), Option.bind_some, if_pos i0, if_pos i1, below_f a2 1099511627776 (by omega) (by omega), Option.bind_some, hof, Option.bind_some, wr64 (1 + a2 % 1099511627776) (by omega) (by omega)]
  obtain ⟨i, hi⟩ : ∃ i : Nat, a1 % (z.length : Int) = i := ⟨(a1 % (z.length : Int)).toNat, by omega⟩
  rw [hi] at i1 ⊢
  rw [Int.toNat_natCast]
  have hlt : i < z.length := by omega
  have r1 : rd z (i : Int) = z[i] := by simp [rd, hlt]
  have hz := hw' z[i] (List.getElem_mem hlt)
  have hx := xor_other z[i] (1 + a2 % 1099511627776) (by omega) (by omega)
  rw [r1]
  have hr := ofEnd_range (z.foldl ofStep (z.length : Int))
  have fr := fold_range z (z.length : Int) (by omega)
  have fr2 := fold_range (z.set i (Go.bits .xor .i64 z[i] (1 + a2 % 1099511627776))) (z.length : Int) (by omega)
  exact apart_loop z _ i (max K0 (l0.length + 2)) (by omega) (by omega) (by simp) hlt (by rw [List.getElem_set_self]; exact fun e => hx e.symm) _ _ hr.1 hr.2.1 hr.2.2.1 hr.2.2.2.2 (by
    rw [List.length_set]
    exact fun e => of_apart z i _ _ hlt hx (end_ne _ _ fr2.1 fr2.2 fr.1 fr.2 e)) 50 0 _ _ (by omega)

end Go.Proofs.Ytggfiacnkbcjbaa.Pure
