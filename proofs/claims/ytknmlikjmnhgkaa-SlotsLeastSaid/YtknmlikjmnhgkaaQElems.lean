/- Sets: what has, what a walk gives, how many. No condition. -/
import Derived.Test.YtknmlikjmnhgkaaPAllx2
import Derived.Test.YtknmlikjmnhgkaaQWord
namespace Go.Proofs.Ytknmlikjmnhgkaa.Pure
open Go.RowKit Go.Proofs.Ytknmlikjmnhgkaa.P Go.Proofs.YtknmlikjmnhgkaaW.PrintWords Go.Proofs.YtknmlikjmnhgkaaW.PrintLast
set_option linter.unusedVariables false

/-- whether a set has a number -/
def hasB (s : List Int) (x : Nat) : Bool := (wv s (x / 64)).getLsbD (x % 64)
theorem wv_nat {s : List Int} (h : Words s) (k : Nat) : ((wv s k).toNat : Int) = wordAt s k := iv_bv (wordAt_WB h k)
theorem hasB_testBit {s : List Int} (x : Nat) : hasB s x = (wv s (x / 64)).toNat.testBit (x % 64) := rfl

/-! ### what a walk gives -/
theorem wbits_mem (k : Nat) : ∀ (m i x : Nat), x < 2 ^ m → ∀ y, y ∈ wbits k i x ↔ ∃ j, j < m ∧ x.testBit j = true ∧ y = 64 * (k : Int) + ((i + j : Nat) : Int) := by
  intro m
  induction m with
  | zero =>
    intro i x hx y
    obtain rfl : x = 0 := by simpa using hx
    rw [wbits_zero]
    simp
  | succ m ih =>
    intro i x hx y
    rw [Nat.pow_succ] at hx
    have h1 := ih (i + 1) (x / 2) (by omega) y
    have key : y ∈ wbits k i x ↔ (x % 2 = 1 ∧ y = 64 * (k : Int) + (i : Int)) ∨ y ∈ wbits k (i + 1) (x / 2) := by
      by_cases h0 : x = 0
      · subst h0; rw [wbits_zero, Nat.zero_div, wbits_zero]; simp
      · by_cases h2 : x % 2 = 1
        · rw [wbits_odd k i x h2]; simp [h2]
        · rw [wbits_even k i x (by omega) h0]; simp [h2]
    rw [key, h1]
    constructor
    · rintro (⟨h2, rfl⟩ | ⟨j, hj, ht, rfl⟩)
      · exact ⟨0, by omega, by rw [Nat.testBit_zero]; simp [h2], by simp⟩
      · exact ⟨j + 1, by omega, by rw [Nat.testBit_succ]; exact ht, by push_cast; omega⟩
    · rintro ⟨j, hj, ht, rfl⟩
      cases j with
      | zero => exact .inl ⟨by rw [Nat.testBit_zero] at ht; simpa using ht, by simp⟩
      | succ j => exact .inr ⟨j, by omega, by rw [Nat.testBit_succ] at ht; exact ht, by push_cast; omega⟩
theorem elems_mem : ∀ (l : List Int) (k : Nat), Words l → ∀ y, y ∈ elems k l ↔ ∃ n j, n < l.length ∧ j < 64 ∧ (l.getD n 0).toNat.testBit j = true ∧ y = 64 * ((k + n : Nat) : Int) + (j : Int) := by
  intro l
  induction l with
  | nil => intro k _ y; simp [elems]
  | cons x l ih =>
    intro k hw y
    have hx := hw x List.mem_cons_self
    have h1 := ih (k + 1) (fun z hz => hw z (List.mem_cons_of_mem _ hz)) y
    have h2 := wbits_mem k 64 0 x.toNat (by omega) y
    simp only [elems, List.mem_append]
    rw [h1, h2]
    constructor
    · rintro (⟨j, hj, ht, rfl⟩ | ⟨n, j, hn, hj, ht, rfl⟩)
      · exact ⟨0, j, by simp, hj, by simpa using ht, by simp⟩
      · exact ⟨n + 1, j, by simp; omega, hj, by simpa using ht, by push_cast; omega⟩
    · rintro ⟨n, j, hn, hj, ht, rfl⟩
      cases n with
      | zero => exact .inl ⟨j, hj, by simpa using ht, by simp⟩
      | succ n => exact .inr ⟨n, j, by simp at hn; omega, hj, by simpa using ht, by push_cast; omega⟩
theorem wv_getD {s : List Int} (h : GoodS s) (k : Nat) (hk : k < 64) : (wv s k).toNat = (s.getD k 0).toNat := by
  have e : wordAt s k = s.getD k 0 := by unfold wordAt; rw [if_pos hk]
  have h2 := wv_nat h.words k
  rw [← e]
  omega
theorem elems_has {s : List Int} (h : GoodS s) (y : Int) : y ∈ elems 0 s ↔ 0 ≤ y ∧ y < 4096 ∧ hasB s y.toNat = true := by
  rw [elems_mem s 0 h.words]
  have hl := h.len
  constructor
  · rintro ⟨n, j, hn, hj, ht, rfl⟩
    refine ⟨by omega, by omega, ?_⟩
    rw [hasB_testBit, show (64 * ((0 + n : Nat) : Int) + (j : Int)).toNat / 64 = n from by omega, show (64 * ((0 + n : Nat) : Int) + (j : Int)).toNat % 64 = j from by omega, wv_getD h n (by omega)]
    exact ht
  · rintro ⟨h0, h1, hb⟩
    rw [hasB_testBit, wv_getD h _ (by omega)] at hb
    refine ⟨y.toNat / 64, y.toNat % 64, ?_, by omega, hb, by omega⟩
    apply Classical.byContradiction
    intro hn
    rw [List.getD_eq_getElem?_getD, List.getElem?_eq_none (by omega)] at hb
    simp at hb
theorem wbits_sorted (k : Nat) : ∀ (m i x : Nat), x < 2 ^ m → (wbits k i x).Pairwise (· < ·) := by
  intro m
  induction m with
  | zero =>
    intro i x hx
    obtain rfl : x = 0 := by simpa using hx
    rw [wbits_zero]; exact List.Pairwise.nil
  | succ m ih =>
    intro i x hx
    rw [Nat.pow_succ] at hx
    have h1 := ih (i + 1) (x / 2) (by omega)
    by_cases h0 : x = 0
    · subst h0; rw [wbits_zero]; exact List.Pairwise.nil
    · by_cases h2 : x % 2 = 1
      · rw [wbits_odd k i x h2, List.pairwise_cons]
        refine ⟨fun y hy => ?_, h1⟩
        obtain ⟨j, hj, ht, rfl⟩ := (wbits_mem k m (i + 1) (x / 2) (by omega) y).1 hy
        omega
      · rw [wbits_even k i x (by omega) h0]; exact h1
theorem elems_sorted : ∀ (l : List Int) (k : Nat), Words l → (elems k l).Pairwise (· < ·) := by
  intro l
  induction l with
  | nil => intro k _; exact List.Pairwise.nil
  | cons x l ih =>
    intro k hw
    have hx := hw x List.mem_cons_self
    have hw2 : Words l := fun z hz => hw z (List.mem_cons_of_mem _ hz)
    simp only [elems]
    rw [List.pairwise_append]
    refine ⟨wbits_sorted k 64 0 x.toNat (by omega), ih (k + 1) hw2, fun a ha b hb => ?_⟩
    obtain ⟨j, hj, _, rfl⟩ := (wbits_mem k 64 0 x.toNat (by omega) a).1 ha
    obtain ⟨n, j2, _, hj2, _, rfl⟩ := (elems_mem l (k + 1) hw2 b).1 hb
    omega

/-! ### has -/
theorem hasB_uni (a b : List Int) (x : Nat) (hx : x < 4096) : hasB (uni a b) x = (hasB a x || hasB b x) := by
  unfold hasB
  rw [wv_uni a b _ (by omega), BitVec.getLsbD_or]
theorem hasB_dif (a b : List Int) (x : Nat) (hx : x < 4096) : hasB (dif a b) x = (hasB a x && !hasB b x) := by
  unfold hasB
  rw [wv_dif a b _ (by omega), BitVec.getLsbD_and, BitVec.getLsbD_not]
  simp [Nat.mod_lt]
theorem wv_one (i : Int) (h0 : 0 ≤ i) (h1 : i < 4096) (k : Nat) (hk : k < 64) : (wv (oneL i) k).toNat = if k = i.toNat / 64 then 2 ^ (i.toNat % 64) else 0 := by
  have h2 := wv_nat (words_one i) k
  rw [one_wordAt i h0 h1 k hk] at h2
  split
  · rename_i h
    rw [if_pos h] at h2
    have : ((2 : Int) ^ (i.toNat % 64)) = ((2 ^ (i.toNat % 64) : Nat) : Int) := by push_cast; rfl
    rw [this] at h2
    exact_mod_cast h2
  · rename_i h
    rw [if_neg h] at h2
    omega
theorem hasB_one (i : Int) (h0 : 0 ≤ i) (h1 : i < 4096) (x : Nat) (hx : x < 4096) : hasB (oneL i) x = decide (x = i.toNat) := by
  rw [hasB_testBit, wv_one i h0 h1 _ (by omega)]
  split
  · rename_i h
    rw [Nat.testBit_two_pow]
    by_cases he : x = i.toNat
    · subst he; simp
    · rw [decide_eq_false he]
      simp
      omega
  · rename_i h
    rw [Nat.zero_testBit, decide_eq_false (by rintro rfl; exact h rfl)]
theorem good_has_ext {a b : List Int} (ha : GoodS a) (hb : GoodS b) (h : ∀ x, x < 4096 → hasB a x = hasB b x) : a = b :=
  good_ext ha hb (fun k hk => by
    apply BitVec.eq_of_getLsbD_eq
    intro i hi
    have := h (64 * k + i) (by omega)
    unfold hasB at this
    rwa [show (64 * k + i) / 64 = k from by omega, show (64 * k + i) % 64 = i from by omega] at this)

theorem Has_f {s : List Int} (h : Words s) (x : Int) (h0 : 0 ≤ x) (h1 : x < 4096) : sets_Set_Has.f s x = some (hasB s x.toNat) := by
  obtain ⟨n, rfl⟩ := Int.eq_ofNat_of_zero_le h0
  unfold sets_Set_Has.f
  have e1 : Int.tdiv (n : Int) 64 = ((n / 64 : Nat) : Int) := by rw [Int.tdiv_eq_ediv_of_nonneg h0]; omega
  have e2 : Int.tmod (n : Int) 64 = ((n % 64 : Nat) : Int) := by rw [Int.tmod_eq_emod_of_nonneg h0]; omega
  rw [if_pos h0, e1, e2, wrap64_in _ (by omega) (by omega)]
  unfold sets_Set_word.f
  rw [if_pos (by omega), Option.bind_some, if_pos (by omega)]
  rw [show (((n / 64 : Nat) : Int)).toNat = n / 64 from by omega, show ((n : Int)).toNat = n from rfl]
  have hw := wv_nat h (n / 64)
  have hlt : (wv s (n / 64)).toNat < 18446744073709551616 := (wv s (n / 64)).isLt
  rw [← hw, hasB_testBit]
  generalize (wv s (n / 64)).toNat = v at hlt
  unfold shr
  rw [show ((n % 64 : Nat) : Int).toNat = n % 64 from rfl, show min (n % 64) IntKind.u64.bits = n % 64 from Nat.min_eq_left (by show n % 64 ≤ 64; omega)]
  rw [show ((v : Int) / 2 ^ (n % 64)) = ((v / 2 ^ (n % 64) : Nat) : Int) from by push_cast; rfl]
  have hd : v / 2 ^ (n % 64) < 18446744073709551616 := Nat.lt_of_le_of_lt (Nat.div_le_self _ _) hlt
  rw [and_one_u64 _ hd, Nat.testBit_eq_decide_div_mod_eq]
  congr 1
  rcases Nat.mod_two_eq_zero_or_one (v / 2 ^ (n % 64)) with e | e <;> rw [e] <;> rfl

/-! ### one more -/
theorem pc_pow : ∀ (m j : Nat), j < m → pc m (2 ^ j) = 1 := by
  intro m
  induction m with
  | zero => intro j hj; omega
  | succ m ih =>
    intro j hj
    simp only [pc]
    cases j with
    | zero => simp [pc_zero]
    | succ j =>
      rw [Nat.pow_succ]
      rw [Nat.mul_mod_left, Nat.mul_div_cancel _ (by omega : 0 < 2), ih j (by omega)]
theorem cnt_one (g : Nat → Nat) (k0 v : Nat) : ∀ n, (∀ k, k < n → g k = if k = k0 then v else 0) → cnt g n = if k0 < n then pc 64 v else 0 := by
  intro n
  induction n with
  | zero => intro _; rfl
  | succ n ih =>
    intro h
    simp only [cnt]
    rw [ih (fun k hk => h k (by omega)), h n (by omega)]
    by_cases h1 : n = k0
    · subst h1; rw [if_pos rfl, if_neg (Nat.lt_irrefl n), if_pos (Nat.lt_succ_self n), Nat.zero_add]
    · rw [if_neg h1, pc_zero]
      by_cases h2 : k0 < n
      · rw [if_pos h2, if_pos (Nat.lt_succ_of_lt h2), Nat.add_zero]
      · rw [if_neg h2, if_neg (fun h3 => h2 (Nat.lt_of_le_of_ne (Nat.le_of_lt_succ h3) (fun e => h1 e.symm)))]
theorem card_one (i : Int) (h0 : 0 ≤ i) (h1 : i < 4096) : card (oneL i) = 1 := by
  unfold card
  rw [cnt_one _ (i.toNat / 64) (2 ^ (i.toNat % 64)) 64 (fun k hk => wv_one i h0 h1 k hk), if_pos (by omega), pc_pow 64 _ (by omega)]
theorem card_zero {s : List Int} (h : ∀ x, x < 4096 → hasB s x = false) : card s = 0 := by
  have : card s = cnt (fun _ => 0) 64 := by
    unfold card
    refine cnt_congr 64 (fun k hk => ?_)
    have : wv s k = 0 := by
      apply BitVec.eq_of_getLsbD_eq
      intro i hi
      have := h (64 * k + i) (by omega)
      unfold hasB at this
      rw [show (64 * k + i) / 64 = k from by omega, show (64 * k + i) % 64 = i from by omega] at this
      rw [this]
      simp
    rw [this]
    rfl
  rw [this]
  exact cnt_zero _ (fun _ => rfl) 64
theorem hasB_itr (a b : List Int) (x : Nat) (hx : x < 4096) : hasB (itr a b) x = (hasB a x && hasB b x) := by
  unfold hasB
  rw [wv_itr a b _ (by omega), BitVec.getLsbD_and]
theorem card_more (s : List Int) (i : Int) (h0 : 0 ≤ i) (h1 : i < 4096) : card (uni s (oneL i)) = card (dif s (oneL i)) + 1 := by
  have e : uni s (oneL i) = uni (dif s (oneL i)) (oneL i) := good_has_ext (good_uni _ _) (good_uni _ _) (fun x hx => by
    rw [hasB_uni _ _ x hx, hasB_uni _ _ x hx, hasB_dif _ _ x hx]
    cases hasB s x <;> cases hasB (oneL i) x <;> rfl)
  have h := card_or_and (dif s (oneL i)) (oneL i)
  rw [card_one i h0 h1, card_zero (s := itr (dif s (oneL i)) (oneL i)) (fun x hx => by
    rw [hasB_itr _ _ x hx, hasB_dif _ _ x hx]
    cases hasB s x <;> cases hasB (oneL i) x <;> rfl)] at h
  rw [e]
  omega
theorem with_without (s : List Int) (i : Int) : dif (uni s (oneL i)) (oneL i) = dif s (oneL i) := good_has_ext (good_dif _ _) (good_dif _ _) (fun x hx => by
  rw [hasB_dif _ _ x hx, hasB_uni _ _ x hx, hasB_dif _ _ x hx]
  cases hasB s x <;> cases hasB (oneL i) x <;> rfl)
theorem without_with (s : List Int) (i : Int) : uni (dif s (oneL i)) (oneL i) = uni s (oneL i) := good_has_ext (good_uni _ _) (good_uni _ _) (fun x hx => by
  rw [hasB_uni _ _ x hx, hasB_uni _ _ x hx, hasB_dif _ _ x hx]
  cases hasB s x <;> cases hasB (oneL i) x <;> rfl)
theorem has_with (s : List Int) (i : Int) (h0 : 0 ≤ i) (h1 : i < 4096) : hasB (uni s (oneL i)) i.toNat = true := by
  rw [hasB_uni _ _ _ (by omega), hasB_one i h0 h1 _ (by omega)]
  simp
theorem has_without (s : List Int) (i : Int) (h0 : 0 ≤ i) (h1 : i < 4096) : hasB (dif s (oneL i)) i.toNat = false := by
  rw [hasB_dif _ _ _ (by omega), hasB_one i h0 h1 _ (by omega)]
  simp
theorem has_other (s : List Int) (i x : Int) (h0 : 0 ≤ i) (h1 : i < 4096) (hx : x ∈ elems 0 (uni s (oneL i))) (hne : x ≠ i) : hasB s x.toNat = true := by
  obtain ⟨x0, x1, hb⟩ := (elems_has (good_uni _ _) x).1 hx
  rw [hasB_uni _ _ _ (by omega), hasB_one i h0 h1 _ (by omega), decide_eq_false (by omega)] at hb
  simpa using hb
/-! ### the walk over a set -/
/-- what came last; -1 ahead of the first -/
def lastOf (l : List Int) : Int := l.getLastD (-1)
theorem lastOf_snoc (l : List Int) (x : Int) : lastOf (l ++ [x]) = x := by simp [lastOf]
theorem prefix_rises {L p : List Int} {x : Int} (hs : L.Pairwise (· < ·)) (h0 : ∀ y ∈ L, 0 ≤ y) (hp : p ++ [x] <+: L) : lastOf p < x := by
  obtain ⟨t, rfl⟩ := hp
  have h1 : (p ++ [x]).Pairwise (· < ·) := (List.pairwise_append.1 hs).1
  rcases List.eq_nil_or_concat p with rfl | ⟨q, y, rfl⟩
  · have := h0 x (by simp)
    simp [lastOf]; omega
  · rw [List.concat_eq_append] at h1 ⊢
    rw [lastOf_snoc]
    exact (List.pairwise_append.1 h1).2.2 y (by simp) x (by simp)
end Go.Proofs.Ytknmlikjmnhgkaa.Pure
