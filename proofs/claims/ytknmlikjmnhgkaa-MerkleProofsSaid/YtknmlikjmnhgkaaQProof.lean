/- What the printed functions of merkle.Proof and merkle.Verify compute for lists of at most 64 words. -/
import Derived.Test.YtknmlikjmnhgkaaPAllx6
import Derived.Test.YtknmlikjmnhgkaaPAllx7
import Derived.Test.YtknmlikjmnhgkaaQMerkle
namespace Go.Proofs.Ytknmlikjmnhgkaa.QRnd
open Go Go.RowKit Go.Proofs.Ytknmlikjmnhgkaa.P Go.Proofs.YtknmlikjmnhgkaaW.PrintWords Go.Proofs.YtknmlikjmnhgkaaW.PrintLast Go.Proofs.YtknmlikjmnhgkaaW.PrintMore

def flip1 (i : Nat) : Nat := if i % 2 = 0 then i + 1 else i - 1
theorem xor1_all : ∀ i : Fin 64, Go.bits .xor .i64 ((i.1 : Nat) : Int) 1 = ((flip1 i.1 : Nat) : Int) := by decide +kernel
theorem xor1 (i : Nat) (h : i < 64) : Go.bits .xor .i64 (i : Int) 1 = ((flip1 i : Nat) : Int) := xor1_all ⟨i, h⟩
theorem tdiv2 (i : Nat) : Int.tdiv (i : Int) 2 = ((i / 2 : Nat) : Int) := by rw [Int.tdiv_eq_ediv_of_nonneg (by omega)]; omega
theorem tmod2 (i : Nat) : Int.tmod (i : Int) 2 = ((i % 2 : Nat) : Int) := by rw [Int.tmod_eq_emod_of_nonneg (by omega)]; omega
/-- the sibling of a place, if there is one -/
def sib (l : List Int) (i : Nat) : List Int := if flip1 i < l.length then [l.getD (flip1 i) 0] else []
def prl : List (List Int) → Nat → List Int
  | [], _ => []
  | l :: r, i => sib l i ++ prl r (i / 2)
theorem proof_loop (T : List (List Int)) (hT : T.length ≤ 10) (R : List (List Int)) : ∀ (t i k : Nat) (acc : List Int), T.drop t = R → i < 64 → acc.length + R.length ≤ 100 → R.length < k → merkle_Proof.l0 k (i : Int) acc T (T.length : Int) (t : Int) = some (acc ++ prl R i, 0) := by
  induction R with
  | nil =>
    intro t i k acc h _ _ hk
    obtain ⟨k, rfl⟩ : ∃ m, k = m + 1 := ⟨k - 1, by omega⟩
    have : T.length ≤ t := List.drop_eq_nil_iff.1 h
    rw [merkle_Proof.l0, if_neg (by omega)]
    simp [prl]
  | cons l R ih =>
    intro t i k acc h hi ha hk
    obtain ⟨k, rfl⟩ : ∃ m, k = m + 1 := ⟨k - 1, by omega⟩
    have ht : t < T.length := by
      by_cases h2 : t < T.length
      · exact h2
      · rw [List.drop_eq_nil_of_le (by omega)] at h
        cases h
    rw [List.drop_eq_getElem_cons ht] at h
    obtain ⟨hl, hR⟩ := List.cons.inj h
    have g : rd_L1 T (t : Int) = l := by unfold rd_L1; rw [Int.toNat_natCast, List.getD_eq_getElem?_getD, List.getElem?_eq_getElem ht]; exact hl
    have w1 : wrap64 ((t : Int) + 1) = ((t + 1 : Nat) : Int) := by rw [wrap64_in _ (by omega) (by omega)]; omega
    have w2 : wrap64 ((i / 2 : Nat) : Int) = ((i / 2 : Nat) : Int) := wrap64_in _ (by omega) (by omega)
    have r : rd l ((flip1 i : Nat) : Int) = l.getD (flip1 i) 0 := by unfold rd; rw [Int.toNat_natCast]
    simp only [List.length_cons] at ha hk
    rw [merkle_Proof.l0, if_pos (by omega), if_pos (by omega), if_pos (by omega), g, xor1 i hi, tdiv2, w1, w2, r]
    by_cases hf : flip1 i < l.length
    · rw [if_pos (by omega), if_pos (by omega), if_pos (by omega), ih (t + 1) (i / 2) k _ hR (by omega) (by simp; omega) (by omega)]
      simp [prl, sib, hf]
    · rw [if_neg (by omega), ih (t + 1) (i / 2) k _ hR (by omega) (by omega) (by omega)]
      simp [prl, sib, hf]
theorem proof_f (l : List Int) (i : Nat) (hl : l.length ≤ 60) (hi : i < l.length) (k : Nat) (hk : 400 ≤ k) : merkle_Proof.f (k + 1) l (i : Int) = some (prl (l :: up 6 l) i, 0) := by
  have hu := up_le 6 l
  unfold merkle_Proof.f
  rw [if_neg (by omega), if_neg (by omega), decide_eq_false (by omega), merkle_Proof.j0, if_neg (by decide), levels_f l (by omega) k hk, Option.bind_some, show (0 : Int) = ((0 : Nat) : Int) from rfl, proof_loop (l :: up 6 l) (by simp; omega) (l :: up 6 l) 0 i k [] rfl (by omega) (by simp; omega) (by simp; omega)]
  rfl
/-- what a leaf and the siblings make of it -/
def climb : Nat → List Int → Nat → Int → Int
  | 0, _, _, v => v
  | f + 1, l, i, v => if l.length > 1 then climb f (pairs l) (i / 2) (if flip1 i < l.length then (if i % 2 = 0 then joinI v (l.getD (flip1 i) 0) else joinI (l.getD (flip1 i) 0) v) else v) else v
theorem prl_one (l : List Int) (i : Nat) (h1 : l.length = 1) (hi : i < l.length) : prl [l] i = [] := by
  have : i = 0 := by omega
  subst this
  have hf : ¬ flip1 0 < l.length := by unfold flip1; rw [if_pos (by decide)]; omega
  simp [prl, sib, hf]
theorem prl_up (f : Nat) (l : List Int) (i : Nat) (h : l.length > 1) : prl (l :: up (f + 1) l) i = sib l i ++ prl (pairs l :: up f (pairs l)) (i / 2) := by
  rw [show up (f + 1) l = pairs l :: up f (pairs l) by rw [up, if_pos h]]
  rfl
theorem verify_one (root v : Int) (n i : Int) (hn : n ≤ 1) (k : Nat) : merkle_Verify.l0 (k + 1) root n i v [] = some (v == root) := by
  rw [merkle_Verify.l0, if_neg (by omega), if_pos (by simp)]
theorem verify_loop (root : Int) (f : Nat) : ∀ (l : List Int) (i k : Nat) (v : Int), 1 ≤ l.length → l.length ≤ 2 ^ f → l.length ≤ 64 → i < l.length → f < k → merkle_Verify.l0 k root (l.length : Int) (i : Int) v (prl (l :: up f l) i) = some (climb f l i v == root) := by
  induction f with
  | zero =>
    intro l i k v h1 h2 h3 hi hk
    obtain ⟨k, rfl⟩ : ∃ m, k = m + 1 := ⟨k - 1, by omega⟩
    simp at h2
    rw [up, prl_one l i (by omega) hi, verify_one root v _ _ (by omega)]
    rfl
  | succ f ih =>
    intro l i k v h1 h2 h3 hi hk
    obtain ⟨k, rfl⟩ : ∃ m, k = m + 1 := ⟨k - 1, by omega⟩
    by_cases h : l.length > 1
    · have hp : (pairs l).length = (l.length + 1) / 2 := pairs_length l
      have ih' := fun v' => ih (pairs l) (i / 2) k v' (by omega) (by rw [Nat.pow_succ] at h2; omega) (by omega) (by omega) (by omega)
      rw [hp] at ih'
      have w1 : wrap64 ((l.length : Int) + 1) = ((l.length + 1 : Nat) : Int) := by rw [wrap64_in _ (by omega) (by omega)]; omega
      have w2 : wrap64 ((i / 2 : Nat) : Int) = ((i / 2 : Nat) : Int) := wrap64_in _ (by omega) (by omega)
      have w3 : wrap64 (((l.length + 1) / 2 : Nat) : Int) = (((l.length + 1) / 2 : Nat) : Int) := wrap64_in _ (by omega) (by omega)
      rw [prl_up f l i h]
      generalize prl (pairs l :: up f (pairs l)) (i / 2) = P at *
      rw [merkle_Verify.l0, if_pos (by omega), xor1 i (by omega), tmod2, w1, tdiv2, tdiv2, w2, w3, climb, if_pos h]
      by_cases hf : flip1 i < l.length
      · have es : sib l i = [l.getD (flip1 i) 0] := if_pos hf
        rw [es, if_pos hf, if_pos (by omega)]
        generalize l.getD (flip1 i) 0 = s
        have r0 : rd ([s] ++ P) 0 = s := rfl
        have d1 : ([s] ++ P).drop 1 = P := rfl
        have hlen : (([s] ++ P).length : Int) = (P.length : Int) + 1 := by simp
        rw [if_neg (by omega), r0, d1]
        by_cases hm : i % 2 = 0
        · rw [if_pos (by omega), if_pos hm, if_pos (by omega), join_f, Option.bind_some, if_pos (by omega), ih']
        · rw [if_neg (by omega), if_neg hm, if_pos (by omega), join_f, Option.bind_some, if_pos (by omega), ih']
      · have es : sib l i = [] := if_neg hf
        rw [es, if_neg hf, if_neg (by omega), List.nil_append, ih']
    · rw [up, if_neg h, prl_one l i (by omega) hi, verify_one root v _ _ (by omega), climb, if_neg h]
theorem climb_top (f : Nat) : ∀ (l : List Int) (i : Nat), 1 ≤ l.length → l.length ≤ 2 ^ f → i < l.length → climb f l i (l.getD i 0) = (lev (up f l).length l).getD 0 0 := by
  induction f with
  | zero =>
    intro l i h1 h2 hi
    simp at h2
    have : i = 0 := by omega
    subst this
    rfl
  | succ f ih =>
    intro l i h1 h2 hi
    by_cases h : l.length > 1
    · have hp : (pairs l).length = (l.length + 1) / 2 := pairs_length l
      rw [climb, if_pos h, up, if_pos h, List.length_cons, lev, ← ih (pairs l) (i / 2) (by omega) (by rw [Nat.pow_succ] at h2; omega) (by omega)]
      congr 1
      rw [getD_of (pairs l) (i / 2), pairs_get]
      unfold flip1
      rcases Nat.mod_two_eq_zero_or_one i with hm | hm
      · have e : 2 * (i / 2) = i := by omega
        rw [if_pos hm, if_pos hm, e]
        by_cases hf : i + 1 < l.length
        · rw [if_pos hf, if_pos hf]; rfl
        · rw [if_neg hf, if_neg hf, getD_of]
      · have e : 2 * (i / 2) = i - 1 := by omega
        have e2 : i - 1 + 1 = i := by omega
        have hm' : ¬ i % 2 = 0 := by omega
        have hlt : i - 1 < l.length := by omega
        rw [if_neg hm', if_neg hm', e, e2, if_pos hlt, if_pos hi]; rfl
    · have : i = 0 := by omega
      subst this
      rw [climb, if_neg h, up, if_neg h]
      rfl
theorem getD_word (l : List Int) (j : Nat) (h : Words l) (hj : j < l.length) : Word (l.getD j 0) := by
  rw [List.getD_eq_getElem?_getD, List.getElem?_eq_getElem hj]
  exact h _ (List.getElem_mem hj)
theorem climb_inj (f : Nat) : ∀ (l : List Int) (i : Nat) (v u : Int), Words l → Word v → Word u → climb f l i v = climb f l i u → v = u := by
  induction f with
  | zero => intro l i v u _ _ _ h; exact h
  | succ f ih =>
    intro l i v u hl hv hu h
    rw [climb, climb] at h
    by_cases h1 : l.length > 1
    · rw [if_pos h1, if_pos h1] at h
      by_cases hf : flip1 i < l.length
      · have hw := getD_word l (flip1 i) hl hf
        rw [if_pos hf, if_pos hf] at h
        by_cases hm : i % 2 = 0
        · rw [if_pos hm, if_pos hm] at h
          exact join_left _ _ _ hv.1 hv.2 hu.1 hu.2 (ih _ _ _ _ (pairs_words l hl) (join_range _ _) (join_range _ _) h)
        · rw [if_neg hm, if_neg hm] at h
          exact join_right _ _ _ hv.1 hv.2 hu.1 hu.2 (ih _ _ _ _ (pairs_words l hl) (join_range _ _) (join_range _ _) h)
      · rw [if_neg hf, if_neg hf] at h
        exact ih _ _ _ _ (pairs_words l hl) hv hu h
    · rw [if_neg h1, if_neg h1] at h
      exact h
/-- how many siblings a proof needs -/
def need : Nat → Nat → Nat → Nat
  | 0, _, _ => 0
  | f + 1, n, i => if n > 1 then (if flip1 i < n then 1 else 0) + need f ((n + 1) / 2) (i / 2) else 0
theorem need_le (f : Nat) : ∀ n i, need f n i ≤ f := by
  induction f with
  | zero => intro n i; exact Nat.le_refl _
  | succ f ih =>
    intro n i
    have := ih ((n + 1) / 2) (i / 2)
    unfold need
    split
    · split <;> omega
    · omega
theorem prl_need (f : Nat) : ∀ (l : List Int) (i : Nat), 1 ≤ l.length → l.length ≤ 2 ^ f → i < l.length → (prl (l :: up f l) i).length = need f l.length i := by
  induction f with
  | zero =>
    intro l i h1 h2 hi
    simp at h2
    rw [up, prl_one l i (by omega) hi]
    rfl
  | succ f ih =>
    intro l i h1 h2 hi
    by_cases h : l.length > 1
    · have hp : (pairs l).length = (l.length + 1) / 2 := pairs_length l
      rw [prl_up f l i h, List.length_append, ih (pairs l) (i / 2) (by omega) (by rw [Nat.pow_succ] at h2; omega) (by omega), need, if_pos h, hp]
      unfold sib
      split <;> rfl
    · rw [up, if_neg h, prl_one l i (by omega) hi, need, if_neg h]
      rfl
theorem verify_short (root : Int) (f : Nat) : ∀ (n i k : Nat) (v : Int) (P : List Int), n ≤ 64 → i < n → f < k → P.length < need f n i → merkle_Verify.l0 k root (n : Int) (i : Int) v P = some false := by
  induction f with
  | zero => intro n i k v P _ _ _ h; simp [need] at h
  | succ f ih =>
    intro n i k v P h3 hi hk hP
    obtain ⟨k, rfl⟩ : ∃ m, k = m + 1 := ⟨k - 1, by omega⟩
    unfold need at hP
    by_cases h : n > 1
    · rw [if_pos h] at hP
      have ih' := fun v' P' => ih ((n + 1) / 2) (i / 2) k v' P' (by omega) (by omega) (by omega)
      have w1 : wrap64 ((n : Int) + 1) = ((n + 1 : Nat) : Int) := by rw [wrap64_in _ (by omega) (by omega)]; omega
      have w2 : wrap64 ((i / 2 : Nat) : Int) = ((i / 2 : Nat) : Int) := wrap64_in _ (by omega) (by omega)
      have w3 : wrap64 (((n + 1) / 2 : Nat) : Int) = (((n + 1) / 2 : Nat) : Int) := wrap64_in _ (by omega) (by omega)
      rw [merkle_Verify.l0, if_pos (by omega), xor1 i (by omega), tmod2, w1, tdiv2, tdiv2, w2, w3]
      by_cases hf : flip1 i < n
      · rw [if_pos hf] at hP
        rw [if_pos (by omega)]
        by_cases h0 : P.length = 0
        · rw [if_pos (by omega)]
        · have hd : (P.drop 1).length < need f ((n + 1) / 2) (i / 2) := by rw [List.length_drop]; omega
          rw [if_neg (by omega)]
          by_cases hm : i % 2 = 0
          · rw [if_pos (by omega), if_pos (by omega), join_f, Option.bind_some, if_pos (by omega), ih' _ _ hd]
          · rw [if_neg (by omega), if_pos (by omega), join_f, Option.bind_some, if_pos (by omega), ih' _ _ hd]
      · rw [if_neg hf] at hP
        rw [if_neg (by omega), ih' _ _ (by omega)]
    · rw [if_neg h] at hP
      omega
theorem verify_f (root v : Int) (n i : Nat) (hn : n ≤ 60) (hi : i < n) (P : List Int) (k : Nat) : merkle_Verify.f (k + 1) root (n : Int) (i : Int) v P = merkle_Verify.l0 k root (n : Int) (i : Int) v P := by
  unfold merkle_Verify.f
  rw [if_neg (by omega), if_neg (by omega), if_neg (by omega), decide_eq_false (by omega), merkle_Verify.j0, if_neg (by decide)]

end Go.Proofs.Ytknmlikjmnhgkaa.QRnd
