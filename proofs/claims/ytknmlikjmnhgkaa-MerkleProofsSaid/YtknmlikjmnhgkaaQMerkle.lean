/- What the printed functions of package merkle compute, for lists of at most 64 words: the levels of a tree, what differs in them, and how a leaf that differs is found. -/
import Derived.Test.YtknmlikjmnhgkaaPAllx2
import Derived.Test.YtknmlikjmnhgkaaPAllx3
import Derived.Test.YtknmlikjmnhgkaaPAllx4
import Derived.Test.YtknmlikjmnhgkaaPAllx5
import Derived.Test.YtknmlikjmnhgkaaQJoin
namespace Go.Proofs.Ytknmlikjmnhgkaa.QRnd
open Go Go.RowKit Go.Proofs.Ytknmlikjmnhgkaa.P Go.Proofs.YtknmlikjmnhgkaaW.PrintWords Go.Proofs.YtknmlikjmnhgkaaW.PrintLast Go.Proofs.YtknmlikjmnhgkaaW.PrintMore

/-- the level above -/
def pairs : List Int → List Int
  | a :: b :: r => joinI a b :: pairs r
  | l => l
theorem pairs_length (l : List Int) : (pairs l).length = (l.length + 1) / 2 := by
  induction l using pairs.induct with
  | case1 a b r ih => simp only [pairs, List.length_cons, ih]; omega
  | case2 l h =>
    match l, h with
    | [], _ => simp [pairs]
    | [a], _ => simp [pairs]
    | a :: b :: r, h => exact absurd rfl (h a b r)
theorem pairs_get (l : List Int) : ∀ t : Nat, (pairs l)[t]? = if 2 * t + 1 < l.length then some (joinI (l.getD (2 * t) 0) (l.getD (2 * t + 1) 0)) else l[2 * t]? := by
  induction l using pairs.induct with
  | case1 a b r ih =>
    intro t
    cases t with
    | zero => simp [pairs]
    | succ t =>
      rw [pairs, List.getElem?_cons_succ, ih t]
      have e1 : 2 * (t + 1) = (2 * t + 1) + 1 := by omega
      have e2 : 2 * (t + 1) + 1 = (2 * t + 1 + 1) + 1 := by omega
      rw [e1]
      simp only [List.length_cons, List.getD_cons_succ, List.getElem?_cons_succ]
      by_cases h : 2 * t + 1 < r.length
      · rw [if_pos h, if_pos (by omega)]
      · rw [if_neg h, if_neg (by omega)]
  | case2 l h =>
    intro t
    match l, h with
    | [], _ => simp [pairs]
    | [a], _ =>
      cases t with
      | zero => rfl
      | succ t => simp [pairs]
    | a :: b :: r, h => exact absurd rfl (h a b r)
def Words (l : List Int) : Prop := ∀ x ∈ l, Word x
theorem pairs_words (l : List Int) (h : Words l) : Words (pairs l) := by
  induction l using pairs.induct with
  | case1 a b r ih =>
    intro x hx
    rcases List.mem_cons.1 hx with rfl | hx
    · exact join_range _ _
    · exact ih (fun y hy => h y (by simp [hy])) x hx
  | case2 l h2 =>
    match l, h2 with
    | [], _ => exact h
    | [a], _ => exact h
    | a :: b :: r, h2 => exact absurd rfl (h2 a b r)
/-- two lists that differ in one place -/
structure Diff (l m : List Int) (j : Nat) : Prop where
  len : l.length = m.length
  lt : j < l.length
  same : ∀ t, t ≠ j → l[t]? = m[t]?
  ne : l[j]? ≠ m[j]?
theorem getD_of (l : List Int) (t : Nat) : l.getD t 0 = (l[t]?).getD 0 := by simp [List.getD]
theorem diff_pairs {l m : List Int} {j : Nat} (h : Diff l m j) (hl : Words l) (hm : Words m) : Diff (pairs l) (pairs m) (j / 2) := by
  obtain ⟨hlen, hlt, hs, hne⟩ := h
  refine ⟨by rw [pairs_length, pairs_length, hlen], by rw [pairs_length]; omega, fun t ht => ?_, ?_⟩
  · rw [pairs_get, pairs_get, hlen]
    simp only [getD_of]
    rw [hs (2 * t) (by omega), hs (2 * t + 1) (by omega)]
  · rw [pairs_get, pairs_get, hlen]
    have hlm : j < m.length := by omega
    have e1 : l[j]? = some l[j] := List.getElem?_eq_getElem hlt
    have e2 : m[j]? = some m[j] := List.getElem?_eq_getElem hlm
    have hd : l[j] ≠ m[j] := fun e => hne (by rw [e1, e2, e])
    have wl := hl _ (List.getElem_mem hlt)
    have wm := hm _ (List.getElem_mem hlm)
    rcases Nat.mod_two_eq_zero_or_one j with hj | hj
    · have ej : 2 * (j / 2) = j := by omega
      rw [ej]
      by_cases h2 : j + 1 < m.length
      · rw [if_pos h2, if_pos h2]
        simp only [getD_of]
        rw [hs (j + 1) (by omega), e1, e2]
        intro e
        exact hd (join_left _ _ _ wl.1 wl.2 wm.1 wm.2 (Option.some.inj e))
      · rw [if_neg h2, if_neg h2]
        exact hne
    · have ej : 2 * (j / 2) + 1 = j := by omega
      rw [ej, if_pos hlm, if_pos hlm]
      simp only [getD_of]
      rw [hs (2 * (j / 2)) (by omega), e1, e2]
      intro e
      exact hd (join_right _ _ _ wl.1 wl.2 wm.1 wm.2 (Option.some.inj e))
/-- the level n steps above -/
def lev : Nat → List Int → List Int
  | 0, l => l
  | n + 1, l => lev n (pairs l)
theorem lev_succ (n : Nat) : ∀ l, lev (n + 1) l = pairs (lev n l) := by
  induction n with
  | zero => intro l; rfl
  | succ n ih => intro l; exact ih (pairs l)
theorem lev_words (n : Nat) : ∀ l, Words l → Words (lev n l) := by
  induction n with
  | zero => intro l h; exact h
  | succ n ih => intro l h; exact ih _ (pairs_words l h)
theorem lev_diff (n : Nat) : ∀ {l m : List Int} {j : Nat}, Diff l m j → Words l → Words m → Diff (lev n l) (lev n m) (j / 2 ^ n) := by
  induction n with
  | zero => intro l m j h _ _; simpa [lev] using h
  | succ n ih =>
    intro l m j h hl hm
    have := ih (diff_pairs h hl hm) (pairs_words l hl) (pairs_words m hm)
    rwa [Nat.div_div_eq_div_mul, Nat.mul_comm, ← Nat.pow_succ] at this
/-- the levels above a list, as long as they have more than one node -/
def up : Nat → List Int → List (List Int)
  | 0, _ => []
  | f + 1, l => if l.length > 1 then pairs l :: up f (pairs l) else []
theorem up_length (f : Nat) : ∀ l m : List Int, l.length = m.length → (up f l).length = (up f m).length := by
  induction f with
  | zero => intro l m _; rfl
  | succ f ih =>
    intro l m h
    have hp := ih (pairs l) (pairs m) (by rw [pairs_length, pairs_length, h])
    unfold up
    rw [h]
    split
    · simp [hp]
    · rfl
theorem up_le (f : Nat) : ∀ l, (up f l).length ≤ f := by
  induction f with
  | zero => intro l; exact Nat.le_refl _
  | succ f ih =>
    intro l
    unfold up
    split
    · have := ih (pairs l); simp; omega
    · exact Nat.zero_le _
theorem up_get (f : Nat) : ∀ (l : List Int) (n : Nat), n ≤ (up f l).length → (l :: up f l).getD n [] = lev n l := by
  induction f with
  | zero => intro l n hn; have : n = 0 := by simpa [up] using hn
            subst this; rfl
  | succ f ih =>
    intro l n hn
    cases n with
    | zero => rfl
    | succ n =>
      unfold up at hn ⊢
      by_cases h : l.length > 1
      · rw [if_pos h] at hn ⊢
        rw [List.getD_cons_succ]
        exact ih (pairs l) n (by simpa using hn)
      · rw [if_neg h] at hn
        simp at hn
theorem up_top (f : Nat) : ∀ l : List Int, 1 ≤ l.length → l.length ≤ 2 ^ f → (lev (up f l).length l).length = 1 := by
  induction f with
  | zero => intro l h1 h2; show l.length = 1; simp at h2; omega
  | succ f ih =>
    intro l h1 h2
    unfold up
    by_cases h : l.length > 1
    · rw [if_pos h]
      exact ih (pairs l) (by rw [pairs_length]; omega) (by rw [pairs_length]; rw [Nat.pow_succ] at h2; omega)
    · rw [if_neg h]
      show l.length = 1
      omega
/-! the printed functions -/
theorem pairs_loop (x3 : List (List Int)) (l : List Int) (hl : l.length ≤ 64) (h3 : x3.length ≤ 100) (d : Nat) : ∀ (k i : Nat) (acc : List Int), l.length ≤ 2 * i + 2 * d → i + d ≤ 40 → acc.length ≤ i → d < k → ∃ k', k ≤ k' + d + 1 ∧ k' + 1 ≤ k ∧
    merkle_levels.l1 k x3 l acc ((2 * i : Nat) : Int) = merkle_levels.l0 k' (x3 ++ [acc ++ pairs (l.drop (2 * i))]) (acc ++ pairs (l.drop (2 * i))) := by
  induction d with
  | zero =>
    intro k i acc h1 _ _ hk
    obtain ⟨k, rfl⟩ : ∃ m, k = m + 1 := ⟨k - 1, by omega⟩
    refine ⟨k, by omega, by omega, ?_⟩
    rw [merkle_levels.l1, if_neg (by omega), if_pos (by omega), List.drop_eq_nil_of_le (by omega)]
    simp [pairs]
  | succ d ih =>
    intro k i acc h1 h2 h3' hk
    obtain ⟨k, rfl⟩ : ∃ m, k = m + 1 := ⟨k - 1, by omega⟩
    have w1 : wrap64 (((2 * i : Nat) : Int) + 1) = ((2 * i + 1 : Nat) : Int) := by rw [wrap64_in _ (by omega) (by omega)]; omega
    have w2 : wrap64 (((2 * i : Nat) : Int) + 2) = ((2 * (i + 1) : Nat) : Int) := by rw [wrap64_in _ (by omega) (by omega)]; omega
    by_cases ha : 2 * i < l.length
    · have r1 : rd l ((2 * i : Nat) : Int) = l[2 * i] := by unfold rd; rw [Int.toNat_natCast, List.getD_eq_getElem?_getD, List.getElem?_eq_getElem ha]; rfl
      by_cases hb : 2 * i + 1 < l.length
      · have r2 : rd l ((2 * i + 1 : Nat) : Int) = l[2 * i + 1] := by unfold rd; rw [Int.toNat_natCast, List.getD_eq_getElem?_getD, List.getElem?_eq_getElem hb]; rfl
        obtain ⟨k', e1, e2, h⟩ := ih k (i + 1) (acc ++ [joinI l[2 * i] l[2 * i + 1]]) (by omega) (by omega) (by simp; omega) (by omega)
        refine ⟨k', by omega, by omega, ?_⟩
        rw [merkle_levels.l1, if_pos (by omega), w1, if_pos (by omega), if_pos (by omega), if_pos (by omega), r1, r2, join_f, Option.bind_some, if_pos (by omega), w2, h]
        have hd : l.drop (2 * i) = l[2 * i] :: l[2 * i + 1] :: l.drop (2 * (i + 1)) := by
          rw [List.drop_eq_getElem_cons ha, List.drop_eq_getElem_cons hb, show 2 * i + 1 + 1 = 2 * (i + 1) from by omega]
        rw [hd, pairs, List.append_assoc]
        rfl
      · obtain ⟨k', e1, e2, h⟩ := ih k (i + 1) (acc ++ [l[2 * i]]) (by omega) (by omega) (by simp; omega) (by omega)
        refine ⟨k', by omega, by omega, ?_⟩
        rw [merkle_levels.l1, if_pos (by omega), w1, if_neg (by omega), if_pos (by omega), if_pos (by omega), r1, w2, h]
        have hd : l.drop (2 * i) = [l[2 * i]] := by
          rw [List.drop_eq_getElem_cons ha, List.drop_eq_nil_of_le (by omega)]
        rw [hd, List.drop_eq_nil_of_le (by omega)]
        simp [pairs]
    · refine ⟨k, by omega, by omega, ?_⟩
      rw [merkle_levels.l1, if_neg (by omega), if_pos (by omega), List.drop_eq_nil_of_le (by omega)]
      simp [pairs]
theorem up_loop (f : Nat) : ∀ (l : List Int) (x3 : List (List Int)) (k : Nat), f ≤ 6 → l.length ≤ 2 ^ f → l.length ≤ 64 → x3.length + f ≤ 50 → 40 * (f + 1) ≤ k → merkle_levels.l0 k x3 l = some (x3 ++ up f l) := by
  induction f with
  | zero =>
    intro l x3 k _ h1 _ _ hk
    obtain ⟨k, rfl⟩ : ∃ m, k = m + 1 := ⟨k - 1, by omega⟩
    simp at h1
    rw [merkle_levels.l0, if_neg (by omega)]
    simp [up]
  | succ f ih =>
    intro l x3 k hf h1 h2 h3 hk
    obtain ⟨k, rfl⟩ : ∃ m, k = m + 1 := ⟨k - 1, by omega⟩
    unfold up
    by_cases h : l.length > 1
    · rw [merkle_levels.l0, if_pos (by omega), if_pos h]
      obtain ⟨k', e1, e2, hh⟩ := pairs_loop x3 l h2 (by omega) 33 k 0 [] (by omega) (by omega) (by simp) (by omega)
      have := ih (pairs l) (x3 ++ [pairs l]) k' (by omega) (by rw [pairs_length]; rw [Nat.pow_succ] at h1; omega) (by rw [pairs_length]; omega) (by simp; omega) (by omega)
      rw [show ((2 * 0 : Nat) : Int) = 0 from rfl, List.drop_zero, List.nil_append] at hh
      rw [hh, this, List.append_assoc]
      rfl
    · rw [merkle_levels.l0, if_neg (by omega), if_neg h]
      simp
theorem levels_f (l : List Int) (hl : l.length ≤ 64) (k : Nat) (hk : 400 ≤ k) : merkle_levels.f k l = some (l :: up 6 l) := by
  unfold merkle_levels.f
  have e : rd_L1 [l] 0 = l := rfl
  rw [if_pos (by simp; omega), Option.bind_some, List.nil_append, if_pos (by simp), e, up_loop 6 l [l] k (by omega) (by omega) hl (by simp) (by omega)]
  rfl
theorem filled_f (l m : List Int) (hl : l.length ≤ 64) (h : l.length = m.length) (k : Nat) (hk : 1 ≤ k) : merkle_filled.f k l m = some l := by
  obtain ⟨k, rfl⟩ : ∃ m, k = m + 1 := ⟨k - 1, by omega⟩
  unfold merkle_filled.f
  rw [if_pos (by simp; omega), merkle_filled.l0, if_neg (by omega)]
  rfl
theorem tree_get (l : List Int) (n : Nat) (hn : n ≤ (up 6 l).length) : rd_L1 (l :: up 6 l) (n : Int) = lev n l := by
  unfold rd_L1
  rw [Int.toNat_natCast]
  exact up_get 6 l n hn
theorem top_one (l : List Int) (h1 : 1 ≤ l.length) (h2 : l.length ≤ 64) : (lev (up 6 l).length l).length = 1 := up_top 6 l h1 (by omega)
theorem root_f (l : List Int) (h1 : 1 ≤ l.length) (h2 : l.length ≤ 64) (k : Nat) (hk : 400 ≤ k) : merkle_Root.f k l = some (rd (lev (up 6 l).length l) 0, 0) := by
  have hu := up_le 6 l
  have ht := top_one l h1 h2
  unfold merkle_Root.f
  have el : ((l :: up 6 l).length : Int) = ((up 6 l).length : Int) + 1 := by simp
  rw [if_neg (by omega), if_neg (by omega), levels_f l h2 k hk, Option.bind_some, el, wrap64_in _ (by omega) (by omega), show ((up 6 l).length : Int) + 1 - 1 = ((up 6 l).length : Int) by omega, if_pos (by omega), if_pos (by omega), tree_get l _ (Nat.le_refl _), ht, if_pos (by omega)]
/-- down the tree, along what differs -/
theorem find_loop (x y : List Int) (i : Nat) (hx : x.length ≤ 64) (hd : Diff x y i) (wx : Words x) (wy : Words y) (n : Nat) : ∀ (k : Nat) (c : Int), n ≤ (up 6 x).length → n < k → 0 ≤ c → c + (n : Int) ≤ 100 →
    ∃ c', merkle_Narrow.l0 k (x :: up 6 x) (y :: up 6 y) ((i / 2 ^ n : Nat) : Int) c ((n : Int) - 1) = some ((i : Int), c') ∧ c ≤ c' ∧ c' ≤ c + n := by
  induction n with
  | zero =>
    intro k c _ hk _ _
    obtain ⟨k, rfl⟩ : ∃ m, k = m + 1 := ⟨k - 1, by omega⟩
    refine ⟨c, ?_, by omega, by omega⟩
    rw [merkle_Narrow.l0, if_neg (by omega)]
    simp
  | succ n ih =>
    intro k c hn hk c0 c1
    obtain ⟨k, rfl⟩ : ∃ m, k = m + 1 := ⟨k - 1, by omega⟩
    have hu := up_le 6 x
    have huy := up_length 6 x y hd.len
    have hdn := lev_diff n hd wx wy
    have hi : i < 64 := by have := hd.lt; omega
    have hq : i / 2 ^ (n + 1) = (i / 2 ^ n) / 2 := by rw [Nat.pow_succ, Nat.div_div_eq_div_mul]
    have hle : i / 2 ^ n ≤ i := Nat.div_le_self _ _
    rw [hq]
    generalize i / 2 ^ n = j at *
    have gx : rd_L1 (x :: up 6 x) (n : Int) = lev n x := tree_get x n (by omega)
    have gy : rd_L1 (y :: up 6 y) (n : Int) = lev n y := tree_get y n (by omega)
    have lx : ((x :: up 6 x).length : Int) = ((up 6 x).length : Int) + 1 := by simp
    have ly : ((y :: up 6 y).length : Int) = ((up 6 x).length : Int) + 1 := by simp [huy]
    obtain ⟨hlen, hlt, hs, hne⟩ := hdn
    generalize lev n x = X at *
    generalize lev n y = Y at *
    have w1 : wrap64 (((j / 2 : Nat) : Int) * 2) = ((2 * (j / 2) : Nat) : Int) := by rw [wrap64_in _ (by omega) (by omega)]; omega
    have w2 : wrap64 (((2 * (j / 2) : Nat) : Int) + 1) = ((2 * (j / 2) + 1 : Nat) : Int) := by rw [wrap64_in _ (by omega) (by omega)]; omega
    have w3 : wrap64 (((n + 1 : Nat) : Int) - 1 - 1) = (n : Int) - 1 := by rw [wrap64_in _ (by omega) (by omega)]; omega
    have w4 : wrap64 (c + 1) = c + 1 := wrap64_in _ (by omega) (by omega)
    have e0 : ((n + 1 : Nat) : Int) - 1 = (n : Int) := by omega
    rw [merkle_Narrow.l0, w3, w1, w2, e0, if_pos (by omega), if_pos (by omega), if_pos (by omega), gx, gy]
    by_cases hc : 2 * (j / 2) + 1 = X.length
    · rw [if_pos (by omega)]
      have ej : 2 * (j / 2) = j := by omega
      rw [ej]
      obtain ⟨c', h, a, b⟩ := ih k c (by omega) (by omega) c0 (by omega)
      exact ⟨c', h, a, by omega⟩
    · have hltx : 2 * (j / 2) < X.length := by omega
      have hlty : 2 * (j / 2) < Y.length := by omega
      have rx : rd X ((2 * (j / 2) : Nat) : Int) = X[2 * (j / 2)] := by unfold rd; rw [Int.toNat_natCast, List.getD_eq_getElem?_getD, List.getElem?_eq_getElem hltx]; rfl
      have ry : rd Y ((2 * (j / 2) : Nat) : Int) = Y[2 * (j / 2)] := by unfold rd; rw [Int.toNat_natCast, List.getD_eq_getElem?_getD, List.getElem?_eq_getElem hlty]; rfl
      rw [if_neg (by omega), if_pos (by omega), if_pos (by omega), if_pos (by omega), if_pos (by omega), rx, ry, w4]
      by_cases he : X[2 * (j / 2)] = Y[2 * (j / 2)]
      · rw [if_pos he]
        have ej : 2 * (j / 2) + 1 = j := by
          rcases Nat.mod_two_eq_zero_or_one j with hj | hj
          · exfalso
            have ej : 2 * (j / 2) = j := by omega
            apply hne
            simp only [ej] at he
            rw [List.getElem?_eq_getElem hlt, List.getElem?_eq_getElem (by omega), he]
          · omega
        rw [ej]
        obtain ⟨c', h, a, b⟩ := ih k (c + 1) (by omega) (by omega) (by omega) (by omega)
        exact ⟨c', h, by omega, by omega⟩
      · rw [if_neg he]
        have ej : 2 * (j / 2) = j := by
          rcases Nat.mod_two_eq_zero_or_one j with hj | hj
          · omega
          · exfalso
            have h1 := hs (2 * (j / 2)) (by omega)
            rw [List.getElem?_eq_getElem hltx, List.getElem?_eq_getElem hlty] at h1
            exact he (Option.some.inj h1)
        rw [ej]
        obtain ⟨c', h, a, b⟩ := ih k (c + 1) (by omega) (by omega) (by omega) (by omega)
        exact ⟨c', h, by omega, by omega⟩

end Go.Proofs.Ytknmlikjmnhgkaa.QRnd
