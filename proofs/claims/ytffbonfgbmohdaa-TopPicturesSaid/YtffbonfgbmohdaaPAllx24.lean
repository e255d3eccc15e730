/- Functions of this seat in plain Lean and their contracts, written by a turned copy of the kit's print (turns: wip/pr/make.py of this session). No condition. Short rows. -/
import Derived.Test.YtffbonfgbmohdaaPAllx0
import Derived.Test.YtffbonfgbmohdaaPAllx1
import Derived.Test.YtffbonfgbmohdaaPAllx3
import Derived.Test.YtffbonfgbmohdaaPAllx23
namespace Go.Proofs.Ytffbonfgbmohdaa.P
open Go.RowKit Go.Proofs.YtffbonfgbmohdaaW.PrintWords Go.Proofs.YtffbonfgbmohdaaW.PrintLast Go.Proofs.YtffbonfgbmohdaaW.PrintMore
attribute [local go_sem] max2_int min2_int max_two min_two max_three min_three max_four min_four   -- for this text's walks alone
set_option linter.unusedVariables false
set_option linter.unusedSimpArgs false

/-! ### cull_Seen: function 27 -/
/-- a point within the bounds -/
def InP (p : S43) : Prop := -65536000 ≤ p.f0 ∧ p.f0 ≤ 65536000 ∧ -65536000 ≤ p.f1 ∧ p.f1 ≤ 65536000
/-- a thing that is checked -/
def OKT (t : S26) : Prop := (t.f0 = 1 ∨ t.f0 = 2) ∧ (t.f3.length : Int) = t.f0 + 1 ∧ 0 ≤ t.f1 ∧ t.f1 ≤ 100 ∧ 1 ≤ t.f2 ∧ t.f2 ≤ 255 ∧ ∀ p ∈ t.f3, InP p
theorem mn_eq (a b : Int) : mn a b = min a b := by unfold mn; omega
theorem mx_eq (a b : Int) : mx a b = max a b := by unfold mx; omega
theorem rd43_mem {l : List S43} {i : Nat} (h : i < l.length) : rd_T43 l (i : Int) ∈ l := by
 unfold rd_T43
 rw [Int.toNat_natCast, List.getD_eq_getElem?_getD, List.getElem?_eq_getElem h]
 exact List.getElem_mem h
theorem mem_rd43 {l : List S43} {p : S43} (h : p ∈ l) : ∃ i : Nat, i < l.length ∧ rd_T43 l (i : Int) = p := by
 obtain ⟨i, hi, e⟩ := List.getElem_of_mem h
 refine ⟨i, hi, ?_⟩
 unfold rd_T43
 rw [Int.toNat_natCast, List.getD_eq_getElem?_getD, List.getElem?_eq_getElem hi]
 exact e
theorem check_l0 (l : List S43) (hl : l.length ≤ 10) : ∀ (d i k : Nat), i + d = l.length → d < k → ∃ r, cull_Check.l0 k l (l.length : Int) (i : Int) = some r ∧ (r = 0 ↔ ∀ j : Nat, i ≤ j → j < l.length → InP (rd_T43 l (j : Int)))
 | 0, i, k + 1, h, _ => by
  unfold cull_Check.l0
  rw [if_neg (by omega)]
  exact ⟨0, rfl, fun _ j h1 h2 => by omega, fun _ => rfl⟩
 | d + 1, i, k + 1, h, hk => by
  unfold cull_Check.l0
  rw [if_pos (by omega), if_pos (by omega), if_pos (by omega)]
  rw [mn_eq, mx_eq]
  by_cases h1 : min (rd_T43 l (i : Int)).f0 (rd_T43 l (i : Int)).f1 < -65536000
  ·
   rw [if_pos h1]
   refine ⟨2, rfl, fun h => absurd h (by decide), fun H => ?_⟩
   have := H i (Nat.le_refl _) (by omega)
   unfold InP at this
   omega
  ·
   rw [if_neg h1]
   by_cases h2 : max (rd_T43 l (i : Int)).f0 (rd_T43 l (i : Int)).f1 > 65536000
   ·
    rw [if_pos h2]
    refine ⟨2, rfl, fun h => absurd h (by decide), fun H => ?_⟩
    have := H i (Nat.le_refl _) (by omega)
    unfold InP at this
    omega
   ·
    rw [if_neg h2, show wrap64 ((i : Int) + 1) = ((i + 1 : Nat) : Int) by unfold wrap64; omega]
    obtain ⟨r, e, hr⟩ := check_l0 l hl d (i + 1) k (by omega) (by omega)
    refine ⟨r, e, hr.trans ⟨fun H j h3 h4 => ?_, fun H j h3 h4 => H j (by omega) h4⟩⟩
    by_cases hj : j = i
    ·
     subst hj; unfold InP; omega
    ·
     exact H j (by omega) h4
/-- Check answers, and 0 just for a thing that is checked. -/
theorem check_some (t : S26) (hl : t.f3.length ≤ 10) (k : Nat) (hk : 13 ≤ k) : ∃ r, cull_Check.f k t.f0 t.f1 t.f2 t.f3 = some r ∧ (r = 0 ↔ OKT t) := by
 obtain ⟨q, rfl⟩ : ∃ q, k = q + 2 := ⟨k - 2, by omega⟩
 obtain ⟨r0, e0, h0⟩ := check_l0 t.f3 hl t.f3.length 0 q (by omega) (by omega)
 have hall : (∀ j : Nat, 0 ≤ j → j < t.f3.length → InP (rd_T43 t.f3 (j : Int))) ↔ ∀ p ∈ t.f3, InP p :=
  ⟨fun H p hp => by obtain ⟨i, hi, e⟩ := mem_rd43 hp; exact e ▸ H i (Nat.zero_le _) hi, fun H j _ hj => H _ (rd43_mem hj)⟩
 unfold cull_Check.f
 have tail : ∀ b : Bool, (b = false ↔ (t.f0 = 1 ∨ t.f0 = 2) ∧ (t.f3.length : Int) = t.f0 + 1) → ∃ r, cull_Check.j0 (q + 2) b t.f0 t.f1 t.f2 t.f3 = some r ∧ (r = 0 ↔ OKT t) := by
  intro b hb
  unfold cull_Check.j0
  cases b
  ·
   have hb := hb.1 rfl
   simp only [Bool.false_eq_true, if_false]
   by_cases h1 : t.f1 < 0
   ·
    rw [if_pos h1]
    unfold cull_Check.j1
    exact ⟨1, by simp, fun h => absurd h (by decide), fun H => by unfold OKT at H; omega⟩
   rw [if_neg h1]
   by_cases h2 : t.f1 > 100
   ·
    rw [if_pos h2]
    unfold cull_Check.j1
    exact ⟨1, by simp, fun h => absurd h (by decide), fun H => by unfold OKT at H; omega⟩
   rw [if_neg h2]
   by_cases h3 : t.f2 < 1
   ·
    rw [if_pos h3]
    unfold cull_Check.j1
    exact ⟨1, by simp, fun h => absurd h (by decide), fun H => by unfold OKT at H; omega⟩
   rw [if_neg h3]
   by_cases h4 : t.f2 > 255
   ·
    rw [decide_eq_true h4]
    unfold cull_Check.j1
    exact ⟨1, by simp, fun h => absurd h (by decide), fun H => by unfold OKT at H; omega⟩
   rw [decide_eq_false h4]
   unfold cull_Check.j1
   simp only [Bool.false_eq_true, if_false]
   exact ⟨r0, e0, h0.trans (hall.trans ⟨fun H => ⟨hb.1, hb.2, by omega, by omega, by omega, by omega, H⟩, fun H => H.2.2.2.2.2.2⟩)⟩
  ·
   exact ⟨3, by simp, fun h => absurd h (by decide), fun H => absurd (hb.2 ⟨H.1, H.2.1⟩) (by simp)⟩
 by_cases h1 : t.f0 = 1
 ·
  rw [if_pos h1]
  refine tail _ ?_
  rw [h1, show wrap64 (1 + 1) = 2 by unfold wrap64; omega]
  simp
 ·
  rw [if_neg h1]
  by_cases h2 : t.f0 = 2
  ·
   rw [if_pos h2]
   refine tail _ ?_
   rw [h2, show wrap64 (2 + 1) = 3 by unfold wrap64; omega]
   simp
  ·
   rw [if_neg h2]
   refine tail _ ?_
   simp [h1, h2]
theorem okt_len {t : S26} (h : OKT t) : t.f3.length = 2 ∧ t.f0 = 1 ∨ t.f3.length = 3 ∧ t.f0 = 2 := by
 unfold OKT at h
 omega
theorem okt_check {t : S26} (h : OKT t) (k : Nat) (hk : 13 ≤ k) : cull_Check.f k t.f0 t.f1 t.f2 t.f3 = some 0 := by
 obtain ⟨r, e, hr⟩ := check_some t (by rcases okt_len h with h | h <;> omega) k hk
 rw [e, hr.2 h]
/-- a box within the bounds -/
def InBox (r : Int × Int × Int × Int) : Prop := -65536000 ≤ r.1 ∧ r.1 ≤ r.2.2.1 ∧ r.2.2.1 ≤ 65536000 ∧ -65536000 ≤ r.2.1 ∧ r.2.1 ≤ r.2.2.2 ∧ r.2.2.2 ≤ 65536000
theorem bounds_l0 (l : List S43) (hl : l.length ≤ 10) (hp : ∀ p ∈ l, InP p) : ∀ (d i : Nat), i + d = l.length → ∀ a b c e, InBox (a, b, c, e) → ∃ r, InBox r ∧ ∀ k, d < k → cull_Bounds.l0 k l (l.length : Int) (i : Int) a b c e = some r
 | 0, i, h, a, b, c, e, hb => by
  refine ⟨_, hb, fun k hk => ?_⟩
  obtain ⟨k, rfl⟩ : ∃ q, k = q + 1 := ⟨k - 1, by omega⟩
  unfold cull_Bounds.l0
  rw [if_neg (by omega)]
 | d + 1, i, h, a, b, c, e, hb => by
  have hi := hp _ (rd43_mem (l := l) (i := i) (by omega))
  obtain ⟨r, hr, hh⟩ := bounds_l0 l hl hp d (i + 1) (by omega) (mn a (rd_T43 l (i : Int)).f0) (mn b (rd_T43 l (i : Int)).f1) (mx c (rd_T43 l (i : Int)).f0) (mx e (rd_T43 l (i : Int)).f1) (by
   unfold InBox at hb ⊢
   unfold InP at hi
   simp only [mn_eq, mx_eq] at *
   omega)
  refine ⟨r, hr, fun k hk => ?_⟩
  obtain ⟨k, rfl⟩ : ∃ q, k = q + 1 := ⟨k - 1, by omega⟩
  unfold cull_Bounds.l0
  rw [if_pos (by omega), if_pos (by omega), if_pos (by omega), show wrap64 ((i : Int) + 1) = ((i + 1 : Nat) : Int) by unfold wrap64; omega]
  exact hh k (by omega)
/-- the box of a thing -/
def bo (t : S26) : Int × Int × Int × Int := (cull_Bounds.f 50 t.f0 t.f1 t.f2 t.f3).getD (0, 0, 0, 0)
theorem bounds_some {t : S26} (h : OKT t) : InBox (bo t) ∧ ∀ k, 13 ≤ k → cull_Bounds.f k t.f0 t.f1 t.f2 t.f3 = some (bo t) := by
 have hl := okt_len h
 have h0 := h.2.2.2.2.2.2 _ (rd43_mem (l := t.f3) (i := 0) (by omega))
 obtain ⟨r, hr, hh⟩ := bounds_l0 t.f3 (by omega) h.2.2.2.2.2.2 t.f3.length 0 (by omega) (rd_T43 t.f3 0).f0 (rd_T43 t.f3 0).f1 (rd_T43 t.f3 0).f0 (rd_T43 t.f3 0).f1 (by
  unfold InBox InP at *
  simp only at *
  have : ((0 : Nat) : Int) = 0 := rfl
  rw [this] at h0
  omega)
 have hb : ∀ k, 13 ≤ k → cull_Bounds.f k t.f0 t.f1 t.f2 t.f3 = some r := fun k hk => by
  unfold cull_Bounds.f
  rw [if_neg (by omega), if_pos (by omega)]
  exact hh k (by omega)
 have : bo t = r := by unfold bo; rw [hb 50 (by omega)]; rfl
 rw [this]
 exact ⟨hr, hb⟩
def meetB (b0 b1 b2 b3 : Int) (t : S26) : Bool := (cull_Meet.f (bo t).1 (bo t).2.1 (bo t).2.2.1 (bo t).2.2.2 b0 b1 b2 b3).getD false
theorem meet_some (b0 b1 b2 b3 : Int) (t : S26) : cull_Meet.f (bo t).1 (bo t).2.1 (bo t).2.2.1 (bo t).2.2.2 b0 b1 b2 b3 = some (meetB b0 b1 b2 b3 t) := by
 unfold meetB cull_Meet.f
 split <;> rfl
theorem meet_iff (b0 b1 b2 b3 : Int) (t : S26) : meetB b0 b1 b2 b3 t = true ↔ max (bo t).1 b0 ≤ min (bo t).2.2.1 b2 ∧ max (bo t).2.1 b1 ≤ min (bo t).2.2.2 b3 := by
 unfold meetB cull_Meet.f
 rw [mx_eq, mn_eq, mx_eq, mn_eq]
 split
 ·
  simp; omega
 ·
  simp; omega
instance (p : S43) : Decidable (InP p) := by unfold InP; infer_instance
instance (t : S26) : Decidable (OKT t) := by unfold OKT; infer_instance
def insB (f : Int → Int) (x : Int) : List Int → List Int
 | [] => [x]
 | y :: ys => if f x < f y then y :: insB f x ys else x :: y :: ys
def srtR (f : Int → Int) (xs : List Int) : List Int := xs.foldl (fun acc x => insB f x acc) []
def srt (f : Int → Int) (xs : List Int) : List Int := (srtR f xs).reverse
def stg (f : Int → Int) (xs : List Int) (i : Nat) : List Int := (srtR f (xs.take i)).reverse ++ xs.drop i
def fin (f : Int → Int) (j : Nat) (ys : List Int) : List Int := (insB f (ys.getD j 0) (ys.take j).reverse).reverse ++ ys.drop (j + 1)
theorem insB_len (f : Int → Int) (x : Int) : ∀ l, (insB f x l).length = l.length + 1
 | [] => rfl
 | y :: ys => by
  unfold insB
  split
  ·
   simp [insB_len f x ys]
  ·
   simp
theorem fold_len (f : Int → Int) : ∀ (xs acc : List Int), (xs.foldl (fun acc x => insB f x acc) acc).length = xs.length + acc.length
 | [], acc => by simp
 | x :: xs, acc => by
  rw [List.foldl_cons, fold_len f xs, insB_len, List.length_cons]
  omega
theorem srtR_len (f : Int → Int) (xs : List Int) : (srtR f xs).length = xs.length := by
 unfold srtR
 rw [fold_len]
 simp
theorem srt_len (f : Int → Int) (xs : List Int) : (srt f xs).length = xs.length := by
 unfold srt
 rw [List.length_reverse, srtR_len]
theorem srtR_snoc (f : Int → Int) (xs : List Int) (x : Int) : srtR f (xs ++ [x]) = insB f x (srtR f xs) := by
 unfold srtR
 rw [List.foldl_append]
 rfl
theorem stg_len (f : Int → Int) (xs : List Int) (i : Nat) : (stg f xs i).length = xs.length := by
 unfold stg
 rw [List.length_append, List.length_reverse, srtR_len, List.length_take, List.length_drop]
 omega
theorem stg_one (f : Int → Int) (xs : List Int) (h : xs.length ≤ 1 ∨ True) : stg f xs 1 = xs := by
 cases xs with
 | nil => rfl
 | cons x xs => rfl
theorem stg_end (f : Int → Int) (xs : List Int) (i : Nat) (h : xs.length ≤ i) : stg f xs i = srt f xs := by
 unfold stg srt
 rw [List.take_of_length_le h, List.drop_of_length_le h, List.append_nil]
theorem split1 (l : List Int) (j : Nat) (h : j < l.length) : ∃ A x C, l = A ++ x :: C ∧ A.length = j :=
 ⟨l.take j, l[j], l.drop (j + 1), by rw [← List.drop_eq_getElem_cons h, List.take_append_drop], by rw [List.length_take]; omega⟩
theorem split2 (l : List Int) (j : Nat) (h : j + 1 < l.length) : ∃ A y x C, l = A ++ y :: x :: C ∧ A.length = j :=
 ⟨l.take j, l[j], l[j + 1], l.drop (j + 2), by rw [← List.drop_eq_getElem_cons h, ← List.drop_eq_getElem_cons (by omega), List.take_append_drop], by rw [List.length_take]; omega⟩
theorem getD_mid (A : List Int) (x : Int) (C : List Int) : (A ++ x :: C).getD A.length 0 = x := by simp [List.getD_eq_getElem?_getD]
theorem fin_start (f : Int → Int) (xs : List Int) (i : Nat) (h : i < xs.length) : fin f i (stg f xs i) = stg f xs (i + 1) := by
 obtain ⟨A, x, C, rfl, rfl⟩ := split1 xs i h
 unfold fin stg
 have e1 : (A ++ x :: C).take A.length = A := by simp
 have e2 : (A ++ x :: C).drop A.length = x :: C := by simp
 have e3 : (A ++ x :: C).take (A.length + 1) = A ++ [x] := by rw [show A ++ x :: C = (A ++ [x]) ++ C by simp, List.take_left' (by simp)]
 have e4 : (A ++ x :: C).drop (A.length + 1) = C := by rw [show A ++ x :: C = (A ++ [x]) ++ C by simp, List.drop_left' (by simp)]
 rw [e1, e2, e3, e4, srtR_snoc]
 have el : (srtR f A).reverse.length = A.length := by rw [List.length_reverse, srtR_len]
 generalize hS : (srtR f A).reverse = S at el ⊢
 have : srtR f A = S.reverse := by rw [← hS, List.reverse_reverse]
 rw [this]
 clear this hS
 rw [← el, getD_mid, List.take_left, show S ++ x :: C = (S ++ [x]) ++ C by simp, List.drop_left' (by simp)]
theorem fin_swap (f : Int → Int) (ys : List Int) (j : Nat) (h : j + 1 < ys.length) (hl : f (ys.getD (j + 1) 0) < f (ys.getD j 0)) : fin f j ((ys.set (j + 1) (ys.getD j 0)).set j (ys.getD (j + 1) 0)) = fin f (j + 1) ys := by
 obtain ⟨A, y, x, C, rfl, rfl⟩ := split2 ys j h
 have g1 : (A ++ y :: x :: C).getD A.length 0 = y := getD_mid A y (x :: C)
 have g2 : (A ++ y :: x :: C).getD (A.length + 1) 0 = x := by
  have := getD_mid (A ++ [y]) x C
  simp
 rw [g1, g2] at hl ⊢
 have e : ((A ++ y :: x :: C).set (A.length + 1) y).set A.length x = A ++ x :: y :: C := by
  rw [List.set_append_right _ _ (by omega), show A.length + 1 - A.length = 1 by omega]
  simp
 rw [e]
 unfold fin
 rw [g2, getD_mid, List.take_left, show A ++ x :: y :: C = (A ++ [x]) ++ (y :: C) by simp, List.drop_left' (by simp), show A ++ y :: x :: C = (A ++ [y]) ++ (x :: C) by simp, List.take_left' (by simp),
  show (A ++ [y]) ++ (x :: C) = (A ++ [y] ++ [x]) ++ C by simp, List.drop_left' (by simp)]
 rw [List.reverse_append, List.reverse_singleton, List.singleton_append]
 show _ = (if f x < f y then y :: insB f x A.reverse else x :: y :: A.reverse).reverse ++ C
 rw [if_pos hl]
 simp
theorem fin_zero (f : Int → Int) (ys : List Int) (h : 0 < ys.length) : fin f 0 ys = ys := by
 cases ys with
 | nil => simp at h
 | cons y ys => rfl
theorem fin_stop (f : Int → Int) (ys : List Int) (j : Nat) (h : j + 1 < ys.length) (hl : ¬ f (ys.getD (j + 1) 0) < f (ys.getD j 0)) : fin f (j + 1) ys = ys := by
 obtain ⟨A, y, x, C, rfl, rfl⟩ := split2 ys j h
 have g1 : (A ++ y :: x :: C).getD A.length 0 = y := getD_mid A y (x :: C)
 have g2 : (A ++ y :: x :: C).getD (A.length + 1) 0 = x := by
  have := getD_mid (A ++ [y]) x C
  simp
 rw [g1, g2] at hl
 unfold fin
 rw [g2, show A ++ y :: x :: C = (A ++ [y]) ++ (x :: C) by simp, List.take_left' (by simp), show (A ++ [y]) ++ (x :: C) = (A ++ [y] ++ [x]) ++ C by simp, List.drop_left' (by simp)]
 rw [List.reverse_append, List.reverse_singleton, List.singleton_append]
 show (if f x < f y then y :: insB f x A.reverse else x :: y :: A.reverse).reverse ++ C = _
 rw [if_neg hl]
 simp
theorem insB_mem (f : Int → Int) (x : Int) : ∀ (l : List Int) (z : Int), z ∈ insB f x l ↔ z = x ∨ z ∈ l
 | [], z => by simp [insB]
 | y :: ys, z => by
  unfold insB
  split
  ·
   rw [List.mem_cons, insB_mem f x ys, List.mem_cons]
   constructor
   ·
    rintro (h | h | h) <;> simp [h]
   ·
    rintro (h | h | h) <;> simp [h]
  ·
   simp
theorem fold_mem (f : Int → Int) : ∀ (xs acc : List Int) (z : Int), z ∈ xs.foldl (fun acc x => insB f x acc) acc ↔ z ∈ xs ∨ z ∈ acc
 | [], acc, z => by simp
 | x :: xs, acc, z => by
  rw [List.foldl_cons, fold_mem f xs, insB_mem, List.mem_cons]
  constructor
  ·
   rintro (h | h | h) <;> simp [h]
  ·
   rintro ((h | h) | h) <;> simp [h]
theorem srt_mem (f : Int → Int) (xs : List Int) (z : Int) : z ∈ srt f xs ↔ z ∈ xs := by
 unfold srt srtR
 rw [List.mem_reverse, fold_mem]
 simp
theorem stg_mem (f : Int → Int) (xs : List Int) (i : Nat) (z : Int) : z ∈ stg f xs i ↔ z ∈ xs := by
 unfold stg srtR
 rw [List.mem_append, List.mem_reverse, fold_mem]
 simp only [List.not_mem_nil, or_false]
 rw [← List.mem_append, List.take_append_drop]
/-- in order, from the last -/
def Desc (f : Int → Int) (l : List Int) : Prop := l.Pairwise (fun a b => f b ≤ f a)
theorem insB_desc (f : Int → Int) (x : Int) : ∀ l, Desc f l → Desc f (insB f x l)
 | [], _ => by simp [insB, Desc]
 | y :: ys, h => by
  unfold Desc at h
  rw [List.pairwise_cons] at h
  unfold insB
  split
  ·
   rename_i hl
   unfold Desc
   rw [List.pairwise_cons]
   refine ⟨fun z hz => ?_, insB_desc f x ys h.2⟩
   rcases (insB_mem f x ys z).1 hz with rfl | hz
   ·
    omega
   ·
    exact h.1 z hz
  ·
   rename_i hl
   unfold Desc
   rw [List.pairwise_cons, List.pairwise_cons]
   refine ⟨fun z hz => ?_, h⟩
   rcases List.mem_cons.1 hz with rfl | hz
   ·
    omega
   ·
    have := h.1 z hz
    omega
theorem insB_filter (f : Int → Int) (p : Int → Bool) (x : Int) : ∀ l, Desc f l → (insB f x l).filter p = if p x then insB f x (l.filter p) else l.filter p
 | [], _ => by
  unfold insB
  by_cases h : p x <;> simp [h, insB]
 | y :: ys, h => by
  have h' := h
  unfold Desc at h'
  rw [List.pairwise_cons] at h'
  have IH := insB_filter f p x ys h'.2
  by_cases hl : f x < f y
  ·
   rw [show insB f x (y :: ys) = y :: insB f x ys from if_pos hl]
   by_cases hy : p y
   ·
    rw [List.filter_cons_of_pos hy, List.filter_cons_of_pos hy, IH]
    split
    ·
     exact (if_pos hl).symm
    ·
     rfl
   ·
    rw [List.filter_cons_of_neg hy, List.filter_cons_of_neg hy, IH]
  ·
   rw [show insB f x (y :: ys) = x :: y :: ys from if_neg hl]
   by_cases hx : p x
   ·
    rw [List.filter_cons_of_pos hx, if_pos hx]
    have : ∀ l : List Int, (∀ z ∈ l, f z ≤ f x) → insB f x l = x :: l := by
     intro l hl
     cases l with
     | nil => rfl
     | cons z l => exact if_neg (by have := hl z (by simp); omega)
    refine (this _ fun z hz => ?_).symm
    rcases List.mem_cons.1 (List.mem_filter.1 hz).1 with rfl | hz
    ·
     omega
    ·
     have := h'.1 z hz
     omega
   ·
    rw [List.filter_cons_of_neg hx, if_neg hx]
theorem fold_filter (f : Int → Int) (p : Int → Bool) : ∀ (xs acc : List Int), Desc f acc → (xs.foldl (fun acc x => insB f x acc) acc).filter p = (xs.filter p).foldl (fun acc x => insB f x acc) (acc.filter p)
 | [], acc, _ => rfl
 | x :: xs, acc, h => by
  rw [List.foldl_cons, fold_filter f p xs _ (insB_desc f x acc h), insB_filter f p x acc h]
  by_cases hx : p x
  ·
   rw [List.filter_cons_of_pos hx, List.foldl_cons, if_pos hx]
  ·
   rw [List.filter_cons_of_neg hx, if_neg hx]
theorem srt_filter (f : Int → Int) (p : Int → Bool) (xs : List Int) : srt f (xs.filter p) = (srt f xs).filter p := by
 unfold srt srtR
 rw [List.filter_reverse, fold_filter f p xs [] List.Pairwise.nil]
 rfl
def lay (l : List S26) (x : Int) : Int := (rd_T26 l x).f1
theorem blk_one {w : World} {g : Nat} {x : Value} {t : TypeId} (h : w.heap[g]? = some (.cells #[x] t (0, 0))) : w.cell? ⟨g, 0, none⟩ = some x := (blk_cell h 0).trans rfl
set_option maxHeartbeats 4000000 in
set_option maxRecDepth 100000 in
theorem T_less (w : World) (B : Nat) (A : Option Addr) (n c : Nat) (l : List S26) (hB : w.heap[B]? = some (.cells #[.slice A n c] 30 (0, 0))) (hC : Kd.C k26 w A n l) (a b : Int) (ha0 : 0 ≤ a) (ha : a < n) (hb0 : 0 ≤ b) (hb : b < n) :
  Calls Try.prog 41 #[.int .i64 a, .int .i64 b, .pointer (some ⟨B, 0, none⟩)] w fun e w' => e = .returned (.int .i64 (wrap64 (lay l a - lay l b))) ∧ ∃ m, w' = w.drewN m := by
 have c0 := blk_one hB
 obtain ⟨ad, _, _, rfl, _, a1, _⟩ := at_T26 hC a ha0 ha
 obtain ⟨ad', _, _, e, _, b1, _⟩ := at_T26 hC b hb0 hb
 injection e with e
 subst e
 go_enter Try.func41, Try.ntmps41
 go_upto_region 1 with (fail)
 go_quiet (fail)
 go_wp2
 go_ret
 exact ⟨rfl, _, rfl⟩
theorem lay_cmp {l : List S26} {a b : Int} (ha : 0 ≤ lay l a ∧ lay l a ≤ 100) (hb : 0 ≤ lay l b ∧ lay l b ≤ 100) : wrap64 (lay l a - lay l b) < 0 ↔ lay l a < lay l b := by unfold wrap64; omega
theorem row_at {W : World} {base g n cap : Nat} {ok : Nat → Prop} {ys : List Int} (h : (Kd.int .i64).R 3 W base ok (.slice (some ⟨g, 0, none⟩) n cap) ys) (j : Nat) (hj : j < n) : W.cell? ⟨g, j, none⟩ = some (.int .i64 (ys.getD j 0)) ∧ W.frozen? ⟨g, j, none⟩ = false :=
 Kd.R_celln (0 : Int) h (j : Int) (by omega) (by omega)
theorem row_put {W : World} {base g n cap : Nat} {ok : Nat → Prop} {ys : List Int} (h : (Kd.int .i64).R 3 W base ok (.slice (some ⟨g, 0, none⟩) n cap) ys) (j : Nat) (x : Int) : (Kd.int .i64).R 3 (W.setCell ⟨g, j, none⟩ (.int .i64 x)) base ok (.slice (some ⟨g, 0, none⟩) n cap) (ys.set j x) :=
 Kd.R_putn h (j : Int) x
theorem i64_succ {i : Nat} (h : i < 100000) : Value.int .i64 (wrap64 ((i : Int) + 1)) = Value.int .i64 ((i + 1 : Nat) : Int) := by congr 1; unfold wrap64; omega
/-- what stands while the row is sorted -/
structure InS (w0 W : World) (B g n cap : Nat) (v : Value) (ys : List Int) : Prop where
 row : (Kd.int .i64).R 3 W w0.heap.size (fun _ => True) (.slice (some ⟨g, 0, none⟩) n cap) ys
 bel : Below w0.heap.size w0 W
 box : W.heap[B]? = some (.cells #[v] 30 (0, 0))
theorem InS.drewN {w0 W : World} {B g n cap : Nat} {v : Value} {ys : List Int} (h : InS w0 W B g n cap v ys) (m : Nat) : InS w0 (W.drewN m) B g n cap v ys :=
 ⟨Kd.R_drewN h.row m, pw_below_drewN h.bel m, h.box⟩
theorem InS.swap {w0 W : World} {B g n cap : Nat} {v : Value} {ys : List Int} (h : InS w0 W B g n cap v ys) (hg : w0.heap.size ≤ g) (hne : B ≠ g) (j k : Nat) (x y : Int) :
  InS w0 ((W.setCell ⟨g, j, none⟩ (.int .i64 x)).setCell ⟨g, k, none⟩ (.int .i64 y)) B g n cap v ((ys.set j x).set k y) :=
 ⟨row_put (row_put h.row j x) k y, (h.bel.setCell (p := ⟨g, j, none⟩) hg _).setCell (p := ⟨g, k, none⟩) hg _, blk_far (blk_far h.box (p := ⟨g, j, none⟩) hne _) (p := ⟨g, k, none⟩) hne _⟩
theorem getD_mem' {ys : List Int} {j : Nat} (h : j < ys.length) : ys.getD j 0 ∈ ys := by
 rw [List.getD_eq_getElem?_getD, List.getElem?_eq_getElem h]
 exact List.getElem_mem h
set_option maxHeartbeats 8000000 in
set_option maxRecDepth 100000 in
theorem T_insS (w0 w : World) (B : Nat) (A : Option Addr) (m c : Nat) (l : List S26) (g cap : Nat) (xs : List Int) (hC : Kd.C k26 w0 A m l) (hS : InS w0 w B g xs.length cap (.slice A m c) xs) (hne : B ≠ g) (hg : w0.heap.size ≤ g) (hn : 1 ≤ xs.length ∧ xs.length ≤ 20)
  (hx : ∀ x ∈ xs, 0 ≤ x ∧ x < m) (hl : ∀ x ∈ xs, 0 ≤ lay l x ∧ lay l x ≤ 100) :
  Calls Try.prog 52 #[.slice (some ⟨g, 0, none⟩) xs.length cap, .int .i64 0, .int .i64 (xs.length : Int), .func (.func 41) #[] #[.pointer (some ⟨B, 0, none⟩)]] w fun e w' => e = .returned (.tuple #[]) ∧ InS w0 w' B g xs.length cap (.slice A m c) (srt (lay l) xs) := by
 obtain ⟨n, hn'⟩ : ∃ n, xs.length = n := ⟨_, rfl⟩
 rw [hn'] at hS hn ⊢
 have HS := Aside0.mk hS
 have HP := Aside0.mk (And.intro hC (And.intro hne (And.intro hg (And.intro hn' (And.intro hx hl)))))
 have HN := Aside0.mk hn
 clear hC hS hne hg hn hn' hx hl
 go_enter Try.func52, Try.ntmps52
 go_wp2_with (fail)
 go_loopg [8] (n - 1) (fun kq v8 wr => ∃ i : Nat, v8 = .int .i64 (i : Int) ∧ Aside0 (1 ≤ i ∧ i ≤ n ∧ kq = n - i) ∧ Aside0 (InS w0 wr B g n cap (.slice A m c) (stg (lay l) xs i)))
 case atStart => exact ⟨1, rfl, ⟨Nat.le_refl _, HN.out.1, rfl⟩, ⟨by rw [stg_one _ _ (.inr trivial)]; exact HS.out⟩⟩
 case round =>
  obtain ⟨i, rfl, HI, HW⟩ := hrel
  by_cases hi : i < n
  ·
   have hi' : (i : Int) < (n : Int) := by omega
   go_wp2_with (fail)
   go_loopg [9] i (fun kq v9 wr => ∃ (j : Nat) (ys : List Int), v9 = .int .i64 (j : Int) ∧ Aside0 (j ≤ i ∧ kq = j ∧ ys.length = n ∧ fin (lay l) j ys = stg (lay l) xs (i + 1) ∧ ∀ z ∈ ys, z ∈ xs) ∧ Aside0 (InS w0 wr B g n cap (.slice A m c) ys))
   case atStart => exact ⟨i, _, rfl, ⟨Nat.le_refl _, rfl, by rw [stg_len]; exact HP.out.2.2.2.1, fin_start _ _ _ (by have := HP.out.2.2.2.1; omega), fun z hz => (stg_mem _ _ _ _).1 hz⟩, HW⟩
   case round =>
    clear HW HS
    obtain ⟨j, ys, rfl, HJ, HW⟩ := hrel
    by_cases hj : 0 < j
    ·
     obtain ⟨jp, rfl⟩ : ∃ jp, j = jp + 1 := ⟨j - 1, by omega⟩
     have hjn : jp + 1 < n := by have := HJ.out.1; omega
     have hjz : (0 : Int) < (jp : Int) + 1 := by omega
     have jz : (jp : Int) + 1 < (n : Int) := by omega
     have jz1 : (jp : Int) < (n : Int) := by omega
     have hwp : IntKind.i64.wrap (jp : Int) = (jp : Int) := by have := HN.out.2; rw [IntKind.wrap_i64]; omega
     have p0 : (0 : Int) ≤ (jp : Int) + 1 := by omega
     have e0 : ((jp : Int) + 1).toNat = jp + 1 := by omega
     have hmx : ys.getD (jp + 1) 0 ∈ xs := HJ.out.2.2.2.2 _ (getD_mem' (by rw [HJ.out.2.2.1]; exact hjn))
     have hmy : ys.getD jp 0 ∈ xs := HJ.out.2.2.2.2 _ (getD_mem' (by rw [HJ.out.2.2.1]; omega))
     have hc := T_less wr B A m c l HW.out.box (Kd.C_below HP.out.1 HW.out.bel) (ys.getD (jp + 1) 0) (ys.getD jp 0) (HP.out.2.2.2.2.1 _ hmx).1 (HP.out.2.2.2.2.1 _ hmx).2 (HP.out.2.2.2.2.1 _ hmy).1 (HP.out.2.2.2.2.1 _ hmy).2
     obtain ⟨cj, fj⟩ := row_at HW.out.row (jp + 1) hjn
     obtain ⟨cp, fp⟩ := row_at HW.out.row jp (by omega)
     have hcmp := lay_cmp (HP.out.2.2.2.2.2 _ hmx) (HP.out.2.2.2.2.2 _ hmy)
     have HXY : Aside0 (∀ q : Nat, Calls Try.prog 41 #[.int .i64 (ys.getD (jp + 1) 0), .int .i64 (ys.getD jp 0), .pointer (some ⟨B, 0, none⟩)] (wr.drewN q) fun e w' => e = .returned (.int .i64 (wrap64 (lay l (ys.getD (jp + 1) 0) - lay l (ys.getD jp 0)))) ∧ ∃ m, w' = (wr.drewN q).drewN m) :=
      ⟨fun q => T_less (wr.drewN q) B A m c l HW.out.box (Kd.C_below HP.out.1 (pw_below_drewN HW.out.bel q)) (ys.getD (jp + 1) 0) (ys.getD jp 0) (HP.out.2.2.2.2.1 _ hmx).1 (HP.out.2.2.2.2.1 _ hmx).2 (HP.out.2.2.2.2.1 _ hmy).1 (HP.out.2.2.2.2.1 _ hmy).2⟩
     clear hc hmx hmy
     have HSW : Aside0 (lay l (ys.getD (jp + 1) 0) < lay l (ys.getD jp 0) → fin (lay l) jp ((ys.set (jp + 1) (ys.getD jp 0)).set jp (ys.getD (jp + 1) 0)) = stg (lay l) xs (i + 1)) := ⟨fun h => (fin_swap _ _ _ (by rw [HJ.out.2.2.1]; exact hjn) h).trans HJ.out.2.2.2.1⟩
     have HST : Aside0 (¬ lay l (ys.getD (jp + 1) 0) < lay l (ys.getD jp 0) → ys = stg (lay l) xs (i + 1)) := ⟨fun h => (fin_stop _ _ _ (by rw [HJ.out.2.2.1]; exact hjn) h).symm.trans HJ.out.2.2.2.1⟩
     have HMM : Aside0 (∀ z ∈ (ys.set (jp + 1) (ys.getD jp 0)).set jp (ys.getD (jp + 1) 0), z ∈ xs) := ⟨fun z hz => by
      have hmx : ys.getD (jp + 1) 0 ∈ xs := HJ.out.2.2.2.2 _ (getD_mem' (by rw [HJ.out.2.2.1]; exact hjn))
      have hmy : ys.getD jp 0 ∈ xs := HJ.out.2.2.2.2 _ (getD_mem' (by rw [HJ.out.2.2.1]; omega))
      rcases List.mem_or_eq_of_mem_set hz with hz | rfl
      ·
       rcases List.mem_or_eq_of_mem_set hz with hz | rfl
       ·
        exact HJ.out.2.2.2.2 _ hz
       ·
        exact hmy
      ·
       exact hmx⟩
     generalize hX : ys.getD (jp + 1) 0 = X at cj cp hcmp HXY HSW HST HMM
     generalize hY : ys.getD jp 0 = Y at cj cp hcmp HXY HSW HST HMM
     have HX := Aside0.mk (And.intro hX hY)
     clear hX hY
     obtain ⟨D, hD⟩ : ∃ D, wrap64 (lay l X - lay l Y) = D := ⟨_, rfl⟩
     rw [hD] at hcmp HXY
     clear hD
     by_cases hlv : D < 0
     ·
      have hlt := hcmp.1 hlv
      have HLT := Aside0.mk hlt
      clear hlt hcmp
      have dl : decide (D < 0) = true := decide_eq_true hlv
      go_upto_region 4 with (fail)
      go_quiet (first | (refine Calls.quiet_of (HXY.out _)) | (go_at_call 41; refine Calls.quiet_of (HXY.out _)))
      have HW := Aside0.mk (HW.out.drewN nq)
      clear cj fj cp fp HXY
      generalize wr.drewN nq = w1 at HW ⊢
      obtain ⟨cj, fj⟩ := row_at HW.out.row (jp + 1) hjn
      obtain ⟨cp, fp⟩ := row_at HW.out.row jp (by omega)
      rw [HX.out.1] at cj
      rw [HX.out.2] at cp
      go_wp2_with (fail)
      have HW2 := Aside0.mk (HW.out.swap HP.out.2.2.1 HP.out.2.1 (jp + 1) jp Y X)
      go_region
      all_goals go_wp2
      all_goals
       go_roundg jp
       case measure => have := HJ.out; omega
       case rel => exact ⟨jp, _, rfl, ⟨by have := HJ.out; omega, rfl, by rw [List.length_set, List.length_set]; exact HJ.out.2.2.1, HSW.out HLT.out, HMM.out⟩, ⟨HW2.out.drewN 1⟩⟩
     ·
      have dl : decide (D < 0) = false := decide_eq_false hlv
      have HST2 := Aside0.mk (HST.out (fun h => hlv (hcmp.2 h)))
      go_upto_region 4 with (fail)
      go_quiet (first | (refine Calls.quiet_of (HXY.out _)) | (go_at_call 41; refine Calls.quiet_of (HXY.out _)))
      have HW := Aside0.mk (HW.out.drewN nq)
      clear cj fj cp fp HXY
      generalize wr.drewN nq = w1 at HW ⊢
      go_wp2_with (fail)
      go_roundg (n - (i + 1))
      case measure => have := HI.out; omega
      case rel => exact ⟨i + 1, i64_succ (by have := HN.out.2; omega), ⟨by omega, by omega, rfl⟩, ⟨HST2.out ▸ HW.out⟩⟩
    ·
     obtain rfl : j = 0 := by omega
     have hjz : ¬ (0 : Int) < ((0 : Nat) : Int) := by omega
     have hjd : decide ((((0 : Nat) : Int)) > 0) = false := decide_eq_false (by omega)
     have hjd : decide ((0 : Int) < (((0 : Nat) : Int))) = false := decide_eq_false (by omega)
     go_upto_region 4 with (fail)
     go_quiet (fail)
     have HW := Aside0.mk (HW.out.drewN nq)
     generalize wr.drewN nq = w1 at HW ⊢
     go_wp2_with (fail)
     go_roundg (n - (i + 1))
     case measure => have := HI.out; omega
     case rel => exact ⟨i + 1, i64_succ (by have := HN.out.2; omega), ⟨by omega, by omega, rfl⟩, ⟨(show ys = stg (lay l) xs (i + 1) from (fin_zero _ _ (by have := HJ.out.2.2.1; omega)).symm.trans HJ.out.2.2.2.1) ▸ HW.out⟩⟩
  ·
   have hi' : ¬ (i : Int) < (n : Int) := by omega
   go_wp2_with (fail)
   go_end0
   exact ⟨rfl, by rw [← stg_end (lay l) xs i (by have := HP.out.2.2.2.1; omega)]; exact HW.out⟩
set_option maxHeartbeats 4000000 in
set_option maxRecDepth 100000 in
theorem T_insS0 (w : World) (A : Option Addr) (cap : Nat) (f : Value) :
  Calls Try.prog 52 #[.slice A 0 cap, .int .i64 0, .int .i64 0, f] w fun e w' => e = .returned (.tuple #[]) ∧ w' = w := by
 go_enter Try.func52, Try.ntmps52
 go_wp2_with (fail)
 go_loopg [8] 1 (fun kq v8 w' => v8 = .int .i64 1 ∧ w' = w)
 case atStart => exact ⟨rfl, rfl⟩
 case round =>
  obtain ⟨rfl, rfl⟩ := hrel
  go_wp2_with (fail)
  go_end0
  exact ⟨rfl, rfl⟩
/-- the stable sort of at most twenty numbers: one block of Go's insertion sort -/
theorem T_stab (w : World) (A : Option Addr) (n cap : Nat) (f : Value) (Q : World → Prop) (hn : n < 20) (hI : Calls Try.prog 52 #[.slice A n cap, .int .i64 0, .int .i64 (n : Int), f] w fun e w' => e = .returned (.tuple #[]) ∧ Q w') :
  Calls Try.prog 47 #[.slice A n cap, .int .i64 (n : Int), f] w fun e w' => e = .returned (.tuple #[]) ∧ Q w' := by
 have HI := Aside0.mk hI
 have hn1 : ¬ (20 : Int) < (n : Int) := by omega
 have hn2 : ¬ (20 : Int) ≤ (n : Int) := by omega
 clear hI
 go_enter Try.func47, Try.ntmps47
 go_wp2_with (fail)
 go_loopg [7, 8] 1 (fun kq v7 v8 w' => v7 = .int .i64 0 ∧ v8 = .int .i64 20 ∧ w' = w)
 case atStart => exact ⟨rfl, rfl, rfl⟩
 case round =>
  obtain ⟨rfl, rfl, rfl⟩ := hrel
  go_wp2_with (fail)
  refine HI.out.mono ?_
  rintro e w' ⟨rfl, HQ⟩
  have HQ := Aside0.mk HQ
  go_wp2_with (fail)
  go_loopg [6] 1 (fun kq v6 w2 => v6 = .int .i64 20 ∧ w2 = w')
  case atStart => exact ⟨rfl, rfl⟩
  case round =>
   obtain ⟨rfl, rfl⟩ := hrel
   go_wp2_with (fail)
   go_end0
   exact ⟨rfl, HQ.out⟩
theorem T_stable (w : World) (A : Option Addr) (n cap : Nat) (f : Value) (Q : World → Prop) (hn : n < 20) (hI : Calls Try.prog 52 #[.slice A n cap, .int .i64 0, .int .i64 (n : Int), f] w fun e w' => e = .returned (.tuple #[]) ∧ Q w') :
  Calls Try.prog 40 #[.slice A n cap, f] w fun e w' => e = .returned (.tuple #[]) ∧ Q w' := by
 have HI := Aside0.mk hI
 clear hI
 go_enter Try.func40, Try.ntmps40
 go_wp2_with (fail)
 refine (T_stab w A n cap f Q hn HI.out).mono ?_
 rintro e w' ⟨rfl, HQ⟩
 have HQ := Aside0.mk HQ
 go_wp2_with (fail)
 go_end0
 exact ⟨rfl, HQ.out⟩
/-- the numbers of the first things whose boxes meet a view -/
def metL (b0 b1 b2 b3 : Int) (l : List S26) (n : Nat) : List Int := ((List.range n).map (fun i : Nat => (i : Int))).filter (fun i => meetB b0 b1 b2 b3 (rd_T26 l i))
def cull_Seen.f (l : List S26) (b0 b1 b2 b3 : Int) : Option (List Int × Int) := if l.length < 20 ∧ ∀ t ∈ l, OKT t then some (srt (lay l) (metL b0 b1 b2 b3 l l.length), 0) else none
theorem rd26_mem {l : List S26} {i : Nat} (h : i < l.length) : rd_T26 l (i : Int) ∈ l := by
 unfold rd_T26
 rw [Int.toNat_natCast, List.getD_eq_getElem?_getD, List.getElem?_eq_getElem h]
 exact List.getElem_mem h
theorem metL_succ (b0 b1 b2 b3 : Int) (l : List S26) (i : Nat) : metL b0 b1 b2 b3 l (i + 1) = if meetB b0 b1 b2 b3 (rd_T26 l i) then metL b0 b1 b2 b3 l i ++ [(i : Int)] else metL b0 b1 b2 b3 l i := by
 unfold metL
 rw [List.range_succ, List.map_append, List.filter_append]
 by_cases h : meetB b0 b1 b2 b3 (rd_T26 l (i : Int)) <;> simp [h]
theorem metL_mem {b0 b1 b2 b3 : Int} {l : List S26} {n : Nat} {z : Int} (h : z ∈ metL b0 b1 b2 b3 l n) : 0 ≤ z ∧ z < n := by
 unfold metL at h
 obtain ⟨i, hi, rfl⟩ := List.mem_map.1 (List.mem_filter.1 h).1
 have := List.mem_range.1 hi
 omega
theorem metL_len (b0 b1 b2 b3 : Int) (l : List S26) (n : Nat) : (metL b0 b1 b2 b3 l n).length ≤ n := by
 unfold metL
 refine Nat.le_trans (List.length_filter_le _ _) ?_
 simp
/-- the variables of Seen -/
structure SeW (w W : World) (B2 B3 : Nat) (v : Value) (b0 b1 b2 b3 : Int) : Prop where
 bel : Below w.heap.size w W
 bx2 : W.heap[B2]? = some (.cells #[v] 30 (0, 0))
 bx3 : W.heap[B3]? = some (.cells #[.int .i64 b0, .int .i64 b1, .int .i64 b2, .int .i64 b3] 52 (0, 0))
theorem SeW.below {w W W' : World} {B2 B3 : Nat} {v : Value} {b0 b1 b2 b3 : Int} (h : SeW w W B2 B3 v b0 b1 b2 b3) (hb : Below W.heap.size W W') : SeW w W' B2 B3 v b0 b1 b2 b3 :=
 ⟨below_step h.bel hb, blk_below h.bx2 hb, blk_below h.bx3 hb⟩
theorem SeW.grown {w W w1 : World} {B2 B3 : Nat} {v v9 : Value} {b0 b1 b2 b3 : Int} {xs : List Int} (h : SeW w W B2 B3 v b0 b1 b2 b3) (HR : Kd.R (Kd.int .i64) 3 W w.heap.size (fun _ => True) v9 xs) (hg : W.grownBy w1 v9.ownBlock) (hb : Below w.heap.size w w1) : SeW w w1 B2 B3 v b0 b1 b2 b3 := by
 have ne : ∀ k t (cs : Array Value), W.heap[k]? = some (.cells cs t (0, 0)) → t ≠ 3 → some k ≠ v9.ownBlock := fun k t cs hk ht e => by
  obtain ⟨cs', hc⟩ := Kd.R_typed HR k e.symm
  rw [hk] at hc
  injection hc with hc
  injection hc with _ hc
  exact ht hc
 exact ⟨hb, (hg.block B2 (blk_lt h.bx2) (ne _ _ _ h.bx2 (by decide))).trans h.bx2, (hg.block B3 (blk_lt h.bx3) (ne _ _ _ h.bx3 (by decide))).trans h.bx3⟩
theorem ap3 {ops : Array Oper} {rest : List Oper} {o : Oper} {a : Act} {Q : Exit → Act → World → Prop} {w0 W : World} {v : Value} {xs : List Int} {y : Int} (HR : Kd.R (Kd.int .i64) 3 W w0.heap.size (fun _ => True) v xs) (HB : Below w0.heap.size w0 W) (hgd : o.guard = none) (s x : Operand) (ho : o.op = .call { callee := .builtin .append, args := #[s, x], argTypes := #[22, 22] }) (hs : a.eval s = v)
  (hx : a.eval x = .slice (some ⟨W.heap.size, 0, none⟩) 1 1) (hl : xs.length ≤ 1000)
  (h : ∀ A9 n9 c9 w1, Aside0 (Kd.R (Kd.int .i64) 3 w1 w0.heap.size (fun _ => True) (.slice A9 n9 c9) (xs ++ [y]) ∧ Below w0.heap.size w0 w1 ∧ W.grownBy w1 v.ownBlock) → wpList Try.prog ops Q rest (a.put o.dst (.slice A9 n9 c9)) w1) :
  wpList Try.prog ops Q (o :: rest) a (W.alloc (.cells #[.int .i64 y] 3)) := by
 refine print_append_num w0.heap.size hgd s x 22 3 .i64 8 ho Try.underlying22 info3 (by decide) v xs y hs hx (Kd.own_of_R HR) HB HB.size (by omega) ?_
 intro v1 w1 hown hb hg hat
 have hr : Kd.R (Kd.int .i64) 3 w1 w0.heap.size (fun _ => True) v1 (xs ++ [y]) := Kd.R_of_own hown (fun _ _ => trivial)
 obtain ⟨A9, c9, e⟩ := Kd.R_slice hr
 subst e
 exact h A9 _ c9 w1 ⟨hr, hb, hg⟩
theorem q4 {w : World} {g : Nat} {x y z u : Value} {t : TypeId} (h : w.heap[g]? = some (.cells #[x, y, z, u] t (0, 0))) : w.cell? ⟨g, 0, none⟩ = some x ∧ w.cell? ⟨g, 1, none⟩ = some y ∧ w.cell? ⟨g, 2, none⟩ = some z ∧ w.cell? ⟨g, 3, none⟩ = some u :=
 ⟨(blk_cell h 0).trans rfl, (blk_cell h 1).trans rfl, (blk_cell h 2).trans rfl, (blk_cell h 3).trans rfl⟩
set_option maxHeartbeats 8000000 in
set_option maxRecDepth 100000 in
theorem cull_Seen.calls (A0 : Option Addr) (c0 : Nat) (l0 : List S26) (a1_0 a1_1 a1_2 a1_3 : Int) (r1 : List Int) (r2 : Int) (w : World) (hr0 : Kd.C k26 w A0 l0.length l0) (hc0 : l0.length ≤ c0) (h : cull_Seen.f l0 a1_0 a1_1 a1_2 a1_3 = some (r1, r2)) :
  Calls Try.prog 27 #[.slice A0 l0.length c0, .agg #[.int .i64 a1_0, .int .i64 a1_1, .int .i64 a1_2, .int .i64 a1_3]] w fun e w' => ∃ v0_ : Value, e = .returned (.tuple #[v0_, .int .i64 r2]) ∧ Kd.R (Kd.int .i64) 3 w' w.heap.size (fun _ => True) v0_ r1 ∧ Below w.heap.size w w' := by
 unfold cull_Seen.f at h
 split at h
 case isFalse => cases h
 rename_i hok
 simp only [Option.some.injEq, Prod.mk.injEq] at h
 obtain ⟨rfl, rfl⟩ := h
 obtain ⟨n, hn⟩ : ∃ n, l0.length = n := ⟨_, rfl⟩
 rw [hn] at hr0 hok ⊢
 have HR := Aside0.mk hr0
 have HO := Aside0.mk (And.intro hok.1 (And.intro hok.2 hn))
 have h400 : ¬ (400 : Int) < (n : Int) := by omega
 clear hr0 hc0 hok hn
 go_enter Try.func27, Try.ntmps27
 go_upto_region 1 with (fail)
 have HS : Aside0 (SeW w ((w.alloc (.cells #[.slice A0 n c0] 30)).alloc (.cells #[.int .i64 a1_0, .int .i64 a1_1, .int .i64 a1_2, .int .i64 a1_3] 52)) w.heap.size (w.heap.size + 1) (.slice A0 n c0) a1_0 a1_1 a1_2 a1_3) :=
  ⟨below_alloc (below_alloc (Below.refl _ _) _) _, blk_alloc (blk_new _ _) _, by
   have h := blk_new (w.alloc (.cells #[.slice A0 n c0] 30)) (.cells #[.int .i64 a1_0, .int .i64 a1_1, .int .i64 a1_2, .int .i64 a1_3] 52)
   rwa [show (w.alloc (.cells #[.slice A0 n c0] 30)).heap.size = w.heap.size + 1 from Array.size_push _] at h⟩
 change Code.wp _ _ _ _ ((w.alloc (.cells #[.slice A0 n c0] 30)).alloc (.cells #[.int .i64 a1_0, .int .i64 a1_1, .int .i64 a1_2, .int .i64 a1_3] 52))
 generalize hB2 : w.heap.size = B2 at HS ⊢
 generalize B2 + 1 = B3 at HS ⊢
 generalize (w.alloc (.cells #[.slice A0 n c0] 30)).alloc (.cells #[.int .i64 a1_0, .int .i64 a1_1, .int .i64 a1_2, .int .i64 a1_3] 52) = w1 at HS ⊢
 have HB2 := Aside0.mk hB2
 clear hB2
 have x2 := blk_one HS.out.bx2
 go_wp2_with (fail)
 clear x2
 go_loopg [17] n (fun kq v17 wr => ∃ i : Nat, v17 = .int .i64 (i : Int) ∧ Aside0 (i ≤ n ∧ kq = n - i) ∧ Aside0 (SeW w wr B2 B3 (.slice A0 n c0) a1_0 a1_1 a1_2 a1_3))
 case atStart => exact ⟨0, rfl, ⟨Nat.zero_le _, rfl⟩, HS⟩
 case round =>
  clear HS
  obtain ⟨i, rfl, HI, HS⟩ := hrel
  by_cases hi : i < n
  ·
   have hi' : (i : Int) < (n : Int) := by omega
   obtain ⟨ad, A3, c3, rfl, b0, b1, b2, b3, hl3, hC3⟩ := at_T26 HR.out (i : Int) (by omega) hi'
   have hot : OKT (rd_T26 l0 (i : Int)) := HO.out.2.1 _ (rd26_mem (by rw [HO.out.2.2]; exact hi))
   have HC3 := Aside0.mk hC3
   have HL3 := Aside0.mk hl3
   have HOT := Aside0.mk hot
   clear hot hC3 hl3
   replace b0 := (HS.out.bel.cell (World.block_lt_of_cell? w _ b0)).trans b0
   replace b1 := (HS.out.bel.cell (World.block_lt_of_cell? w _ b1)).trans b1
   replace b2 := (HS.out.bel.cell (World.block_lt_of_cell? w _ b2)).trans b2
   replace b3 := (HS.out.bel.cell (World.block_lt_of_cell? w _ b3)).trans b3
   simp only [Int.toNat_natCast] at b0 b1 b2 b3
   generalize rd_T26 l0 (i : Int) = t at b0 b1 b2 b3 HC3 HL3 HOT
   go_upto_region 6 with (fail)
   have bn := below_alloc (Below.refl wr.heap.size wr) (.cells #[.int .i64 t.f0, .int .i64 t.f1, .int .i64 t.f2, .slice A3 t.f3.length c3] 26)
   have HT := Aside0.mk (blk_new wr (.cells #[.int .i64 t.f0, .int .i64 t.f1, .int .i64 t.f2, .slice A3 t.f3.length c3] 26))
   have HC4 := Aside0.mk (Kd.C_below (Kd.C_below HC3.out HS.out.bel) bn)
   have HS := Aside0.mk (HS.out.below bn)
   change Code.wp _ _ _ _ (wr.alloc (.cells #[.int .i64 t.f0, .int .i64 t.f1, .int .i64 t.f2, .slice A3 t.f3.length c3] 26))
   generalize wr.heap.size = g7 at HT ⊢
   generalize wr.alloc (.cells #[.int .i64 t.f0, .int .i64 t.f1, .int .i64 t.f2, .slice A3 t.f3.length c3] 26) = w2 at HT HS HC4 ⊢
   clear bn b0 b1 b2 b3
   obtain ⟨x0, x1, x2, x3⟩ := q4 HT.out
   go_wp2_with (fail)
   refine (cull_Check.calls 50 t.f0 t.f1 t.f2 A3 c3 t.f3 0 w2 HC4.out HL3.out (okt_check HOT.out 50 (by omega))).mono ?_
   rintro e w3 ⟨rfl, hb⟩
   have HS := Aside0.mk (HS.out.below hb)
   clear hb x0 x1 x2 x3
   go_wp2_with (fail)
   go_roundg (n - (i + 1))
   case measure => have := HI.out; omega
   case rel => exact ⟨i + 1, rfl, ⟨by omega, rfl⟩, HS⟩
  ·
   have hi' : ¬ (i : Int) < (n : Int) := by omega
   have x2 := blk_one HS.out.bx2
   go_wp2_with (fail)
   clear x2
   go_loopg [9, 29] n (fun kq v9 v29 wr => ∃ (i : Nat) (A9 : Option Addr) (n9 c9 : Nat), v29 = .int .i64 (i : Int) ∧ v9 = .slice A9 n9 c9 ∧ Aside0 (i ≤ n ∧ kq = n - i) ∧ Aside0 (SeW w wr B2 B3 (.slice A0 n c0) a1_0 a1_1 a1_2 a1_3) ∧ Aside0 (Kd.R (Kd.int .i64) 3 wr w.heap.size (fun _ => True) (.slice A9 n9 c9) (metL a1_0 a1_1 a1_2 a1_3 l0 i)))
   case atStart => exact ⟨0, none, 0, 0, rfl, rfl, ⟨Nat.zero_le _, rfl⟩, HS, ⟨Kd.R_nil _ _ _ _ _⟩⟩
   case round =>
    clear HS HI hi hi'
    obtain ⟨i, A9, n9, c9, rfl, rfl, HI, HS, HD⟩ := hrel
    by_cases hi : i < n
    ·
     have hi' : (i : Int) < (n : Int) := by omega
     obtain ⟨ad, A3, c3, rfl, b0, b1, b2, b3, hl3, hC3⟩ := at_T26 HR.out (i : Int) (by omega) hi'
     have hot : OKT (rd_T26 l0 (i : Int)) := HO.out.2.1 _ (rd26_mem (by rw [HO.out.2.2]; exact hi))
     have HC3 := Aside0.mk hC3
     have HL3 := Aside0.mk hl3
     have HOT := Aside0.mk hot
     have HMS := Aside0.mk (metL_succ a1_0 a1_1 a1_2 a1_3 l0 i)
     clear hot hC3 hl3
     replace b0 := (HS.out.bel.cell (World.block_lt_of_cell? w _ b0)).trans b0
     replace b1 := (HS.out.bel.cell (World.block_lt_of_cell? w _ b1)).trans b1
     replace b2 := (HS.out.bel.cell (World.block_lt_of_cell? w _ b2)).trans b2
     replace b3 := (HS.out.bel.cell (World.block_lt_of_cell? w _ b3)).trans b3
     simp only [Int.toNat_natCast] at b0 b1 b2 b3
     generalize rd_T26 l0 (i : Int) = t at b0 b1 b2 b3 HC3 HL3 HOT HMS
     go_upto_region 14 with (fail)
     have bn := below_alloc (Below.refl wr.heap.size wr) (.cells #[.int .i64 t.f0, .int .i64 t.f1, .int .i64 t.f2, .slice A3 t.f3.length c3] 26)
     have HT := Aside0.mk (blk_new wr (.cells #[.int .i64 t.f0, .int .i64 t.f1, .int .i64 t.f2, .slice A3 t.f3.length c3] 26))
     have HC4 := Aside0.mk (Kd.C_below (Kd.C_below HC3.out HS.out.bel) bn)
     have HS := Aside0.mk (HS.out.below bn)
     have HD := Aside0.mk (Kd.R_below HD.out bn)
     change Code.wp _ _ _ _ (wr.alloc (.cells #[.int .i64 t.f0, .int .i64 t.f1, .int .i64 t.f2, .slice A3 t.f3.length c3] 26))
     generalize wr.heap.size = g11 at HT ⊢
     generalize wr.alloc (.cells #[.int .i64 t.f0, .int .i64 t.f1, .int .i64 t.f2, .slice A3 t.f3.length c3] 26) = w2 at HT HS HC4 HD ⊢
     clear bn b0 b1 b2 b3
     obtain ⟨x0, x1, x2, x3⟩ := q4 HT.out
     obtain ⟨y0, y1, y2, y3⟩ := q4 HS.out.bx3
     have HKp : Aside0 (∀ W, Below w2.heap.size w2 W → (W.cell? ⟨g11, 0, none⟩ = some (.int .i64 t.f0) ∧ W.cell? ⟨g11, 1, none⟩ = some (.int .i64 t.f1) ∧ W.cell? ⟨g11, 2, none⟩ = some (.int .i64 t.f2) ∧ W.cell? ⟨g11, 3, none⟩ = some (.slice A3 t.f3.length c3) ∧ W.cell? ⟨B3, 0, none⟩ = some (.int .i64 a1_0) ∧ W.cell? ⟨B3, 1, none⟩ = some (.int .i64 a1_1) ∧ W.cell? ⟨B3, 2, none⟩ = some (.int .i64 a1_2) ∧ W.cell? ⟨B3, 3, none⟩ = some (.int .i64 a1_3)) ∧ Kd.C k43 W A3 t.f3.length t.f3) :=
      ⟨fun W h => ⟨by obtain ⟨x0, x1, x2, x3⟩ := q4 (blk_below HT.out h); obtain ⟨y0, y1, y2, y3⟩ := q4 (blk_below HS.out.bx3 h); exact ⟨x0, x1, x2, x3, y0, y1, y2, y3⟩, Kd.C_below HC4.out h⟩⟩
     obtain ⟨hib, hbd⟩ := bounds_some HOT.out
     have HBD := Aside0.mk (hbd 50 (by omega))
     have HME := Aside0.mk (meet_some a1_0 a1_1 a1_2 a1_3 t)
     clear hib hbd
     generalize bo t = bt at HBD HME
     generalize meetB a1_0 a1_1 a1_2 a1_3 t = m at HME HMS
     go_cut [37] (fun v37 wc => v37 = .bool m ∧ Aside0 (Below w2.heap.size w2 wc))
     case first =>
      go_region_held3 (fun W => W.cell? ⟨g11, 0, none⟩ = some (.int .i64 t.f0) ∧ W.cell? ⟨g11, 1, none⟩ = some (.int .i64 t.f1) ∧ W.cell? ⟨g11, 2, none⟩ = some (.int .i64 t.f2) ∧ W.cell? ⟨g11, 3, none⟩ = some (.slice A3 t.f3.length c3) ∧ W.cell? ⟨B3, 0, none⟩ = some (.int .i64 a1_0) ∧ W.cell? ⟨B3, 1, none⟩ = some (.int .i64 a1_1) ∧ W.cell? ⟨B3, 2, none⟩ = some (.int .i64 a1_2) ∧ W.cell? ⟨B3, 3, none⟩ = some (.int .i64 a1_3))
       (exact (HKp.out _ (by with_reducible repeat (first | exact Below.refl _ _ | apply below_drew1 | apply pw_below_drewN | (refine below_step ?_ h6) | (refine below_step ?_ h7)))).1)
       (first
        | (go_at_call 19; (with_reducible refine (cull_Bounds.calls 50 t.f0 t.f1 t.f2 A3 c3 t.f3 bt.1 bt.2.1 bt.2.2.1 bt.2.2.2 _ (HKp.out _ (by with_reducible repeat (first | exact Below.refl _ _ | apply below_drew1 | apply pw_below_drewN))).2 HL3.out HBD.out).mono ?_); rintro e w6 ⟨rfl, h6⟩)
        | (go_at_call 39; (with_reducible refine (cull_Meet.calls bt.1 bt.2.1 bt.2.2.1 bt.2.2.2 a1_0 a1_1 a1_2 a1_3 m _ HME.out).mono ?_); rintro e w7 ⟨rfl, h7⟩))
      all_goals (go_wp2; go_meet)
      all_goals exact ⟨rfl, ⟨by with_reducible repeat (first | exact Below.refl _ _ | apply below_drew1 | apply pw_below_drewN | (refine below_step ?_ h6) | (refine below_step ?_ h7))⟩⟩
     case rest =>
      obtain ⟨rfl, HQ⟩ := hcut
      have HS := Aside0.mk (HS.out.below HQ.out)
      have HD := Aside0.mk (Kd.R_below HD.out HQ.out)
      clear x0 x1 x2 x3 y0 y1 y2 y3 HKp HQ
      cases m
      ·
       have HD := Aside0.mk (show Kd.R (Kd.int .i64) 3 wc w.heap.size (fun _ => True) (.slice A9 n9 c9) (metL a1_0 a1_1 a1_2 a1_3 l0 (i + 1)) from HMS.out ▸ HD.out)
       go_wp2_with (fail)
       go_roundg (n - (i + 1))
       case measure => have := HI.out; omega
       case rel => exact ⟨i + 1, A9, n9, c9, rfl, rfl, ⟨by omega, rfl⟩, HS, HD⟩
      ·
       have HML := Aside0.mk (metL_len a1_0 a1_1 a1_2 a1_3 l0 i)
       go_wp2_with (((with_reducible refine gate_builtin (b := .append) (xs := #[.tmp 38, .tmp 40]) rfl ?_); at_builtin; refine ap3 (w0 := w) HD.out HS.out.bel rfl (.tmp 38) (.tmp 40) rfl rfl rfl ?aL ?_; (case aL => (have := HML.out; have := HO.out.1; omega)); intro A8 n8 c8 w8 h8))
       have HS := Aside0.mk (HS.out.grown HD.out h8.out.2.2 h8.out.2.1)
       have HD := Aside0.mk (show Kd.R (Kd.int .i64) 3 w8 w.heap.size (fun _ => True) (.slice A8 n8 c8) (metL a1_0 a1_1 a1_2 a1_3 l0 (i + 1)) from HMS.out ▸ h8.out.1)
       go_roundg (n - (i + 1))
       case measure => have := HI.out; omega
       case rel => exact ⟨i + 1, A8, n8, c8, rfl, rfl, ⟨by omega, rfl⟩, HS, HD⟩
    ·
     have hi' : ¬ (i : Int) < (n : Int) := by omega
     have hin : i = n := by have := HI.out.1; omega
     subst hin
     obtain ⟨hn9, hc9, hC9⟩ := Kd.R_reads' HD.out
     have HN9 := Aside0.mk hn9
     have HML := Aside0.mk (metL_len a1_0 a1_1 a1_2 a1_3 l0 i)
     have hmf : ∀ (fn : Fn) (first cap : Array Value) (w : World), (Instr.makeFunc fn first cap).run Try.prog w = .ok (.func fn first cap) w := fun _ _ _ _ => rfl
     clear hc9 hC9 hn9
     go_wp2_with (fail)
     refine (T_stable _ A9 n9 c9 _ (fun w' => Kd.R (Kd.int .i64) 3 w' w.heap.size (fun _ => True) (.slice A9 n9 c9) (srt (lay l0) (metL a1_0 a1_1 a1_2 a1_3 l0 i)) ∧ Below w.heap.size w w') (by have := HN9.out; have := HML.out; have := HO.out.1; omega) ?_).mono ?_
     ·
      have hS := HS.out
      have hD := HD.out
      have hml := HML.out
      have hno := HO.out
      have hR := HR.out
      obtain ⟨M, hM⟩ : ∃ M, metL a1_0 a1_1 a1_2 a1_3 l0 i = M := ⟨_, rfl⟩
      have hmm : ∀ z ∈ M, 0 ≤ z ∧ z < (i : Int) := fun z hz => metL_mem (hM ▸ hz)
      rw [hM] at hD hml ⊢
      obtain ⟨h1, h2, h3⟩ := Kd.R_reads' hD
      rcases Nat.eq_zero_or_pos M.length with h0 | h0
      ·
       have : M = [] := List.eq_nil_of_length_eq_zero h0
       subst this
       rw [show n9 = 0 from h1] at hD ⊢
       refine (T_insS0 _ A9 c9 _).mono ?_
       rintro e w' ⟨rfl, rfl⟩
       exact ⟨rfl, hD, hS.bel⟩
      ·
       obtain ⟨ad, e1, _⟩ := Kd.at_int h3 0 (Int.le_refl _) (by omega)
       subst e1
       obtain ⟨g, e2⟩ := Kd.R_head hD
       subst e2
       have hne : B2 ≠ g := fun e => by
        obtain ⟨cs, hc⟩ := Kd.R_typed hD g (by simp [Value.ownBlock])
        rw [← e, hS.bx2] at hc
        injection hc with hc
        injection hc with _ hc
        exact absurd hc (by decide)
       rw [h1] at hD ⊢
       refine (T_insS w _ B2 A0 i c0 l0 g c9 M hR ⟨hD, hS.bel, hS.bx2⟩ hne (Kd.R_base hD g (by simp [Value.ownBlock])) ⟨h0, by omega⟩ hmm (fun x hx => ?_)).mono ?_
       ·
        have := hmm x hx
        obtain ⟨j, rfl⟩ : ∃ j : Nat, x = (j : Int) := ⟨x.toNat, by omega⟩
        have hot := hno.2.1 _ (rd26_mem (l := l0) (i := j) (by omega))
        exact ⟨hot.2.2.1, hot.2.2.2.1⟩
       ·
        rintro e w' ⟨rfl, hI⟩
        exact ⟨rfl, hI.row, hI.bel⟩
     ·
      rintro e w' ⟨rfl, h1, h2⟩
      have HZ := Aside0.mk (And.intro h1 h2)
      clear h1 h2
      go_wp2_with (fail)
      go_ret2
      exact ⟨_, rfl, HZ.out.1, HZ.out.2⟩

end Go.Proofs.Ytffbonfgbmohdaa.P
