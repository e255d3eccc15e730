/- Sets as lists of words: what join makes, word by word; sets that are the same; their numbers of elements. No condition. -/
import Derived.Test.YtknmlikjmnhgkaaPAllx2
import Derived.Test.YtknmlikjmnhgkaaPAllx4
namespace Go.Proofs.Ytknmlikjmnhgkaa.Pure
open Go.RowKit Go.Proofs.Ytknmlikjmnhgkaa.P Go.Proofs.YtknmlikjmnhgkaaW.PrintWords Go.Proofs.YtknmlikjmnhgkaaW.PrintLast
set_option linter.unusedVariables false

theorem wrap64_in (x : Int) (h0 : -9223372036854775808 ≤ x) (h1 : x < 9223372036854775808) : wrap64 x = x := by unfold wrap64; omega
/-! ### words -/
def WB (x : Int) : Prop := 0 ≤ x ∧ x < 18446744073709551616
def bv (x : Int) : BitVec 64 := BitVec.ofInt 64 x
def iv (v : BitVec 64) : Int := ((v.toNat : Nat) : Int)
theorem iv_WB (v : BitVec 64) : WB (iv v) := by
  have := v.isLt
  unfold WB iv
  omega
theorem bv_iv (v : BitVec 64) : bv (iv v) = v := by
  unfold bv iv
  rw [BitVec.ofInt_natCast]
  simp
theorem iv_bv {x : Int} (h : WB x) : iv (bv x) = x := by
  unfold bv iv
  obtain ⟨A, rfl⟩ := Int.eq_ofNat_of_zero_le h.1
  have h2 := h.2
  rw [BitVec.ofInt_natCast, BitVec.toNat_ofNat, Nat.mod_eq_of_lt (by omega)]
theorem wrap_iv (v : BitVec 64) : IntKind.u64.wrap (iv v) = iv v := by
  have := iv_WB v
  unfold WB at this
  rw [IntKind.wrap_u64]
  omega
theorem bits_or_iv (x y : Int) : Go.bits .or .u64 x y = iv (bv x ||| bv y) := wrap_iv _
theorem bits_and_iv (x y : Int) : Go.bits .and .u64 x y = iv (bv x &&& bv y) := wrap_iv _
theorem bits_not_iv (x y : Int) : Go.bits .andNot .u64 x y = iv (bv x &&& ~~~bv y) := wrap_iv _
theorem bv_zero : bv 0 = 0 := rfl
theorem iv_zero : iv 0 = 0 := rfl

/-! ### strip -/
theorem strip_get (l : List Int) : ∀ k, (strip l).getD k 0 = l.getD k 0 := by
  induction l with
  | nil => intro k; rfl
  | cons x l ih =>
    intro k
    simp only [strip]
    split
    · rename_i h
      cases k with
      | zero => simp [h.2]
      | succ k =>
        have := ih k
        rw [h.1] at this
        simpa using this
    · cases k with
      | zero => rfl
      | succ k => simpa using ih k
theorem strip_mem (l : List Int) : ∀ x ∈ strip l, x ∈ l := by
  induction l with
  | nil => intro x hx; exact hx
  | cons y l ih =>
    intro x hx
    simp only [strip] at hx
    split at hx
    · cases hx
    · rcases List.mem_cons.1 hx with rfl | hx
      · exact List.mem_cons_self
      · exact List.mem_cons_of_mem _ (ih x hx)
theorem strip_nil_of (l : List Int) (h : ∀ k, l.getD k 0 = 0) : strip l = [] := by
  induction l with
  | nil => rfl
  | cons x l ih =>
    have h0 := h 0
    simp only [List.getD_cons_zero] at h0
    simp only [strip]
    rw [if_pos ⟨ih (fun k => by simpa using h (k + 1)), h0⟩]
theorem strip_ext : ∀ (a b : List Int), (∀ k, a.getD k 0 = b.getD k 0) → strip a = strip b := by
  intro a
  induction a with
  | nil => intro b h; rw [strip_nil_of b (fun k => by rw [← h k]; rfl)]; rfl
  | cons x a ih =>
    intro b h
    cases b with
    | nil => rw [strip_nil_of (x :: a) (fun k => by rw [h k]; rfl)]; rfl
    | cons y b =>
      have h0 := h 0
      simp only [List.getD_cons_zero] at h0
      have ht := ih b (fun k => by simpa using h (k + 1))
      simp only [strip]
      rw [ht, h0]
theorem strip_strip (l : List Int) : strip (strip l) = strip l := strip_ext _ _ (strip_get l)

/-! ### good sets -/
structure GoodS (s : List Int) : Prop where
  words : Words s
  len : s.length ≤ 64
  top : strip s = s
theorem getD_WB {s : List Int} (h : Words s) (k : Nat) : WB (s.getD k 0) := by
  rw [List.getD_eq_getElem?_getD]
  cases hq : s[k]? with
  | none => simp [WB]
  | some x => exact h x (List.mem_of_getElem? hq)
theorem wordAt_WB {s : List Int} (h : Words s) (k : Nat) : WB (wordAt s k) := by
  unfold wordAt
  split
  · exact getD_WB h k
  · simp [WB]
theorem wordAt_out {s : List Int} {k : Nat} (h : s.length ≤ k) : wordAt s k = 0 := by
  unfold wordAt
  split
  · rw [List.getD_eq_getElem?_getD, List.getElem?_eq_none h]; rfl
  · rfl
theorem goodS_ext {a b : List Int} (ha : GoodS a) (hb : GoodS b) (h : ∀ k, k < 64 → wordAt a k = wordAt b k) : a = b := by
  rw [← ha.top, ← hb.top]
  refine strip_ext a b (fun k => ?_)
  by_cases hk : k < 64
  · have := h k hk
    unfold wordAt at this
    rw [if_pos hk, if_pos hk] at this
    exact this
  · have h1 := ha.len
    have h2 := hb.len
    rw [List.getD_eq_getElem?_getD, List.getElem?_eq_none (by omega), List.getD_eq_getElem?_getD, List.getElem?_eq_none (by omega)]
theorem goodS_nil : GoodS [] := ⟨fun x hx => (by cases hx), by simp, rfl⟩
theorem joinW_get (F : Int → Int → Int) (a b : List Int) (n : Nat) : ∀ k, (joinW F a b n).getD k 0 = if k < n then F (wordAt a k) (wordAt b k) else 0 := by
  induction n with
  | zero => intro k; rfl
  | succ n ih =>
    intro k
    simp only [joinW]
    have hl := joinW_length F a b n
    rw [List.getD_eq_getElem?_getD]
    rcases Nat.lt_trichotomy k n with h | h | h
    · rw [List.getElem?_append_left (by omega), ← List.getD_eq_getElem?_getD, ih k, if_pos h, if_pos (by omega)]
    · subst h
      rw [List.getElem?_append_right (by omega), hl, if_pos (by omega)]
      simp
    · rw [List.getElem?_eq_none (by rw [List.length_append, hl]; simp; omega), if_neg (by omega)]
      rfl
theorem wordAt_join {F : Int → Int → Int} (h0 : F 0 0 = 0) (a b : List Int) (k : Nat) (hk : k < 64) : wordAt (sets_join.f F a b) k = F (wordAt a k) (wordAt b k) := by
  have e : wordAt (sets_join.f F a b) k = (sets_join.f F a b).getD k 0 := by unfold wordAt; rw [if_pos hk]
  rw [e]
  unfold sets_join.f
  rw [strip_get, joinW_get]
  split
  · rfl
  · rename_i h
    unfold joinN at h
    rw [wordAt_out (by omega), wordAt_out (by omega), h0]
theorem joinW_mem {F : Int → Int → Int} {a b : List Int} (hF : ∀ k, WB (F (wordAt a k) (wordAt b k))) : ∀ n, ∀ x ∈ joinW F a b n, WB x := by
  intro n
  induction n with
  | zero => intro x hx; cases hx
  | succ n ih =>
    intro x hx
    simp only [joinW, List.mem_append, List.mem_singleton] at hx
    rcases hx with hx | rfl
    · exact ih x hx
    · exact hF n
theorem goodS_join {F : Int → Int → Int} {a b : List Int} (hF : ∀ k, WB (F (wordAt a k) (wordAt b k))) : GoodS (sets_join.f F a b) :=
  ⟨fun x hx => joinW_mem hF _ x (strip_mem _ x hx), join_length F a b, strip_strip _⟩

/-! ### the operations -/
def uni (a b : List Int) : List Int := sets_join.f (fun x y => Go.bits .or .u64 x y) a b
def itr (a b : List Int) : List Int := sets_join.f (fun x y => Go.bits .and .u64 x y) a b
def dif (a b : List Int) : List Int := sets_join.f (fun x y => Go.bits .andNot .u64 x y) a b
theorem Either_f (a b : List Int) : sets_Set_Either.f a b = some (uni a b) := rfl
theorem Both_f (a b : List Int) : sets_Set_Both.f a b = some (itr a b) := rfl
theorem Minus_f (a b : List Int) : sets_Set_Minus.f a b = some (dif a b) := rfl
theorem good_uni (a b : List Int) : GoodS (uni a b) := goodS_join (fun k => by rw [bits_or_iv]; exact iv_WB _)
theorem good_itr (a b : List Int) : GoodS (itr a b) := goodS_join (fun k => by rw [bits_and_iv]; exact iv_WB _)
theorem good_dif (a b : List Int) : GoodS (dif a b) := goodS_join (fun k => by rw [bits_not_iv]; exact iv_WB _)
/-- word k as bits -/
def wv (s : List Int) (k : Nat) : BitVec 64 := bv (wordAt s k)
theorem wv_uni (a b : List Int) (k : Nat) (hk : k < 64) : wv (uni a b) k = wv a k ||| wv b k := by
  unfold wv uni
  rw [wordAt_join (by rw [bits_or_iv]; rfl) a b k hk, bits_or_iv, bv_iv]
theorem wv_itr (a b : List Int) (k : Nat) (hk : k < 64) : wv (itr a b) k = wv a k &&& wv b k := by
  unfold wv itr
  rw [wordAt_join (by rw [bits_and_iv]; rfl) a b k hk, bits_and_iv, bv_iv]
theorem wv_dif (a b : List Int) (k : Nat) (hk : k < 64) : wv (dif a b) k = wv a k &&& ~~~wv b k := by
  unfold wv dif
  rw [wordAt_join (by rw [bits_not_iv]; rfl) a b k hk, bits_not_iv, bv_iv]
theorem good_ext {a b : List Int} (ha : GoodS a) (hb : GoodS b) (h : ∀ k, k < 64 → wv a k = wv b k) : a = b :=
  goodS_ext ha hb (fun k hk => by
    have := congrArg iv (h k hk)
    unfold wv at this
    rwa [iv_bv (wordAt_WB ha.words k), iv_bv (wordAt_WB hb.words k)] at this)

/-! ### one, With, Of, setOf -/
def oneL (i : Int) : List Int := if 0 ≤ i ∧ i < 4096 then (List.replicate (i.toNat / 64 + 1) 0).set (i.toNat / 64) (2 ^ (i.toNat % 64)) else []
theorem one_f (i : Int) : sets_one.f i = some (oneL i) := by
  unfold sets_one.f oneL
  split <;> rfl
theorem pow_WB (n : Nat) : WB (2 ^ (n % 64)) := by
  have h2 : (2 : Nat) ^ (n % 64) ≤ 2 ^ 63 := Nat.pow_le_pow_right (by omega) (by omega)
  have h3 : ((2 : Int) ^ (n % 64)) = ((2 ^ (n % 64) : Nat) : Int) := by push_cast; rfl
  have h4 : 0 < (2 : Nat) ^ (n % 64) := Nat.two_pow_pos _
  unfold WB
  rw [h3]
  generalize (2 : Nat) ^ (n % 64) = q at h2 h4
  omega
theorem one_wordAt (i : Int) (h0 : 0 ≤ i) (h1 : i < 4096) (k : Nat) (hk : k < 64) : wordAt (oneL i) k = if k = i.toNat / 64 then 2 ^ (i.toNat % 64) else 0 := by
  unfold wordAt oneL
  rw [if_pos hk, if_pos ⟨h0, h1⟩, List.getD_eq_getElem?_getD, List.getElem?_set]
  split
  · rename_i h
    rw [List.length_replicate, if_pos (by omega), if_pos h.symm]
    rfl
  · rename_i h
    rw [if_neg (fun e => h e.symm), List.getElem?_replicate]
    split <;> rfl
theorem words_one (i : Int) : Words (oneL i) := by
  unfold oneL
  split
  · intro x hx
    rcases List.mem_or_eq_of_mem_set hx with h | rfl
    · rw [(List.mem_replicate.1 h).2]; omega
    · exact pow_WB _
  · intro x hx; cases hx
theorem With_f (s : List Int) (i : Int) : sets_Set_With.f s i = some (uni s (oneL i)) := by
  unfold sets_Set_With.f
  rw [one_f, Option.bind_some, Either_f, Option.bind_some]
/-- the set of some numbers -/
def ofL (s : List Int) (l : List Int) : List Int := l.foldl (fun s i => uni s (oneL i)) s
theorem good_of : ∀ (l s : List Int), GoodS s → GoodS (ofL s l) := by
  intro l
  induction l with
  | nil => intro s h; exact h
  | cons x l ih => intro s h; exact ih _ (good_uni _ _)
theorem rd_drop {l : List Int} {n : Nat} (h : n < l.length) : l.drop n = rd l n :: l.drop (n + 1) := by
  rw [List.drop_eq_getElem_cons h]
  congr 1
  unfold rd
  rw [show ((n : Int)).toNat = n from rfl, List.getD_eq_getElem?_getD, List.getElem?_eq_getElem h]
  rfl
theorem of_loop (l : List Int) (hl : l.length < 9223372036854775807) (n : Nat) : ∀ (k i : Nat) (s : List Int), i + n = l.length → n < k → sets_Of.l0 k s l l.length i = some (ofL s (l.drop i)) := by
  induction n with
  | zero =>
    intro k i s h1 hk
    cases k with
    | zero => omega
    | succ k =>
      simp only [sets_Of.l0]
      rw [if_neg (by omega), List.drop_eq_nil_of_le (by omega)]
      rfl
  | succ n ih =>
    intro k i s h1 hk
    cases k with
    | zero => omega
    | succ k =>
      simp only [sets_Of.l0]
      rw [if_pos (by omega), if_pos (by omega), if_pos (by omega), With_f, Option.bind_some, wrap64_in _ (by omega) (by omega), rd_drop (by omega)]
      exact ih k (i + 1) _ (by omega) (by omega)
theorem of_f (l : List Int) (hl : l.length < 9223372036854775807) (k : Nat) (hk : l.length < k) : sets_Of.f k l = some (ofL [] l) := by
  unfold sets_Of.f
  exact of_loop l hl l.length k 0 [] (by omega) hk
def below300 (x : Int) : Int := if Int.tmod x 300 < 0 then Int.tmod x 300 + 300 else Int.tmod x 300
theorem below_f (x : Int) : tourmake_Below.f x 300 = some (below300 x) := by
  unfold tourmake_Below.f below300
  have h1 : Int.tmod x 300 < 300 := Int.tmod_lt_of_pos x (by omega)
  have h2 : -300 < Int.tmod x 300 := by
    rcases Int.lt_or_le x 0 with h | h
    · have e : Int.tmod x 300 = - ((-x) % 300) := by
        rw [← Int.tmod_eq_emod_of_nonneg (show 0 ≤ -x by omega), Int.neg_tmod]; omega
      omega
    · rw [Int.tmod_eq_emod_of_nonneg h]; omega
  rw [if_neg (by omega)]
  split
  · rw [wrap64_in _ (by omega) (by omega)]
  · rfl
theorem setOf_loop (l : List Int) (hl : l.length * 8 ≤ 140737488351232) (n : Nat) : ∀ (k i : Nat) (x3 : List Int), i + n = l.length → x3.length = i → n + l.length + 1 < k → tourkeep1_setOf.l0 k x3 l l.length i = some (ofL [] (x3 ++ (l.drop i).map below300)) := by
  induction n with
  | zero =>
    intro k i x3 h1 h2 hk
    cases k with
    | zero => omega
    | succ k =>
      simp only [tourkeep1_setOf.l0]
      rw [if_neg (by omega), List.drop_eq_nil_of_le (by omega), of_f x3 (by omega) k (by omega)]
      simp
  | succ n ih =>
    intro k i x3 h1 h2 hk
    cases k with
    | zero => omega
    | succ k =>
      simp only [tourkeep1_setOf.l0]
      rw [if_pos (by omega), if_pos (by omega), if_pos (by omega), below_f, Option.bind_some, if_pos (by omega), wrap64_in _ (by omega) (by omega), rd_drop (by omega)]
      have := ih k (i + 1) (x3 ++ [below300 (rd l i)]) (by omega) (by simp; omega) (by omega)
      rw [show (((i + 1 : Nat)) : Int) = (i : Int) + 1 from by omega] at this
      rw [this]
      simp
def setL (l : List Int) : List Int := ofL [] (l.map below300)
theorem setOf_f (l : List Int) (hl : l.length * 8 ≤ 140737488351232) (k : Nat) (hk : 2 * l.length + 1 < k) : tourkeep1_setOf.f k l = some (setL l) := by
  unfold tourkeep1_setOf.f
  have := setOf_loop l hl l.length k 0 [] (by omega) rfl (by omega)
  simpa [setL] using this
theorem good_setL (l : List Int) : GoodS (setL l) := good_of _ _ goodS_nil

/-! ### numbers of elements -/
/-- the number of bits 1 -/
def pc : Nat → Nat → Nat
  | 0, _ => 0
  | m + 1, x => x % 2 + pc m (x / 2)
theorem wbits_pc (k : Nat) : ∀ (m i x : Nat), x < 2 ^ m → (wbits k i x).length = pc m x := by
  intro m
  induction m with
  | zero => intro i x hx; obtain rfl : x = 0 := by simpa using hx
            rw [wbits_zero]; rfl
  | succ m ih =>
    intro i x hx
    rw [Nat.pow_succ] at hx
    have h1 := ih (i + 1) (x / 2) (by omega)
    simp only [pc]
    by_cases h0 : x = 0
    · subst h0
      have h2 := ih (i + 1) (0 / 2) (by omega)
      rw [wbits_zero] at h2 ⊢
      simp at h2 ⊢
      omega
    · by_cases h2 : x % 2 = 1
      · rw [wbits_odd k i x h2, List.length_cons, h1]; omega
      · rw [wbits_even k i x (by omega) h0, h1]; omega
theorem pc_or_and : ∀ (m a b : Nat), pc m (a ||| b) + pc m (a &&& b) = pc m a + pc m b := by
  intro m
  induction m with
  | zero => intro a b; rfl
  | succ m ih =>
    intro a b
    have h := ih (a / 2) (b / 2)
    simp only [pc]
    rw [Nat.or_div_two, Nat.and_div_two]
    have h1 : (a ||| b) % 2 + (a &&& b) % 2 = a % 2 + b % 2 := by
      have ha := Nat.mod_two_eq_zero_or_one a
      have hb := Nat.mod_two_eq_zero_or_one b
      have e1 := @Nat.or_mod_two_pow a b 1
      have e2 := @Nat.and_mod_two_pow a b 1
      simp only [Nat.pow_one] at e1 e2
      rw [e1, e2]
      rcases ha with ha | ha <;> rcases hb with hb | hb <;> rw [ha, hb] <;> decide
    omega
/-- elements of the first n words -/
def cnt (g : Nat → Nat) : Nat → Nat
  | 0 => 0
  | n + 1 => cnt g n + pc 64 (g n)
theorem cnt_succ' (g : Nat → Nat) : ∀ n, cnt g (n + 1) = pc 64 (g 0) + cnt (fun k => g (k + 1)) n := by
  intro n
  induction n with
  | zero => simp [cnt]
  | succ n ih =>
    have e : cnt g (n + 1 + 1) = cnt g (n + 1) + pc 64 (g (n + 1)) := rfl
    rw [e, ih]
    simp only [cnt]
    omega
theorem pc_zero : ∀ m, pc m 0 = 0 := by
  intro m
  induction m with
  | zero => rfl
  | succ m ih => simp [pc, ih]
theorem cnt_zero (g : Nat → Nat) (h : ∀ k, g k = 0) : ∀ n, cnt g n = 0 := by
  intro n
  induction n with
  | zero => rfl
  | succ n ih => simp [cnt, ih, h, pc_zero]
theorem elems_cnt : ∀ (l : List Int) (j n : Nat), Words l → l.length ≤ n → (elems j l).length = cnt (fun k => (l.getD k 0).toNat) n := by
  intro l
  induction l with
  | nil => intro j n _ _; rw [cnt_zero _ (fun k => by simp)]; rfl
  | cons x l ih =>
    intro j n hw hn
    cases n with
    | zero => simp at hn
    | succ n =>
      have hx := hw x List.mem_cons_self
      rw [cnt_succ']
      simp only [elems, List.length_append]
      rw [wbits_pc j 64 0 x.toNat (by omega), ih (j + 1) n (fun y hy => hw y (List.mem_cons_of_mem _ hy)) (by simpa using hn)]
      simp
theorem walked_good {s : List Int} (h : GoodS s) : sets_walked s = s := by
  have hg : GoodS (sets_walked s) := goodS_join (fun k => wordAt_WB h.words k)
  refine goodS_ext hg h (fun k hk => ?_)
  unfold sets_walked
  exact wordAt_join rfl s [] k hk
/-- the number of elements -/
def card (s : List Int) : Nat := cnt (fun k => (wv s k).toNat) 64
theorem cnt_congr {g g' : Nat → Nat} : ∀ n, (∀ k, k < n → g k = g' k) → cnt g n = cnt g' n := by
  intro n
  induction n with
  | zero => intro _; rfl
  | succ n ih => intro h; simp only [cnt]; rw [ih (fun k hk => h k (by omega)), h n (by omega)]
theorem elems_card {s : List Int} (h : GoodS s) : (elems 0 s).length = card s := by
  rw [elems_cnt s 0 64 h.words h.len]
  refine cnt_congr 64 (fun k hk => ?_)
  have e : wordAt s k = s.getD k 0 := by unfold wordAt; rw [if_pos hk]
  have h2 := iv_bv (wordAt_WB h.words k)
  unfold wv
  unfold iv at h2
  rw [← e]
  omega
theorem len_f {s : List Int} (h : GoodS s) : sets_Set_Len.f s = some (card s : Int) := by
  unfold sets_Set_Len.f
  rw [walked_good h, if_pos h.words, elems_card h]
theorem pc_le : ∀ m x, pc m x ≤ m := by
  intro m
  induction m with
  | zero => intro x; exact Nat.le_refl _
  | succ m ih => intro x; have := ih (x / 2); simp only [pc]; omega
theorem cnt_le (g : Nat → Nat) : ∀ n, cnt g n ≤ 64 * n := by
  intro n
  induction n with
  | zero => exact Nat.le_refl _
  | succ n ih => have := pc_le 64 (g n); simp only [cnt]; omega
theorem card_le (s : List Int) : card s ≤ 4096 := cnt_le _ 64
theorem card_or_and (a b : List Int) : card (uni a b) + card (itr a b) = card a + card b := by
  have h : ∀ n, n ≤ 64 → cnt (fun k => (wv (uni a b) k).toNat) n + cnt (fun k => (wv (itr a b) k).toNat) n = cnt (fun k => (wv a k).toNat) n + cnt (fun k => (wv b k).toNat) n := by
    intro n
    induction n with
    | zero => intro _; rfl
    | succ n ih =>
      intro hn
      have h1 := ih (by omega)
      have h2 := pc_or_and 64 (wv a n).toNat (wv b n).toNat
      simp only [cnt]
      rw [wv_uni a b n (by omega), wv_itr a b n (by omega), BitVec.toNat_or, BitVec.toNat_and]
      omega
  exact h 64 (Nat.le_refl _)
end Go.Proofs.Ytknmlikjmnhgkaa.Pure
