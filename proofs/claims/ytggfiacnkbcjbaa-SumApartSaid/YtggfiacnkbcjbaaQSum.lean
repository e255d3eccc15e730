/- What the printed functions of package sum compute: Join is injective in each argument; digests of lists that differ in one place differ. Conditions: lists that are short enough. -/
import Derived.Test.YtggfiacnkbcjbaaPAllx1
import Derived.Test.YtggfiacnkbcjbaaPAllx4
import Derived.Test.YtggfiacnkbcjbaaPAllx2
import Derived.Test.YtggfiacnkbcjbaaPAllx3
import Derived.Test.YtggfiacnkbcjbaaQMix
namespace Go.Proofs.Ytggfiacnkbcjbaa.QRnd
open Go Go.RowKit Go.Proofs.Ytggfiacnkbcjbaa.P Go.Proofs.YtggfiacnkbcjbaaW.PrintWords Go.Proofs.YtggfiacnkbcjbaaW.PrintLast Go.Proofs.YtggfiacnkbcjbaaW.PrintMore

theorem wrap64_in (x : Int) (h0 : -9223372036854775808 ≤ x) (h1 : x < 9223372036854775808) : wrap64 x = x := by unfold wrap64; omega
def joinI (a b : Int) : Int := mixI ((mixI ((a + 5840696475078001361) % 18446744073709551616) * 11170449401992604703 % 18446744073709551616 + b) % 18446744073709551616)
theorem join_f (a b : Int) : sum_Join.f a b = some (joinI a b) := by
  unfold sum_Join.f joinI
  simp only [IntKind.wrap_u64, mix_f, Option.bind_some]
theorem join_range (a b : Int) : 0 ≤ joinI a b ∧ joinI a b < 18446744073709551616 := mixI_range _
theorem mod_range (x : Int) : 0 ≤ x % 18446744073709551616 ∧ x % 18446744073709551616 < 18446744073709551616 := by omega
theorem add_left (x y b : Int) (h0 : 0 ≤ x) (h1 : x < 18446744073709551616) (g0 : 0 ≤ y) (g1 : y < 18446744073709551616) (h : (x + b) % 18446744073709551616 = (y + b) % 18446744073709551616) : x = y := by omega
theorem add_right (x b c : Int) (h0 : 0 ≤ b) (h1 : b < 18446744073709551616) (g0 : 0 ≤ c) (g1 : c < 18446744073709551616) (h : (x + b) % 18446744073709551616 = (x + c) % 18446744073709551616) : b = c := by omega
theorem join_left (a a' b : Int) (h0 : 0 ≤ a) (h1 : a < 18446744073709551616) (g0 : 0 ≤ a') (g1 : a' < 18446744073709551616) (h : joinI a b = joinI a' b) : a = a' := by
  have e := mix_inj _ _ (mod_range _).1 (mod_range _).2 (mod_range _).1 (mod_range _).2 h
  have e1 := add_left _ _ _ (mod_range _).1 (mod_range _).2 (mod_range _).1 (mod_range _).2 e
  have e2 := odd_inj 11170449401992604703 (by decide) _ _ (mixI_range _).1 (mixI_range _).2 (mixI_range _).1 (mixI_range _).2 e1
  have e3 := mix_inj _ _ (mod_range _).1 (mod_range _).2 (mod_range _).1 (mod_range _).2 e2
  exact add_left _ _ _ h0 h1 g0 g1 e3
theorem join_right (a b b' : Int) (h0 : 0 ≤ b) (h1 : b < 18446744073709551616) (g0 : 0 ≤ b') (g1 : b' < 18446744073709551616) (h : joinI a b = joinI a b') : b = b' :=
  add_right _ _ _ h0 h1 g0 g1 (mix_inj _ _ (mod_range _).1 (mod_range _).2 (mod_range _).1 (mod_range _).2 h)
def Word (x : Int) : Prop := 0 ≤ x ∧ x < 18446744073709551616
/-- different states stay different -/
theorem fold_state (l : List Int) : ∀ s t : Int, Word s → Word t → s ≠ t → l.foldl joinI s ≠ l.foldl joinI t := by
  induction l with
  | nil => intro s t _ _ h; exact h
  | cons x l ih => intro s t hs ht h; exact ih _ _ (join_range _ _) (join_range _ _) (fun e => h (join_left _ _ _ hs.1 hs.2 ht.1 ht.2 e))
/-- lists that differ in one place -/
theorem fold_apart (l : List Int) : ∀ (i : Nat) (v s : Int), (∀ x ∈ l, Word x) → Word v → (h : i < l.length) → v ≠ l[i] → (l.set i v).foldl joinI s ≠ l.foldl joinI s := by
  induction l with
  | nil => intro i v s _ _ h; simp at h
  | cons x l ih =>
    intro i v s hl hv h hne
    cases i with
    | zero => exact fold_state l _ _ (join_range _ _) (join_range _ _) (fun e => hne (join_right _ _ _ hv.1 hv.2 (hl x (by simp)).1 (hl x (by simp)).2 e))
    | succ i => exact ih i v _ (fun y hy => hl y (by simp [hy])) hv (by simpa using h) (by simpa using hne)
def wordsI (l : List Int) : Int := l.foldl joinI (joinI 5840696475078001361 l.length)
theorem words_loop (l : List Int) (hl : l.length ≤ 1000) (d : Nat) : ∀ (k : Nat) (s i : Int), 0 ≤ i → (l.length : Int) - i = d → d < k → sum_Words.l0 k s l (l.length : Int) i = some ((l.drop i.toNat).foldl joinI s) := by
  induction d with
  | zero =>
    intro k s i h0 hd hk
    obtain ⟨k, rfl⟩ : ∃ m, k = m + 1 := ⟨k - 1, by omega⟩
    simp only [sum_Words.l0]
    rw [if_neg (by omega), List.drop_eq_nil_of_le (by omega)]
    rfl
  | succ d ih =>
    intro k s i h0 hd hk
    obtain ⟨k, rfl⟩ : ∃ m, k = m + 1 := ⟨k - 1, by omega⟩
    have hlt : i.toNat < l.length := by omega
    simp only [sum_Words.l0]
    rw [if_pos (by omega), if_pos h0, if_pos (by omega), join_f, Option.bind_some, wrap64_in (i + 1) (by omega) (by omega), ih k _ (i + 1) (by omega) (by omega) (by omega)]
    have e1 : (i + 1).toNat = i.toNat + 1 := by omega
    have e2 : l.drop i.toNat = l[i.toNat] :: l.drop (i.toNat + 1) := List.drop_eq_getElem_cons hlt
    have e3 : rd l i = l[i.toNat] := by simp [rd, hlt]
    rw [e1, e2, List.foldl_cons, e3]
theorem words_f (l : List Int) (hl : l.length ≤ 1000) (k : Nat) (hk : l.length < k) : sum_Words.f k l = some (wordsI l) := by
  unfold sum_Words.f
  rw [IntKind.wrap_u64, show (l.length : Int) % 18446744073709551616 = l.length by omega, join_f, Option.bind_some, words_loop l hl l.length k _ 0 (by omega) (by omega) hk]
  rfl
theorem ints_loop (l : List Int) (hl : l.length ≤ 1000) (d : Nat) : ∀ (k : Nat) (i : Nat), i + d = l.length → d + l.length + 1 < k →
    sum_Ints.l0 k ((l.take i).map (· % 18446744073709551616) ++ List.replicate d 0) l (l.length : Int) (i : Int) = some (wordsI (l.map (· % 18446744073709551616))) := by
  induction d with
  | zero =>
    intro k i hd hk
    obtain ⟨k, rfl⟩ : ∃ m, k = m + 1 := ⟨k - 1, by omega⟩
    simp only [sum_Ints.l0]
    rw [if_neg (by omega), List.take_of_length_le (by omega), List.replicate_zero, List.append_nil, words_f _ (by simpa using hl) k (by simp; omega), Option.bind_some]
  | succ d ih =>
    intro k i hd hk
    obtain ⟨k, rfl⟩ : ∃ m, k = m + 1 := ⟨k - 1, by omega⟩
    have hlt : i < l.length := by omega
    have hlen : ((l.take i).map (· % 18446744073709551616)).length = i := by simp; omega
    simp only [sum_Ints.l0]
    rw [if_pos (by omega), if_pos (by omega), if_pos (by omega), if_pos (by rw [List.length_append, hlen, List.length_replicate]; omega), wrap64_in ((i : Int) + 1) (by omega) (by omega)]
    have e1 : (((l.take i).map (· % 18446744073709551616)) ++ List.replicate (d + 1) 0).set ((i : Int)).toNat (IntKind.u64.wrap (rd l i)) = (l.take (i + 1)).map (· % 18446744073709551616) ++ List.replicate d 0 := by
      have e3 : rd l i = l[i] := by simp [rd, hlt]
      rw [Int.toNat_natCast, List.set_append_right _ _ (by omega), hlen, Nat.sub_self, List.replicate_succ, List.set_cons_zero, IntKind.wrap_u64, e3, List.take_succ_eq_append_getElem hlt, List.map_append, List.append_assoc]
      rfl
    rw [e1]
    exact ih k (i + 1) (by omega) (by omega)
theorem ints_f (l : List Int) (hl : l.length ≤ 1000) (k : Nat) (hk : 2 * l.length + 1 < k) : sum_Ints.f k l = some (wordsI (l.map (· % 18446744073709551616))) := by
  unfold sum_Ints.f
  rw [if_pos (by omega), if_pos (by omega), Int.toNat_natCast]
  exact ints_loop l hl l.length k 0 (by omega) (by omega)
theorem bytes_loop (l : List Int) (hl : l.length ≤ 1000) (d : Nat) : ∀ (k : Nat) (i : Nat), i + d = l.length → d < k →
    tourmake_Bytes.l0 k ((l.take i).map (· % 256)) l (l.length : Int) (i : Int) = some (l.map (· % 256)) := by
  induction d with
  | zero =>
    intro k i hd hk
    obtain ⟨k, rfl⟩ : ∃ m, k = m + 1 := ⟨k - 1, by omega⟩
    simp only [tourmake_Bytes.l0]
    rw [if_neg (by omega), List.take_of_length_le (by omega)]
  | succ d ih =>
    intro k i hd hk
    obtain ⟨k, rfl⟩ : ∃ m, k = m + 1 := ⟨k - 1, by omega⟩
    have hlt : i < l.length := by omega
    have hlen : ((l.take i).map (· % 256)).length = i := by simp; omega
    simp only [tourmake_Bytes.l0]
    rw [if_pos (by omega), if_pos (by omega), if_pos (by omega), if_pos (by omega), wrap64_in ((i : Int) + 1) (by omega) (by omega)]
    have e3 : rd l i = l[i] := by simp [rd, hlt]
    have e1 : (l.take i).map (· % 256) ++ [rd l i % 256] = (l.take (i + 1)).map (· % 256) := by
      rw [e3, List.take_succ_eq_append_getElem hlt, List.map_append]; rfl
    rw [e1]
    exact ih k (i + 1) (by omega) (by omega)
theorem mbytes_f (l : List Int) (hl : l.length ≤ 1000) (k : Nat) (hk : l.length < k) : tourmake_Bytes.f k l = some (l.map (· % 256)) :=
  bytes_loop l hl l.length k 0 (by omega) (by omega)

/-! digests of bytes -/
def val : List Int → Int
  | [] => 0
  | c :: r => c + 256 * val r
def Byte (x : Int) : Prop := 0 ≤ x ∧ x < 256
theorem val_inj (x : List Int) : ∀ y : List Int, (∀ c ∈ x, Byte c) → (∀ c ∈ y, Byte c) → x.length = y.length → val x = val y → x = y := by
  induction x with
  | nil => intro y _ _ h _; exact (List.eq_nil_of_length_eq_zero h.symm).symm
  | cons a x ih =>
    intro y hx hy hl h
    cases y with
    | nil => simp at hl
    | cons b y =>
      have ha := hx a (by simp)
      have hb := hy b (by simp)
      unfold Byte at ha hb
      simp only [val] at h
      have e1 : a = b := by omega
      have e2 : val x = val y := by omega
      rw [e1, ih y (fun c hc => hx c (by simp [hc])) (fun c hc => hy c (by simp [hc])) (by simpa using hl) e2]
theorem val_snoc (x : List Int) (c : Int) : val (x ++ [c]) = val x + c * 256 ^ x.length := by
  induction x with
  | nil => simp [val]
  | cons a x ih => simp only [List.cons_append, val, ih, List.length_cons, Int.pow_succ]; grind
theorem val_range (x : List Int) (hx : ∀ c ∈ x, Byte c) : 0 ≤ val x ∧ val x < 256 ^ x.length := by
  induction x with
  | nil => simp [val]
  | cons a x ih =>
    have ha := hx a (by simp)
    unfold Byte at ha
    have h := ih (fun c hc => hx c (by simp [hc]))
    simp only [val, List.length_cons, Int.pow_succ]
    generalize (256 : Int) ^ x.length = p at *
    omega
theorem pow256 (i : Nat) (h : i ≤ 8) : 2 ^ (8 * i) ≤ 18446744073709551616 := Nat.le_trans (Nat.pow_le_pow_right (by omega) (show 8 * i ≤ 64 by omega)) (by decide)
/-- one byte more -/
theorem or_byte (v c : Int) (i : Nat) (hi : i < 8) (hc : Byte c) (h0 : 0 ≤ v) (h1 : v < 256 ^ i) : Go.bits .or .u64 v (shl .u64 (IntKind.u64.wrap c) (wrap64 (8 * (i : Int)))) = v + c * 256 ^ i := by
  unfold Byte at hc
  have w : wrap64 (8 * (i : Int)) = 8 * i := wrap64_in _ (by omega) (by omega)
  have b64 : IntKind.u64.bits = 64 := rfl
  have e : shl .u64 (IntKind.u64.wrap c) (wrap64 (8 * (i : Int))) = c * 256 ^ i := by
    unfold shl
    rw [w, b64, IntKind.wrap_u64, IntKind.wrap_u64, show min ((8 * (i : Int)).toNat) 64 = 8 * i by omega, show c % 18446744073709551616 = c by omega, Int.pow_mul]
    have h3 := pow256 (i + 1) (by omega)
    have h4 : (((2 : Nat) ^ (8 * (i + 1)) : Nat) : Int) = 256 * ((2 : Int) ^ 8) ^ i := by rw [Nat.mul_add, Nat.pow_add, Nat.pow_mul]; simp; omega
    have h5 : (0 : Int) ≤ ((2 : Int) ^ 8) ^ i := Int.pow_nonneg (by omega)
    have h6 : c * ((2 : Int) ^ 8) ^ i ≤ 255 * ((2 : Int) ^ 8) ^ i := Int.mul_le_mul_of_nonneg_right (by omega) h5
    have : c * ((2 : Int) ^ 8) ^ i < 18446744073709551616 ∧ 0 ≤ c * ((2 : Int) ^ 8) ^ i := ⟨by omega, Int.mul_nonneg (by omega) h5⟩
    rw [Int.emod_eq_of_lt this.2 this.1]
    rfl
  rw [e]
  obtain ⟨n, rfl⟩ : ∃ n : Nat, v = n := ⟨v.toNat, by omega⟩
  obtain ⟨m, rfl⟩ : ∃ m : Nat, c = m := ⟨c.toNat, by omega⟩
  have hn : n < 2 ^ (8 * i) := by rw [Nat.pow_mul]; have : ((n : Int)) < ((256 ^ i : Nat) : Int) := by simpa using h1
                                  exact_mod_cast this
  have hb : (m : Int) * 256 ^ i = ((m * 2 ^ (8 * i) : Nat) : Int) := by rw [Nat.pow_mul]; simp
  rw [hb]
  have l1 : m * 2 ^ (8 * i) < 18446744073709551616 := by
    have h1 : m * 2 ^ (8 * i) < 256 * 2 ^ (8 * i) := Nat.mul_lt_mul_of_pos_right (by omega) (Nat.pow_pos (by omega))
    have h2 : 256 * 2 ^ (8 * i) = 2 ^ (8 * (i + 1)) := by rw [Nat.mul_add, Nat.pow_add, Nat.mul_comm]
    have h3 := pow256 (i + 1) (by omega)
    omega
  have l2 : n < 18446744073709551616 := Nat.lt_of_lt_of_le hn (pow256 i (by omega))
  rw [u64_or _ _ (by omega) (by omega) (by omega) (by omega), Int.toNat_natCast, Int.toNat_natCast, Nat.or_comm, nat_join (8 * i) _ _ (Nat.mul_mod_left _ _) hn]
  omega
theorem chunk_loop (x : List Int) (s : Int) (c : List Int) (hc : c.length ≤ 8) (hb : ∀ b ∈ c, Byte b) (d : Nat) : ∀ (k : Nat) (i : Nat), i + d = c.length → d < k →
    sum_Bytes.l1 k x s (val (c.take i)) c (c.length : Int) (i : Int) = sum_Bytes.l1 (k - d) x s (val c) c (c.length : Int) (c.length : Int) := by
  induction d with
  | zero =>
    intro k i hd hk
    have : i = c.length := by omega
    subst this
    rw [List.take_of_length_le (Nat.le_refl _), Nat.sub_zero]
  | succ d ih =>
    intro k i hd hk
    obtain ⟨k, rfl⟩ : ∃ m, k = m + 1 := ⟨k - 1, by omega⟩
    have hlt : i < c.length := by omega
    have e3 : rd c i = c[i] := by simp [rd, hlt]
    have hr := val_range (c.take i) (fun b h => hb b (List.mem_of_mem_take h))
    rw [List.length_take, Nat.min_eq_left (by omega)] at hr
    have hw : wrap64 (8 * (i : Int)) = 8 * i := wrap64_in _ (by omega) (by omega)
    conv => lhs; unfold sum_Bytes.l1
    rw [if_pos (by omega), if_pos (by omega), if_pos (by omega), if_pos (by omega), wrap64_in ((i : Int) + 1) (by omega) (by omega), e3, or_byte _ _ i (by omega) (hb _ (List.getElem_mem hlt)) hr.1 hr.2]
    have e1 : val (c.take i) + c[i] * 256 ^ i = val (c.take (i + 1)) := by
      rw [List.take_succ_eq_append_getElem hlt, val_snoc, List.length_take, Nat.min_eq_left (by omega)]
    rw [e1]
    have := ih k (i + 1) (by omega) (by omega)
    rw [show ((i : Int) + 1) = ((i + 1 : Nat) : Int) by omega, this]
    congr 1
    omega
def bytesI : Nat → List Int → Int → Int
  | 0, _, d => d
  | f + 1, l, d => if l = [] then d else bytesI f (l.drop 8) (joinI d (val (l.take 8)))
theorem sum_loop (f : Nat) : ∀ (l : List Int) (s : Int) (k : Nat), l.length ≤ f → l.length ≤ 1000 → (∀ b ∈ l, Byte b) → 11 * f + 1 < k → sum_Bytes.l0 k l s = some (bytesI f l s) := by
  induction f with
  | zero =>
    intro l s k hl _ _ hk
    obtain ⟨k, rfl⟩ : ∃ m, k = m + 1 := ⟨k - 1, by omega⟩
    have : l = [] := List.eq_nil_of_length_eq_zero (by omega)
    subst this
    unfold sum_Bytes.l0
    rw [if_neg (by simp)]
    rfl
  | succ f ih =>
    intro l s k hl hl2 hb hk
    obtain ⟨k, rfl⟩ : ∃ m, k = m + 1 := ⟨k - 1, by omega⟩
    unfold sum_Bytes.l0 bytesI
    by_cases h0 : l = []
    · subst h0
      rw [if_neg (by simp)]
      rfl
    · have hpos : 0 < l.length := List.length_pos_iff.2 h0
      have em : (mn (l.length : Int) 8).toNat = min l.length 8 := by unfold mn; split <;> omega
      have m0 : 0 ≤ mn (l.length : Int) 8 := by unfold mn; split <;> omega
      have m1 : mn (l.length : Int) 8 ≤ (l.length : Int) := by unfold mn; split <;> omega
      have et : l.take (min l.length 8) = l.take 8 := by
        rcases Nat.le_total l.length 8 with h | h
        · rw [Nat.min_eq_left h, List.take_of_length_le (Nat.le_refl _), List.take_of_length_le h]
        · rw [Nat.min_eq_right h]
      have ed : l.drop (min l.length 8) = l.drop 8 := by
        rcases Nat.le_total l.length 8 with h | h
        · rw [Nat.min_eq_left h, List.drop_eq_nil_of_le (Nat.le_refl _), List.drop_eq_nil_of_le h]
        · rw [Nat.min_eq_right h]
      have hc8 : (l.take 8).length ≤ 8 := by rw [List.length_take]; omega
      rw [if_pos (by omega), if_pos m0, if_pos m1, if_neg h0, em, et, Option.bind_some]
      have hc := chunk_loop l s (l.take 8) hc8 (fun b h => hb b (List.mem_of_mem_take h)) (l.take 8).length k 0 (by omega) (by omega)
      simp only [List.take_zero, val] at hc
      rw [show ((0 : Nat) : Int) = 0 from rfl] at hc
      rw [hc]
      obtain ⟨j, hj⟩ : ∃ j, k - (l.take 8).length = j + 1 := ⟨k - (l.take 8).length - 1, by omega⟩
      rw [hj]
      unfold sum_Bytes.l1
      rw [if_neg (by omega), join_f, Option.bind_some, if_pos m0, if_pos m1, em, ed]
      exact ih _ _ j (by rw [List.length_drop]; omega) (by rw [List.length_drop]; omega) (fun b h => hb b (List.mem_of_mem_drop h)) (by omega)
theorem bytesI_state (f : Nat) : ∀ (l : List Int) (s t : Int), Word s → Word t → s ≠ t → bytesI f l s ≠ bytesI f l t := by
  induction f with
  | zero => intro l s t _ _ h; exact h
  | succ f ih =>
    intro l s t hs ht h
    unfold bytesI
    split
    · exact h
    · exact ih _ _ _ (join_range _ _) (join_range _ _) (fun e => h (join_left _ _ _ hs.1 hs.2 ht.1 ht.2 e))
theorem val_word (l : List Int) (hl : l.length ≤ 8) (hb : ∀ b ∈ l, Byte b) : Word (val l) := by
  have h := val_range l hb
  have h3 := pow256 l.length hl
  have h4 : (((2 : Nat) ^ (8 * l.length) : Nat) : Int) = (256 : Int) ^ l.length := by rw [Nat.pow_mul]; simp
  exact ⟨h.1, by omega⟩
theorem bytesI_apart (f : Nat) : ∀ (l : List Int) (i : Nat) (v s : Int), l.length ≤ f → (∀ b ∈ l, Byte b) → Byte v → (h : i < l.length) → v ≠ l[i] → bytesI f (l.set i v) s ≠ bytesI f l s := by
  induction f with
  | zero => intro l i v s hl _ _ h; omega
  | succ f ih =>
    intro l i v s hl hb hv h hne
    unfold bytesI
    have n0 : l ≠ [] := by intro e; subst e; simp at h
    have n1 : l.set i v ≠ [] := by intro e; have := congrArg List.length e; simp at this; exact n0 this
    rw [if_neg n0, if_neg n1]
    have ht : ∀ b ∈ l.take 8, Byte b := fun b h => hb b (List.mem_of_mem_take h)
    by_cases hi : i < 8
    · rw [List.drop_set, if_pos hi, List.take_set]
      refine bytesI_state f _ _ _ (join_range _ _) (join_range _ _) (fun e => ?_)
      have hs : ∀ b ∈ (l.take 8).set i v, Byte b := fun b hm => by
        rcases List.mem_or_eq_of_mem_set hm with hm | rfl
        · exact ht b hm
        · exact hv
      have w1 := val_word ((l.take 8).set i v) (by rw [List.length_set, List.length_take]; omega) hs
      have w2 := val_word (l.take 8) (by rw [List.length_take]; omega) ht
      have e2 := val_inj _ _ hs ht (by simp) (join_right _ _ _ w1.1 w1.2 w2.1 w2.2 e)
      have hit : i < (l.take 8).length := by rw [List.length_take]; omega
      have e3 : ((l.take 8).set i v)[i]'(by simpa using hit) = (l.take 8)[i]'hit := by simp only [e2]
      rw [List.getElem_set_self, List.getElem_take] at e3
      exact hne e3
    · rw [List.drop_set, if_neg hi, List.take_set]
      have e : (l.take 8).set i v = l.take 8 := List.set_eq_of_length_le (by rw [List.length_take]; omega)
      rw [e]
      have hlt : i - 8 < (l.drop 8).length := by rw [List.length_drop]; omega
      refine ih (l.drop 8) (i - 8) v _ (by rw [List.length_drop]; omega) (fun b h => hb b (List.mem_of_mem_drop h)) hv hlt ?_
      rw [List.getElem_drop]
      intro e
      apply hne
      rw [e]
      congr 1
      omega
theorem sbytes_f (l : List Int) (hl : l.length ≤ 1000) (hb : ∀ b ∈ l, Byte b) (k : Nat) (hk : 11 * l.length + 1 < k) : sum_Bytes.f k l = some (bytesI l.length l (joinI 11170449401992604703 l.length)) := by
  unfold sum_Bytes.f
  rw [IntKind.wrap_u64, show (l.length : Int) % 18446744073709551616 = l.length by omega, join_f, Option.bind_some, sum_loop l.length l _ k (Nat.le_refl _) hl hb hk]

end Go.Proofs.Ytggfiacnkbcjbaa.QRnd
