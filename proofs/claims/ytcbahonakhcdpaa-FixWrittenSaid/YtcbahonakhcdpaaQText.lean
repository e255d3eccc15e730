/- What the printed functions Text and Read of package fix compute: decimal digits of a number, and the number of decimal digits. No condition but enough rounds. -/
import Derived.Test.YtcbahonakhcdpaaPAllx2
import Derived.Test.YtcbahonakhcdpaaPAllx5
import Derived.Test.YtcbahonakhcdpaaPAllx4
import Derived.Test.YtcbahonakhcdpaaPAllx3
import Derived.Test.YtcbahonakhcdpaaPAllx1
namespace Go.Proofs.Ytcbahonakhcdpaa.QText
open Go Go.RowKit Go.Proofs.Ytcbahonakhcdpaa.P Go.Proofs.YtcbahonakhcdpaaW.PrintWords Go.Proofs.YtcbahonakhcdpaaW.PrintLast Go.Proofs.YtcbahonakhcdpaaW.PrintMore

theorem wrap64_in (x : Int) (h0 : -9223372036854775808 ≤ x) (h1 : x < 9223372036854775808) : wrap64 x = x := by unfold wrap64; omega
/-! texts as lists of codes -/
def Codes (L : List Int) : Prop := ∀ x ∈ L, 0 ≤ x ∧ x < 256
theorem bytesOf_str (L : List Int) (h : Codes L) : bytesOf (strOfNums L) = L := by
  unfold bytesOf
  rw [strOfNums_data, List.map_map]
  induction L with
  | nil => rfl
  | cons x L ih =>
    have hx := h x List.mem_cons_self
    rw [List.map_cons, ih (fun y hy => h y (List.mem_cons_of_mem _ hy))]
    congr 1
    show ((UInt8.ofNat x.toNat).toNat : Int) = x
    rw [UInt8.toNat_ofNat']
    omega
theorem bt_str (L : List Int) (h : Codes L) (i : Int) : bt (strOfNums L) i = rd L i := by rw [← rd_bytesOf, bytesOf_str L h]
theorem drop_str (L : List Int) (a : Nat) : (strOfNums L).extract a (strOfNums L).size = strOfNums (L.drop a) := by
  apply ByteArray.ext
  rw [ByteArray.data_extract, strOfNums_size]
  show ((L.map fun n => UInt8.ofNat n.toNat).toArray).extract a L.length = ((L.drop a).map fun n => UInt8.ofNat n.toNat).toArray
  rw [List.extract_toArray, List.map_drop, List.extract_eq_take_drop, List.take_of_length_le (by simp)]
theorem str_ne (L : List Int) (h : L ≠ []) : ¬ (strOfNums L).toList = ([] : List UInt8) := by
  intro e
  rw [ByteArray.toList_eq, strOfNums_data] at e
  exact h (List.map_eq_nil_iff.1 e)
/-! digits -/
def acc (n : Int) (D : List Int) : Int := D.foldl (fun n c => n * 10 + (c - 48)) n
def Dig (D : List Int) : Prop := ∀ c ∈ D, 48 ≤ c ∧ c ≤ 57
theorem dig_nil : Dig [] := fun _ h => by cases h
theorem acc_nil (n : Int) : acc n [] = n := rfl
theorem acc_cons (n c : Int) (D : List Int) : acc n (c :: D) = acc (n * 10 + (c - 48)) D := rfl
theorem acc_snoc (n c : Int) (D : List Int) : acc n (D ++ [c]) = acc n D * 10 + (c - 48) := by unfold acc; rw [List.foldl_append]; rfl
theorem acc_ge (D : List Int) : ∀ n, 0 ≤ n → Dig D → n ≤ acc n D := by
  induction D with
  | nil => intro n _ _; exact Int.le_refl _
  | cons c D ih =>
    intro n h0 hd
    have hc := hd c List.mem_cons_self
    have := ih (n * 10 + (c - 48)) (by omega) (fun y hy => hd y (List.mem_cons_of_mem _ hy))
    rw [acc_cons]
    omega
theorem acc_lin (D : List Int) : ∀ n, acc n D = n * 10 ^ D.length + acc 0 D := by
  induction D with
  | nil => intro n; simp [acc]
  | cons c D ih =>
    intro n
    rw [acc_cons, acc_cons, ih (n * 10 + (c - 48)), ih (0 * 10 + (c - 48)), List.length_cons, Int.pow_succ]
    generalize (10 : Int) ^ D.length = T
    grind
theorem dig_codes {D : List Int} (h : Dig D) : Codes D := fun x hx => by have := h x hx; omega
theorem whole_f (n : Nat) : ∀ (k : Nat) (W : Int), 0 ≤ W → W < 10 ^ (n + 1) → W < 18446744073709551616 → n ≤ 20 → n < k → ∃ D, fix_whole.f k W = some D ∧ Dig D ∧ acc 0 D = W ∧ 1 ≤ D.length ∧ D.length ≤ n + 1 := by
  induction n with
  | zero =>
    intro k W h0 h1 _ _ hk
    obtain ⟨k, rfl⟩ : ∃ m, k = m + 1 := ⟨k - 1, by omega⟩
    simp at h1
    refine ⟨[48 + W], ?_, ?_, ?_, by simp, by simp⟩
    · rw [fix_whole.f, if_neg (by omega), if_pos (by simp), Int.tmod_eq_emod_of_nonneg h0, IntKind.wrap_u64, List.nil_append]
      have : (48 + W % 10) % 18446744073709551616 % 256 = 48 + W := by omega
      rw [this]
    · intro c hc
      rw [List.mem_singleton.1 hc]
      omega
    · rw [acc_cons, acc_nil]; omega
  | succ n ih =>
    intro k W h0 h1 h2 hn hk
    obtain ⟨k, rfl⟩ : ∃ m, k = m + 1 := ⟨k - 1, by omega⟩
    by_cases h : W ≥ 10
    · have hlt : W / 10 < 10 ^ (n + 1) := Int.ediv_lt_of_lt_mul (by omega) (by rw [Int.pow_succ] at h1; exact h1)
      obtain ⟨D, hf, hd, ha, hl1, hl2⟩ := ih k (W / 10) (by omega) hlt (by omega) (by omega) (by omega)
      refine ⟨D ++ [48 + W % 10], ?_, ?_, ?_, by simp, by simp; omega⟩
      · rw [fix_whole.f, if_pos h, Int.tdiv_eq_ediv_of_nonneg h0, Int.tmod_eq_emod_of_nonneg h0, IntKind.wrap_u64, IntKind.wrap_u64]
        have e1 : W / 10 % 18446744073709551616 = W / 10 := by omega
        have e2 : (48 + W % 10) % 18446744073709551616 % 256 = 48 + W % 10 := by omega
        rw [e1, hf, Option.bind_some, if_pos (by omega), e2]
      · intro c hc
        rcases List.mem_append.1 hc with hc | hc
        · exact hd c hc
        · rw [List.mem_singleton.1 hc]; omega
      · rw [acc_snoc, ha]; omega
    · refine ⟨[48 + W], ?_, ?_, ?_, by simp, by simp⟩
      · rw [fix_whole.f, if_neg h, if_pos (by simp), Int.tmod_eq_emod_of_nonneg h0, IntKind.wrap_u64, List.nil_append]
        have : (48 + W % 10) % 18446744073709551616 % 256 = 48 + W := by omega
        rw [this]
      · intro c hc
        rw [List.mem_singleton.1 hc]
        omega
      · rw [acc_cons, acc_nil]; omega
theorem and_65535 (n : Int) (h0 : 0 ≤ n) (h1 : n < 18446744073709551616) : Go.bits .and .u64 n 65535 = n % 65536 := by
  rw [u64_and n 65535 h0 h1 (by decide) (by decide)]
  have := Nat.and_two_pow_sub_one_eq_mod n.toNat 16
  rw [show (65535 : Int).toNat = 2 ^ 16 - 1 by decide, this]
  omega
/-- the digits behind the point -/
theorem frac_loop (f : Nat) : ∀ (k : Nat) (X : List Int) (r q : Int), 0 ≤ r → r < 65536 → r = 2 ^ (16 - f) * q → f ≤ 16 → f < k → X.length + f ≤ 100 → ∃ E, fix_Text.l0 k X r = some (strOfNums (X ++ E)) ∧ Dig E ∧ 65536 * acc 0 E = r * 10 ^ E.length ∧ E.length ≤ f ∧ (0 < r → E ≠ []) := by
  induction f with
  | zero =>
    intro k X r q h0 h1 hq _ hk _
    obtain ⟨k, rfl⟩ : ∃ m, k = m + 1 := ⟨k - 1, by omega⟩
    have e : (2 : Int) ^ (16 - 0) = 65536 := by decide
    rw [e] at hq
    have hr : r = 0 := by omega
    subst hr
    refine ⟨[], ?_, dig_nil, by simp [acc], by simp, fun h => absurd h (by omega)⟩
    rw [fix_Text.l0, if_neg (by omega), List.append_nil]
  | succ f ih =>
    intro k X r q h0 h1 hq hf hk hX
    obtain ⟨k, rfl⟩ : ∃ m, k = m + 1 := ⟨k - 1, by omega⟩
    by_cases hr : r > 0
    · have e1 : IntKind.u64.wrap (r * 10) = r * 10 := by rw [IntKind.wrap_u64]; omega
      have e2 : IntKind.u64.wrap (48 + r * 10 / 65536) % 256 = 48 + r * 10 / 65536 := by rw [IntKind.wrap_u64]; omega
      have hq' : r * 10 % 65536 = 2 ^ (16 - f) * (5 * q - 2 ^ f * (r * 10 / 65536)) := by
        have p1 : (2 : Int) ^ (16 - f) = 2 ^ (16 - (f + 1)) * 2 := by rw [← Int.pow_succ]; congr 1; omega
        have p2 : (2 : Int) ^ (16 - f) * 2 ^ f = 65536 := by rw [← Int.pow_add, show 16 - f + f = 16 by omega]; decide
        have h3 := Int.mul_ediv_add_emod (r * 10) 65536
        have h4 : r * 10 = 2 ^ (16 - f) * (5 * q) := by rw [hq, p1]; grind
        rw [Int.mul_sub, ← Int.mul_assoc (2 ^ (16 - f)) (2 ^ f), p2, ← h4]
        omega
      obtain ⟨E, hE, hd, hv, hl, _⟩ := ih k (X ++ [48 + r * 10 / 65536]) (r * 10 % 65536) _ (by omega) (by omega) hq' (by omega) (by omega) (by simp; omega)
      refine ⟨(48 + r * 10 / 65536) :: E, ?_, ?_, ?_, by simp; omega, fun _ => by simp⟩
      · rw [fix_Text.l0, if_pos hr, if_pos (by omega), e1, e2, and_65535 _ (by omega) (by omega), hE, List.append_assoc]
        rfl
      · intro c hc
        rcases List.mem_cons.1 hc with rfl | hc
        · omega
        · exact hd c hc
      · rw [acc_cons, acc_lin, List.length_cons, Int.pow_succ]
        have h3 := Int.mul_ediv_add_emod (r * 10) 65536
        generalize (10 : Int) ^ E.length = T at *
        generalize acc 0 E = v at *
        generalize r * 10 % 65536 = m at *
        generalize r * 10 / 65536 = d at *
        grind
    · have : r = 0 := by omega
      subst this
      refine ⟨[], ?_, dig_nil, by simp [acc], by simp, fun h => absurd h (by omega)⟩
      rw [fix_Text.l0, if_neg (by omega), List.append_nil]
def sgn (c : Int) : List Int := if c < 0 then [45] else []
def tailOf (F : Int) (E : List Int) : List Int := if F > 0 then 46 :: E else []
theorem clamp_f (a : Int) : ∃ c, fix_Clamp.f a = some c ∧ -1099511627776 ≤ c ∧ c ≤ 1099511627776 := by
  refine ⟨_, rfl, ?_, ?_⟩ <;> (unfold mn mx; (repeat' split) <;> omega)
theorem mag_f (a : Int) (h0 : -1099511627776 ≤ a) (h1 : a ≤ 1099511627776) : fix_mag.f a = some (max a (-a)) := by
  unfold fix_mag.f
  split
  · rw [wrap64_in _ (by omega) (by omega), IntKind.wrap_u64]; congr 1; omega
  · rw [IntKind.wrap_u64]; congr 1; omega
theorem text_f (a c : Int) (hc : fix_Clamp.f a = some c) (c0 : -1099511627776 ≤ c) (c1 : c ≤ 1099511627776) (k : Nat) (hk : 40 ≤ k) :
    ∃ D E, fix_Text.f k a = some (strOfNums (sgn c ++ (D ++ tailOf (max c (-c) % 65536) E))) ∧ Dig D ∧ acc 0 D = max c (-c) / 65536 ∧ 1 ≤ D.length ∧ D.length ≤ 8 ∧ Dig E ∧ 65536 * acc 0 E = max c (-c) % 65536 * 10 ^ E.length ∧ E.length ≤ 16 ∧ (0 < max c (-c) % 65536 → E ≠ []) ∧ (max c (-c) % 65536 = 0 → E = []) := by
  obtain ⟨k, rfl⟩ : ∃ m, k = m + 1 + 1 := ⟨k - 2, by omega⟩
  have key : ∀ S : List Int, S.length ≤ 1 → ∃ D E, fix_Text.j0 (k + 1 + 1) c S = some (strOfNums (S ++ (D ++ tailOf (max c (-c) % 65536) E))) ∧ Dig D ∧ acc 0 D = max c (-c) / 65536 ∧ 1 ≤ D.length ∧ D.length ≤ 8 ∧ Dig E ∧ 65536 * acc 0 E = max c (-c) % 65536 * 10 ^ E.length ∧ E.length ≤ 16 ∧ (0 < max c (-c) % 65536 → E ≠ []) ∧ (max c (-c) % 65536 = 0 → E = []) := by
    intro S hS
    have m0 : 0 ≤ max c (-c) := by omega
    have m1 : max c (-c) ≤ 1099511627776 := by omega
    rw [fix_Text.j0, mag_f c c0 c1, Option.bind_some]
    generalize max c (-c) = m at *
    have e10 : (10 : Int) ^ (7 + 1) = 100000000 := by decide
    obtain ⟨D, hf, hd, ha, hl1, hl2⟩ := whole_f 7 (k + 1) (m / 65536) (by omega) (by rw [e10]; omega) (by omega) (by omega) (by omega)
    rw [hf, Option.bind_some, if_pos (by omega), Option.bind_some, and_65535 m m0 (by omega)]
    have e1 : m % 65536 = 2 ^ (16 - 16) * (m % 65536) := by simp
    by_cases hF : m % 65536 > 0
    · obtain ⟨E, hE, hed, hv, hl, hne⟩ := frac_loop 16 k (S ++ D ++ [46]) (m % 65536) _ (by omega) (by omega) e1 (by omega) (by omega) (by simp; omega)
      refine ⟨D, E, ?_, hd, ha, hl1, hl2, hed, hv, hl, hne, fun h => absurd h (by omega)⟩
      rw [if_pos hF, if_pos (by simp; omega), fix_Text.j1, hE]
      unfold tailOf
      rw [if_pos hF]
      simp
    · refine ⟨D, [], ?_, hd, ha, hl1, hl2, dig_nil, by simp [acc]; omega, by simp, fun h => absurd h hF, fun _ => rfl⟩
      have h0 : m % 65536 = 0 := by omega
      obtain ⟨k, rfl⟩ : ∃ m, k = m + 1 := ⟨k - 1, by omega⟩
      unfold tailOf
      rw [h0, if_neg (by omega), fix_Text.j1, fix_Text.l0, if_neg (by omega), if_neg (by omega)]
      simp
  unfold fix_Text.f sgn
  rw [hc, Option.bind_some]
  by_cases hn : c < 0
  · rw [if_pos hn, if_pos (by simp), if_pos hn]
    exact key [45] (by simp)
  · rw [if_neg hn, if_neg hn]
    exact key [] (by simp)

end Go.Proofs.Ytcbahonakhcdpaa.QText
