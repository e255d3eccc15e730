/- What the printed functions of package fix read of decimal digits. No condition but enough rounds. -/
import Derived.Test.YtcbahonakhcdpaaPAllx5
import Derived.Test.YtcbahonakhcdpaaPAllx4
import Derived.Test.YtcbahonakhcdpaaPAllx3
import Derived.Test.YtcbahonakhcdpaaQText
namespace Go.Proofs.Ytcbahonakhcdpaa.QText
open Go Go.RowKit Go.Proofs.Ytcbahonakhcdpaa.P Go.Proofs.YtcbahonakhcdpaaW.PrintWords Go.Proofs.YtcbahonakhcdpaaW.PrintLast Go.Proofs.YtcbahonakhcdpaaW.PrintMore

/-! doubling, from the last digit on -/
def Nine (P : List Int) : Prop := ∀ x ∈ P, 0 ≤ x ∧ x ≤ 9
def NR : List Int → Int
  | [] => 0
  | x :: P => x + 10 * NR P
theorem NR_snoc (A : List Int) (d : Int) : NR (A ++ [d]) = NR A + d * 10 ^ A.length := by
  induction A with
  | nil => simp [NR]
  | cons x A ih =>
    rw [List.cons_append, NR, ih, NR, List.length_cons, Int.pow_succ]
    generalize (10 : Int) ^ A.length = T
    grind
theorem NR_range (P : List Int) (h : Nine P) : 0 ≤ NR P ∧ NR P < 10 ^ P.length := by
  induction P with
  | nil => simp [NR]
  | cons x P ih =>
    have hx := h x List.mem_cons_self
    have := ih (fun y hy => h y (List.mem_cons_of_mem _ hy))
    rw [NR, List.length_cons, Int.pow_succ]
    generalize (10 : Int) ^ P.length = T at *
    omega
theorem NR_zero (P : List Int) (h : Nine P) (h0 : NR P = 0) : ∀ x ∈ P, x = 0 := by
  induction P with
  | nil => intro x hx; cases hx
  | cons x P ih =>
    have hx := h x List.mem_cons_self
    have hP : Nine P := fun y hy => h y (List.mem_cons_of_mem _ hy)
    have := NR_range P hP
    rw [NR] at h0
    intro y hy
    rcases List.mem_cons.1 hy with rfl | hy
    · omega
    · exact ih hP (by omega) y hy
theorem acc_NR (D : List Int) : acc 0 D = NR ((D.map (fun x => (x - 48))).reverse) := by
  induction D with
  | nil => rfl
  | cons c D ih =>
    rw [acc_cons, acc_lin, ih, List.map_cons, List.reverse_cons, NR_snoc, List.length_reverse, List.length_map]
    generalize (10 : Int) ^ D.length = T
    grind
def dblr : List Int → Int → Int × List Int
  | [], c => (c, [])
  | x :: P, c => ((dblr P ((2 * x + c) / 10)).1, ((2 * x + c) % 10) :: (dblr P ((2 * x + c) / 10)).2)
theorem dblr_val (P : List Int) : ∀ c, Nine P → 0 ≤ c → c ≤ 1 → 2 * NR P + c = (dblr P c).1 * 10 ^ P.length + NR (dblr P c).2 ∧ Nine (dblr P c).2 ∧ 0 ≤ (dblr P c).1 ∧ (dblr P c).1 ≤ 1 ∧ (dblr P c).2.length = P.length := by
  induction P with
  | nil => intro c _ h0 h1; exact ⟨by simp [dblr, NR], (fun _ h => by cases h), h0, h1, rfl⟩
  | cons x P ih =>
    intro c h h0 h1
    have hx := h x List.mem_cons_self
    have hP : Nine P := fun y hy => h y (List.mem_cons_of_mem _ hy)
    obtain ⟨a, b, c0, c1, d⟩ := ih ((2 * x + c) / 10) hP (by omega) (by omega)
    rw [dblr]
    refine ⟨?_, ?_, c0, c1, by simp [d]⟩
    · dsimp only
      rw [NR, NR, List.length_cons, Int.pow_succ]
      generalize (10 : Int) ^ P.length = T at *
      generalize (dblr P ((2 * x + c) / 10)).1 = u at *
      generalize NR (dblr P ((2 * x + c) / 10)).2 = v at *
      have e : u * (T * 10) = u * T * 10 := by grind
      rw [e]
      omega
    · intro y hy
      rcases List.mem_cons.1 hy with rfl | hy
      · omega
      · exact b y hy
theorem rd_at (A B : List Int) (x : Int) : rd (A ++ x :: B) (A.length : Int) = x := by
  unfold rd
  rw [Int.toNat_natCast, List.getD_eq_getElem?_getD, List.getElem?_append_right (Nat.le_refl _)]
  simp
theorem set_at (A B : List Int) (x y : Int) : (A ++ x :: B).set A.length y = A ++ y :: B := by
  rw [List.set_append_right _ _ (Nat.le_refl _)]
  simp
theorem double_loop (P : List Int) : ∀ (post : List Int) (c : Int) (k : Nat), Nine P → 0 ≤ c → c ≤ 1 → P.length ≤ 100 → fix_double.l0 (k + P.length + 1) (P.reverse ++ post) c ((P.length : Int) - 1) = some ((dblr P c).1, (dblr P c).2.reverse ++ post) := by
  induction P with
  | nil =>
    intro post c k _ h0 h1 _
    rw [fix_double.l0, if_neg (by simp), wrap64_in c (by omega) (by omega)]
    rfl
  | cons x P ih =>
    intro post c k h h0 h1 hl
    have hx := h x List.mem_cons_self
    have hP : Nine P := fun y hy => h y (List.mem_cons_of_mem _ hy)
    simp only [List.length_cons] at hl
    have e1 : ((x :: P).length : Int) - 1 = (P.reverse.length : Int) := by simp
    have e2 : (x :: P).reverse ++ post = P.reverse ++ x :: post := by simp
    have e3 : k + (x :: P).length + 1 = (k + P.length + 1) + 1 := by simp; omega
    have e4 : (((2 * x) % 256 + c) % 256) % 10 = (2 * x + c) % 10 := by omega
    have e5 : (((2 * x) % 256 + c) % 256) / 10 = (2 * x + c) / 10 := by omega
    have e6 : wrap64 ((P.length : Int) - 1) = (P.length : Int) - 1 := wrap64_in _ (by omega) (by omega)
    rw [e1, e2, e3, fix_double.l0, if_pos (by omega), if_pos (by omega), if_pos (by simp; omega), rd_at, Int.toNat_natCast, set_at, e4, e5, List.length_reverse, e6, ih _ _ k hP (by omega) (by omega) (by omega), dblr]
    simp
theorem double_f (B : List Int) (h : Nine B) (hl : B.length ≤ 100) (k : Nat) (hk : B.length + 1 ≤ k) : fix_double.f k B.reverse = some ((dblr B 0).1, (dblr B 0).2.reverse) := by
  obtain ⟨j, rfl⟩ : ∃ j, k = j + B.length + 1 := ⟨k - (B.length + 1), by omega⟩
  unfold fix_double.f
  have := double_loop B [] 0 j h (by omega) (by omega) hl
  rw [List.append_nil, List.append_nil] at this
  rw [List.length_reverse, wrap64_in _ (by omega) (by omega)]
  exact this
theorem or_bit (n c : Int) (h0 : 0 ≤ n) (h1 : n < 4294967296) (c0 : 0 ≤ c) (c1 : c ≤ 1) : Go.bits .or .i64 (2 * n) c = 2 * n + c := by
  obtain ⟨a, rfl⟩ : ∃ a : Nat, n = a := ⟨n.toNat, by omega⟩
  obtain ⟨b, rfl⟩ : ∃ b : Nat, c = b := ⟨c.toNat, by omega⟩
  have hor := Nat.two_pow_add_eq_or_of_lt (i := 1) (b := b) (by omega) a
  unfold Go.bits
  have x1 : (BitVec.ofInt IntKind.i64.bits (2 * (a : Int))).toNat = 2 * a := by
    rw [BitVec.toNat_ofInt]
    show ((2 * (a : Int)) % 18446744073709551616).toNat = 2 * a
    omega
  have x2 : (BitVec.ofInt IntKind.i64.bits (b : Int)).toNat = b := by
    rw [BitVec.toNat_ofInt]
    show ((b : Int) % 18446744073709551616).toNat = b
    omega
  dsimp only
  rw [BitVec.toNat_or, x1, x2]
  have e : 2 * a ||| b = 2 * a + b := by rw [Nat.pow_one] at hor; exact hor.symm
  rw [e]
  rw [i64_w]
  rw [wrap64_in _ (by omega) (by omega)]
  omega
theorem rounds (s : Nat) : ∀ (k : Nat) (B : List Int) (n : Int), s ≤ 16 → Nine B → B.length ≤ 40 → 0 ≤ n → n < 2 ^ (16 - s) → 60 ≤ k → ∃ (B' : List Int) (n' : Int), fix_fraction.l1 (k + s + 1) B.reverse n ((16 - s : Nat) : Int) = fix_fraction.l2 k B'.reverse n' (B'.length : Int) 0 ∧ Nine B' ∧ B'.length = B.length ∧ 2 ^ s * NR B + n * 2 ^ s * 10 ^ B.length = n' * 10 ^ B.length + NR B' := by
  induction s with
  | zero =>
    intro k B n _ hB hl h0 h1 hk
    refine ⟨B, n, ?_, hB, rfl, by simp; omega⟩
    rw [fix_fraction.l1, if_neg (by simp), List.length_reverse]
  | succ s ih =>
    intro k B n hs hB hl h0 h1 hk
    obtain ⟨v, hB', c0, c1, hl'⟩ := dblr_val B 0 hB (by omega) (by omega)
    have hp : (2 : Int) ^ (16 - s) = 2 * 2 ^ (16 - (s + 1)) := by
      rw [Int.mul_comm, ← Int.pow_succ]; congr 1; omega
    have hbig : (2 : Int) ^ (16 - (s + 1)) ≤ 2 ^ 16 := by exact_mod_cast Nat.pow_le_pow_right (n := 2) (by omega) (show 16 - (s + 1) ≤ 16 by omega)
    have e16 : (2 : Int) ^ 16 = 65536 := by decide
    have ew : wrap64 (n * 2) = 2 * n := by rw [wrap64_in _ (by omega) (by omega)]; omega
    obtain ⟨B', n', hf, hn, hl2, hv⟩ := ih k (dblr B 0).2 (2 * n + (dblr B 0).1) (by omega) hB' (by omega) (by omega) (by rw [hp]; omega) hk
    refine ⟨B', n', ?_, hn, by omega, ?_⟩
    · have es : wrap64 (((16 - (s + 1) : Nat) : Int) + 1) = ((16 - s : Nat) : Int) := by rw [wrap64_in _ (by omega) (by omega)]; omega
      rw [show k + (s + 1) + 1 = (k + s + 1) + 1 by omega, fix_fraction.l1, if_pos (by omega), double_f B hB (by omega) _ (by omega), Option.bind_some, es, ew, or_bit n _ h0 (by omega) c0 c1, hf]
    · rw [hl'] at hv
      rw [Int.pow_succ]
      generalize (10 : Int) ^ B.length = T at *
      generalize (2 : Int) ^ s = p at *
      generalize (dblr B 0).1 = u at *
      generalize NR (dblr B 0).2 = z at *
      generalize NR B = y at *
      generalize NR B' = t at *
      have e1 : p * 2 * y + n * (p * 2) * T = p * (2 * y + 0) + 2 * n * p * T := by grind
      rw [e1, v, ← hv]
      grind
theorem zeros_loop (Z : List Int) (hZ : ∀ x ∈ Z, x = 0) (n : Int) (d : Nat) : ∀ (i k : Nat), i + d = Z.length → Z.length ≤ 100 → d < k → fix_fraction.l2 k Z n (Z.length : Int) (i : Int) = some (n, true) := by
  induction d with
  | zero =>
    intro i k h _ hk
    obtain ⟨k, rfl⟩ : ∃ m, k = m + 1 := ⟨k - 1, by omega⟩
    rw [fix_fraction.l2, if_neg (by omega)]
  | succ d ih =>
    intro i k h hl hk
    obtain ⟨k, rfl⟩ : ∃ m, k = m + 1 := ⟨k - 1, by omega⟩
    have hi : i < Z.length := by omega
    have r : rd Z (i : Int) = 0 := by
      unfold rd
      rw [Int.toNat_natCast, List.getD_eq_getElem?_getD, List.getElem?_eq_getElem hi]
      exact hZ _ (List.getElem_mem hi)
    have hw : wrap64 ((i : Int) + 1) = ((i + 1 : Nat) : Int) := by rw [wrap64_in _ (by omega) (by omega)]; omega
    rw [fix_fraction.l2, if_pos (by omega), if_pos (by omega), if_pos (by omega), if_pos r, hw, ih (i + 1) k (by omega) hl (by omega)]
theorem minus_loop (S : List Int) : ∀ (Q : List Int) (k : Nat) (n : Int), n = ((Q.length + S.length : Nat) : Int) → Q.length + S.length ≤ 100 → fix_fraction.l0 (k + S.length + 1) (Q ++ S) n (Q.length : Int) = fix_fraction.l1 k (Q ++ S.map (fun x => (x - 48) % 256)) 0 0 := by
  induction S with
  | nil =>
    intro Q k n hn _
    rw [fix_fraction.l0, if_neg (by simp at hn; omega)]
    rfl
  | cons x S ih =>
    intro Q k n hn hl
    simp only [List.length_cons] at hn hl
    have hw : wrap64 ((Q.length : Int) + 1) = ((Q ++ [(x - 48) % 256]).length : Int) := by rw [wrap64_in _ (by omega) (by omega)]; simp
    rw [show k + (x :: S).length + 1 = (k + S.length + 1) + 1 by simp; omega, fix_fraction.l0, if_pos (by omega), if_pos (by omega), if_pos (by simp; omega), rd_at, Int.toNat_natCast, set_at, hw]
    have := ih (Q ++ [(x - 48) % 256]) k n (by simp; omega) (by simp; omega)
    rw [List.append_assoc, List.singleton_append] at this
    rw [this, List.map_cons, List.append_assoc, List.singleton_append]
theorem fraction_f (E : List Int) (F : Int) (hE : Dig E) (hl : E.length ≤ 16) (hv : 65536 * acc 0 E = F * 10 ^ E.length) (k : Nat) (hk : 200 ≤ k) : fix_fraction.f k (strOfNums E) = some (F, true) := by
  obtain ⟨j, rfl⟩ : ∃ j, k = (j + 16 + 1) + E.length + 1 := ⟨k - (E.length + 18), by omega⟩
  unfold fix_fraction.f
  rw [strOfNums_size, if_pos (by omega), bytesOf_str E (dig_codes hE), Option.bind_some]
  have h1 := minus_loop E [] (j + 16 + 1) (E.length : Int) (by simp) (by simp; omega)
  rw [List.nil_append, List.nil_append, List.length_nil] at h1
  rw [show (0 : Int) = ((0 : Nat) : Int) from rfl, h1]
  have hm : E.map (fun x => (x - 48) % 256) = E.map (fun x => x - 48) := List.map_congr_left (fun x hx => by have := hE x hx; omega)
  rw [hm]
  have hB : Nine (E.map (fun x => x - 48)).reverse := by
    intro x hx
    obtain ⟨y, hy, rfl⟩ := List.mem_map.1 (List.mem_reverse.1 hx)
    have := hE y hy
    omega
  obtain ⟨B', n', hf, hn, hl2, hv2⟩ := rounds 16 j (E.map (fun x => x - 48)).reverse 0 (by omega) hB (by simp; omega) (by omega) (by decide) (by omega)
  rw [List.reverse_reverse] at hf
  rw [show ((16 - 16 : Nat) : Int) = (0 : Int) from rfl] at hf
  rw [hf]
  have hlen : (E.map (fun x => x - 48)).reverse.length = E.length := by simp
  rw [← acc_NR, hlen, show (2 : Int) ^ 16 = 65536 by decide, hv] at hv2
  have hT : 0 < (10 : Int) ^ E.length := Int.pow_pos (by omega)
  have hr := NR_range B' hn
  rw [hl2, hlen] at hr
  have hFn : F = n' ∧ NR B' = 0 := by
    generalize (10 : Int) ^ E.length = T at *
    generalize NR B' = z at *
    have e : (F * T) / T = (z + n' * T) / T := by congr 1; omega
    rw [Int.mul_ediv_cancel _ (by omega), Int.add_mul_ediv_right _ _ (by omega), Int.ediv_eq_zero_of_lt hr.1 hr.2] at e
    have e2 : F = n' := by omega
    refine ⟨e2, ?_⟩
    rw [e2] at hv2
    omega
  have hz := NR_zero B' hn hFn.2
  have := zeros_loop B'.reverse (fun x hx => hz x (List.mem_reverse.1 hx)) n' B'.reverse.length 0 j (by omega) (by simp; omega) (by simp; omega)
  rw [List.length_reverse] at this
  rw [show (0 : Int) = ((0 : Nat) : Int) from rfl, this, hFn.1]

end Go.Proofs.Ytcbahonakhcdpaa.QText
