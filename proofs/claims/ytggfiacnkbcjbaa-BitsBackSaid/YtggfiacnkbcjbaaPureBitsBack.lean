/- BitsBack in plain Lean. No condition. -/
import Derived.Test.YtggfiacnkbcjbaaQNat
import Derived.Test.YtggfiacnkbcjbaaPAllx9
namespace Go.Proofs.Ytggfiacnkbcjbaa.Pure
open Go.RowKit Go.Proofs.Ytggfiacnkbcjbaa.P Go.Proofs.YtggfiacnkbcjbaaW.PrintWords Go.Proofs.YtggfiacnkbcjbaaW.PrintLast Go.Proofs.YtggfiacnkbcjbaaW.PrintMore
set_option linter.unusedVariables false

def wid (i : Nat) (a : Int) : Nat := (a % 64 + i % 2).toNat
def cutv (i : Nat) (a : Int) : Int := a % 18446744073709551616 % 2 ^ wid i a
theorem wid_le (i : Nat) (a : Int) : wid i a ≤ 64 ∧ ((wid i a : Nat) : Int) = a % 64 + (i : Int) % 2 := by unfold wid; omega
theorem cutv_range (i : Nat) (a : Int) : 0 ≤ cutv i a ∧ cutv i a < 2 ^ wid i a := by
  have hp : (0 : Int) < 2 ^ wid i a := Int.pow_pos (by omega)
  unfold cutv
  exact ⟨Int.emod_nonneg _ (by omega), Int.emod_lt_of_pos _ hp⟩
theorem wide_f (i : Nat) (a : Int) (hi : i ≤ 1000) : tourkeep1_BitsBack_1.f i a = some ((wid i a : Nat) : Int) := by
  have hw := wid_le i a
  unfold tourkeep1_BitsBack_1.f
  rw [below_f a 64 (by omega) (by omega)]
  simp only [Option.bind_some]
  rw [Int.tmod_eq_emod_of_nonneg (by omega), wrap64_in _ (by omega) (by omega), hw.2]
theorem cut_f (i : Nat) (a : Int) : tourkeep1_BitsBack_2.f a ((wid i a : Nat) : Int) = some (cutv i a) := by
  have hw := wid_le i a
  obtain ⟨s, hs⟩ : ∃ s : Nat, 64 - wid i a = s := ⟨_, rfl⟩
  unfold tourkeep1_BitsBack_2.f
  rw [wrap64_in _ (by omega) (by omega), show (64 : Int) - ((wid i a : Nat) : Int) = (s : Int) from by omega, if_pos (by omega)]
  have e1 : ∀ x : Int, shl .u64 x (s : Int) = IntKind.u64.wrap (x * 2 ^ min s 64) := fun x => rfl
  have e2 : ∀ x : Int, shr .u64 x (s : Int) = x / 2 ^ min s 64 := fun x => rfl
  rw [e1, e2, IntKind.wrap_u64, IntKind.wrap_u64, Nat.min_eq_left (by omega)]
  unfold cutv
  congr 1
  have hp : (0 : Int) < 2 ^ s := Int.pow_pos (by omega)
  have h64 : (18446744073709551616 : Int) = 2 ^ wid i a * 2 ^ s := by
    rw [← Int.pow_add, show wid i a + s = 64 from by omega]
    rfl
  generalize a % 18446744073709551616 = x
  rw [h64, Int.mul_comm x, Int.mul_comm (2 ^ wid i a), Int.mul_emod_mul_of_pos _ _ hp, Int.mul_ediv_cancel_left _ (by omega)]

def encE (i : Nat) (a : Int) : List Int := nb (cutv i a) (wid i a) ++ (encNat (a % 18446744073709551616) ++ encInt a)
def encL : Nat → List Int → List Int
  | _, [] => []
  | i, a :: l => encE i a ++ encL (i + 1) l
theorem encNat_length (v : Int) : (encNat v).length ≤ 80 := by
  unfold encNat
  rw [encF_length]
  have := gcF_le 15 v
  omega
theorem encE_length (i : Nat) (a : Int) : (encE i a).length ≤ 224 := by
  unfold encE encInt
  rw [List.length_append, List.length_append, nb_length]
  have h1 := encNat_length (a % 18446744073709551616)
  have h2 := encNat_length (zig a)
  have h3 := (wid_le i a).1
  omega
theorem drop_step {l : List Int} {i : Nat} (h : i < l.length) : l.drop i = l.getD i 0 :: l.drop (i + 1) := by
  rw [List.drop_eq_getElem_cons h, List.getD_eq_getElem?_getD, List.getElem?_eq_getElem h]
  rfl
theorem rd_nat (l : List Int) (i : Nat) : rd l (i : Int) = l.getD i 0 := rfl

theorem read_loop (l : List Int) (hl : l.length ≤ 200) (hI : ∀ x ∈ l, I64 x) (z : Nat) (hz : z ≤ 7) (d : Nat) : ∀ (i : Nat) (b : ByteArray) (n : Int) (k : Nat), i + d = l.length → Rdr b n (encL i (l.drop i) ++ List.replicate z 0) → d + 60 ≤ k →
    tourkeep1_BitsBack.l1 k l (l.length : Int) i b n = some true := by
  induction d with
  | zero =>
    intro i b n k hi hr hk
    obtain ⟨k, rfl⟩ : ∃ m, k = m + 1 := ⟨k - 1, by omega⟩
    simp only [tourkeep1_BitsBack.l1]
    rw [if_neg (by omega)]
    rw [List.drop_eq_nil_of_le (by omega)] at hr
    simp only [encL, List.nil_append] at hr
    rw [left_ok hr]
    simp only [Option.bind_some]
    rw [List.length_replicate, mx_eq, mn_eq, show min (max (z : Int) 0) 7 = (z : Int) from by omega]
    have hr2 : Rdr b n (List.replicate z 0 ++ []) := by rw [List.append_nil]; exact hr
    obtain ⟨e, _⟩ := get_ok hr2 (by rw [List.length_replicate]; omega)
    rw [List.length_replicate] at e
    have h0 : ∀ z : Nat, ofBits (List.replicate z 0) = 0 := by
      intro z
      induction z with
      | zero => rfl
      | succ z ih => rw [List.replicate_succ]; simp only [ofBits]; rw [ih]; rfl
    rw [e, h0]
    simp only [Option.bind_some]
    rw [if_pos (by omega), if_pos (by omega), if_pos trivial]
    rfl
  | succ d ih =>
    intro i b n k hi hr hk
    obtain ⟨k, rfl⟩ : ∃ m, k = m + 1 := ⟨k - 1, by omega⟩
    have hlt : i < l.length := by omega
    rw [drop_step hlt] at hr
    have hIa : I64 (l.getD i 0) := by
      rw [List.getD_eq_getElem?_getD, List.getElem?_eq_getElem hlt]
      exact hI _ (List.getElem_mem hlt)
    have hw := wid_le i (l.getD i 0)
    have hc := cutv_range i (l.getD i 0)
    simp only [encL, encE, List.append_assoc] at hr
    obtain ⟨e1, r1⟩ := get_nb hr hw.1 hc.1 hc.2
    obtain ⟨n2, e2, r2⟩ := rnat_ok (l.getD i 0 % 18446744073709551616) (by omega) (by omega) r1 k (by omega)
    obtain ⟨n3, e3, r3⟩ := rint_ok (l.getD i 0) hIa r2 k (by omega)
    simp only [tourkeep1_BitsBack.l1]
    rw [if_pos (by omega), if_pos (by omega), if_pos (by omega), rd_nat, wide_f i _ (by omega)]
    simp only [Option.bind_some]
    rw [e1]
    simp only [Option.bind_some]
    rw [e2]
    simp only [Option.bind_some]
    rw [e3]
    simp only [Option.bind_some]
    rw [if_pos trivial, if_pos trivial, if_pos trivial, cut_f]
    simp only [Option.bind_some]
    rw [if_pos trivial, IntKind.wrap_u64, if_pos rfl, if_pos trivial, wrap64_in _ (by omega) (by omega)]
    have := ih (i + 1) b n3 k (by omega) r3 (by omega)
    rw [show (((i + 1 : Nat)) : Int) = (i : Int) + 1 from by push_cast; rfl] at this
    exact this

theorem write_loop (l : List Int) (hl : l.length ≤ 200) (hI : ∀ x ∈ l, I64 x) (T : List Int) (hT : T = encL 0 l) (d : Nat) : ∀ (i : Nat) (b : ByteArray) (n : Int) (S : List Int) (k : Nat), i + d = l.length → Wr b n S → S ++ encL i (l.drop i) = T → S.length ≤ 224 * i → 2 * d + (l.length + 70) ≤ k →
    tourkeep1_BitsBack.l0 k l l (l.length : Int) i b n = some true := by
  induction d with
  | zero =>
    intro i b n S k hi hw hS hSl hk
    obtain ⟨k, rfl⟩ : ∃ m, k = m + 1 := ⟨k - 1, by omega⟩
    rw [List.drop_eq_nil_of_le (by omega)] at hS
    simp only [encL, List.append_nil] at hS
    obtain ⟨z, hz, e1, e2, r⟩ := wr_read hw (by omega)
    simp only [tourkeep1_BitsBack.l0]
    rw [if_neg (by omega), e1]
    simp only [Option.bind_some]
    rw [e2]
    simp only [Option.bind_some]
    rw [hS, hT] at r
    exact read_loop l hl hI z hz l.length 0 b 0 k (by omega) (by simpa using r) (by omega)
  | succ d ih =>
    intro i b n S k hi hw hS hSl hk
    obtain ⟨k, rfl⟩ : ∃ m, k = m + 1 := ⟨k - 1, by omega⟩
    have hlt : i < l.length := by omega
    rw [drop_step hlt] at hS
    have hIa : I64 (l.getD i 0) := by
      rw [List.getD_eq_getElem?_getD, List.getElem?_eq_getElem hlt]
      exact hI _ (List.getElem_mem hlt)
    have hwd := wid_le i (l.getD i 0)
    have hc := cutv_range i (l.getD i 0)
    have hE := encE_length i (l.getD i 0)
    obtain ⟨b1, e1, w1⟩ := put_ok hw (cutv i (l.getD i 0)) (wid i (l.getD i 0)) hwd.1 hc.1 hc.2 (by omega)
    obtain ⟨b2, n2, e2, w2⟩ := wnat_ok w1 (l.getD i 0 % 18446744073709551616) (by omega) (by omega) (by rw [List.length_append, nb_length]; omega) k (by omega)
    obtain ⟨b3, n3, e3, w3⟩ := wint_ok w2 (l.getD i 0) hIa (by have := encNat_length (l.getD i 0 % 18446744073709551616); rw [List.length_append, List.length_append, nb_length]; omega) k (by omega)
    simp only [tourkeep1_BitsBack.l0]
    rw [if_pos (by omega), if_pos (by omega), if_pos (by omega), rd_nat, wide_f i _ (by omega)]
    simp only [Option.bind_some]
    rw [cut_f]
    simp only [Option.bind_some]
    rw [e1]
    simp only [Option.bind_some]
    rw [if_pos trivial, IntKind.wrap_u64, e2]
    simp only [Option.bind_some]
    rw [if_pos trivial, e3]
    simp only [Option.bind_some]
    rw [if_pos trivial, wrap64_in _ (by omega) (by omega)]
    have happ : S ++ nb (cutv i (l.getD i 0)) (wid i (l.getD i 0)) ++ encNat (l.getD i 0 % 18446744073709551616) ++ encInt (l.getD i 0) = S ++ encE i (l.getD i 0) := by
      unfold encE
      simp only [List.append_assoc]
    rw [happ] at w3
    have := ih (i + 1) b3 n3 (S ++ encE i (l.getD i 0)) k (by omega) w3 (by rw [List.append_assoc]; exact hS) (by rw [List.length_append]; omega) (by omega)
    rw [show (((i + 1 : Nat)) : Int) = (i : Int) + 1 from by push_cast; rfl] at this
    exact this

theorem bbegun : tourkeep1_bitsBegun.f 5 = some true := by decide +kernel
theorem BitsBack : tourkeep1_BitsBack.Pure := by
  intro l0 _ _ hwf
  refine ⟨1000, ?_⟩
  have hb : tourkeep1_bitsBegun.f 1000 = some true := at_rounds (fun k => tourkeep1_bitsBegun.mono k) (by omega) bbegun
  obtain ⟨b, n, e, w⟩ := Wr.new
  have hI : ∀ x ∈ l0.take (mn (l0.length : Int) 200).toNat, I64 x := by
    intro x hx
    have h := hwf x (List.mem_of_mem_take hx)
    have h2 : IntKind.min .i64 ≤ x ∧ x ≤ IntKind.max .i64 := by simpa [Lit.wf] using h
    have e1 : IntKind.min .i64 = -9223372036854775808 := rfl
    have e2 : IntKind.max .i64 = 9223372036854775807 := rfl
    unfold I64
    omega
  have hm : (mn (l0.length : Int) 200).toNat ≤ 200 ∧ 0 ≤ mn (l0.length : Int) 200 ∧ mn (l0.length : Int) 200 ≤ (l0.length : Int) := by rw [mn_eq]; omega
  have hlen : (l0.take (mn (l0.length : Int) 200).toNat).length ≤ 200 := by rw [List.length_take]; omega
  unfold tourkeep1_BitsBack.f
  rw [hb, Option.bind_some, if_pos rfl, if_pos hm.2.1, if_pos hm.2.2, e, Option.bind_some]
  exact write_loop _ hlen hI _ rfl (l0.take (mn (l0.length : Int) 200).toNat).length 0 b n [] 1000 (by omega) w (by simp) (by simp) (by omega)
end Go.Proofs.Ytggfiacnkbcjbaa.Pure
