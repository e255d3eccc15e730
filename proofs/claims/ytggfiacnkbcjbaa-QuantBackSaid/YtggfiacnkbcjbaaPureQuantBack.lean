/- QuantBack in plain Lean. No condition. -/
import Derived.Test.YtggfiacnkbcjbaaQBits
import Derived.Test.YtggfiacnkbcjbaaQBelow
import Derived.Test.YtggfiacnkbcjbaaPAllx4
import Derived.Test.YtggfiacnkbcjbaaPAllx3
namespace Go.Proofs.Ytggfiacnkbcjbaa.Pure
open Go.RowKit Go.Proofs.Ytggfiacnkbcjbaa.P Go.Proofs.YtggfiacnkbcjbaaW.PrintWords Go.Proofs.YtggfiacnkbcjbaaW.PrintLast
set_option linter.unusedVariables false

theorem pow32 (m : Nat) (h : m ≤ 32) : (1 : Int) ≤ 2 ^ m ∧ (2 : Int) ^ m ≤ 4294967296 := by
  exact ⟨Int.pow_pos (by omega), pow2_le h⟩
theorem fit_f (s : ByteArray) (m : Nat) (low v : Int) (hm : m ≤ 32) (h0 : -1099511627776 ≤ low) (h1 : low ≤ 1099511627776) : quant_Fit.f s m low v = some (min (max v low) (low + 2 ^ m - 1)) := by
  have hp := pow32 m hm
  unfold quant_Fit.f
  rw [clamp_f, show min (max low (-1099511627776)) 1099511627776 = low from by omega]
  simp only [Option.bind_some]
  rw [mx_eq, mn_eq, mn_eq, mx_eq, show (min (max (m : Int) 0) 32).toNat = m from by omega]
  generalize (2 : Int) ^ m = q at hp
  rw [wrap64_in q (by omega) (by omega), wrap64_in (low + q) (by omega) (by omega), wrap64_in (low + q - 1) (by omega) (by omega)]
theorem check_f (s : ByteArray) (m : Nat) (low : Int) (hm : m ≤ 32) (h0 : -1099511627776 ≤ low) (h1 : low ≤ 1099511627776) : quant_Check.f s m low = some 0 := by
  unfold quant_Check.f
  rw [if_neg (by omega), if_neg (by omega), clamp_f]
  simp only [Option.bind_some]
  rw [if_pos (by omega)]
theorem qput_ok {b : ByteArray} {n : Int} {S : List Int} (h : Wr b n S) (s : ByteArray) (m : Nat) (low x : Int) (hm : m ≤ 32) (h0 : -1099511627776 ≤ low) (h1 : low ≤ 1099511627776) (hx0 : low ≤ x) (hx1 : x ≤ low + 2 ^ m - 1) (hn : S.length + m ≤ 524288) :
    ∃ b', quant_Put.f b n s m low x = some (0, b', n + m) ∧ Wr b' (n + m) (S ++ nb (x - low) m) := by
  have hp := pow32 m hm
  obtain ⟨b', e, hw⟩ := put_ok h (x - low) m (by omega) (by omega) (by omega) hn
  refine ⟨b', ?_, hw⟩
  unfold quant_Put.f
  rw [check_f s m low hm h0 h1]
  simp only [Option.bind_some]
  rw [if_pos trivial, fit_f s m low x hm h0 h1]
  simp only [Option.bind_some]
  rw [if_pos (by omega), wrap64_in _ (by omega) (by omega), IntKind.wrap_u64, Int.emod_eq_of_lt (by omega) (by omega), e]
  rfl
theorem qget_ok {b : ByteArray} {n : Int} {R : List Int} (s : ByteArray) (m : Nat) (low x : Int) (h : Rdr b n (nb (x - low) m ++ R)) (hm : m ≤ 32) (h0 : -1099511627776 ≤ low) (h1 : low ≤ 1099511627776) (hx0 : low ≤ x) (hx1 : x ≤ low + 2 ^ m - 1) :
    quant_Get.f b n s m low = some (x, 0, b, n + m) ∧ Rdr b (n + m) R := by
  have hp := pow32 m hm
  obtain ⟨e, hr⟩ := get_nb h (by omega) (by omega) (by omega)
  refine ⟨?_, hr⟩
  unfold quant_Get.f
  rw [check_f s m low hm h0 h1]
  simp only [Option.bind_some]
  rw [if_pos trivial, e]
  simp only [Option.bind_some]
  rw [if_pos trivial, wrap64_in (x - low) (by omega) (by omega), wrap64_in (low + (x - low)) (by omega) (by omega)]
  congr 2
  omega
theorem qbegun : tourkeep1_quantBegun.f = some true := by
  have h := fit_f ⟨#[]⟩ 3 (-2) 9 (by omega) (by omega) (by omega)
  rw [show (((3 : Nat) : Int)) = 3 from rfl] at h
  unfold tourkeep1_quantBegun.f
  rw [h]
  rfl
theorem qback_tail (m : Nat) (low x y : Int) (b2 : ByteArray) (n2 : Int) (hm32 : m ≤ 32) (h0 : -1099511627776 ≤ low) (h1 : low ≤ 1099511627776) (hxy : x ≤ y) (hx0 : low ≤ x) (hx1 : x ≤ low + 2 ^ m - 1) (hy0 : low ≤ y) (hy1 : y ≤ low + 2 ^ m - 1)
    (w2 : Wr b2 n2 (nb (x - low) m ++ nb (y - low) m)) : tourkeep1_QuantBack.j0 1 x y false ⟨#[]⟩ m low b2 n2 = some true := by
  simp only [tourkeep1_QuantBack.j0]
  rw [if_neg (by decide)]
  obtain ⟨z, hz, e3, e4, r0⟩ := wr_read w2 (by simp [nb_length]; omega)
  simp only [List.append_assoc] at r0
  obtain ⟨e5, r1⟩ := qget_ok ⟨#[]⟩ m low x r0 hm32 h0 h1 hx0 hx1
  obtain ⟨e6, r2⟩ := qget_ok ⟨#[]⟩ m low y r1 hm32 h0 h1 hy0 hy1
  rw [e3]
  simp only [Option.bind_some]
  rw [e4]
  simp only [Option.bind_some]
  rw [e5]
  simp only [Option.bind_some]
  rw [e6]
  simp only [Option.bind_some]
  rw [if_pos trivial, if_pos trivial, if_pos trivial, if_pos trivial, if_pos hxy, fit_f _ m low x hm32 h0 h1]
  simp only [Option.bind_some]
  rw [if_pos (by omega)]
  simp only [Option.some.injEq, decide_eq_true_eq]
  omega
theorem number_any (a : Int) : ∃ low, tourkeep1_number.f a 1099511627776 = some low ∧ -1099511627776 ≤ low ∧ low ≤ 1099511627776 := by
  refine ⟨_, number_f a 1099511627776 (by omega) (by omega), ?_, ?_⟩ <;> omega
theorem below33 (a : Int) : ∃ m : Nat, tourmake_Below.f a 33 = some (m : Int) ∧ m ≤ 32 := by
  refine ⟨(a % 33).toNat, ?_, by omega⟩
  rw [below_f a 33 (by omega) (by omega)]
  congr 1
  omega
theorem len_eq (n0 : Int) (m : Nat) (h : n0 = 0) (hm : m ≤ 32) : (n0 + m + m != wrap64 (2 * (m : Int))) = false := by
  rw [wrap64_in _ (by omega) (by omega), h]
  simp
  omega
theorem QuantBack : tourkeep1_QuantBack.Pure := by
  intro a0 a1 a2 a3 _ _ _ _
  refine ⟨1, ?_⟩
  unfold tourkeep1_QuantBack.f
  rw [qbegun]
  simp only [Option.bind_some]
  obtain ⟨m, em, hm32⟩ := below33 a0
  obtain ⟨low, el, h0, h1⟩ := number_any a1
  rw [if_pos trivial, em, Option.bind_some, el, Option.bind_some]
  have hp := pow32 m hm32
  rw [fit_f _ m low _ hm32 h0 h1, fit_f _ m low _ hm32 h0 h1, mn_eq, mx_eq]
  simp only [Option.bind_some]
  obtain ⟨x, hx⟩ : ∃ x : Int, min (max (min a3 a2) low) (low + 2 ^ m - 1) = x := ⟨_, rfl⟩
  obtain ⟨y, hy⟩ : ∃ y : Int, min (max (max a3 a2) low) (low + 2 ^ m - 1) = y := ⟨_, rfl⟩
  rw [hx, hy]
  have hxy : x ≤ y := by omega
  have hx0 : low ≤ x := by omega
  have hx1 : x ≤ low + 2 ^ m - 1 := by omega
  have hy0 : low ≤ y := by omega
  have hy1 : y ≤ low + 2 ^ m - 1 := by omega
  obtain ⟨b0, n0, e0, w0⟩ := Wr.new
  obtain ⟨b1, e1, w1⟩ := qput_ok w0 ⟨#[]⟩ m low x hm32 h0 h1 hx0 hx1 (by simp; omega)
  obtain ⟨b2, e2, w2⟩ := qput_ok w1 ⟨#[]⟩ m low y hm32 h0 h1 hy0 hy1 (by simp [nb_length]; omega)
  have hn0 := w0.len
  rw [e0]
  simp only [Option.bind_some]
  rw [e1]
  simp only [Option.bind_some]
  rw [if_pos trivial, e2]
  simp only [Option.bind_some]
  rw [if_pos trivial]
  unfold bits_Writer_Len.f
  simp only [Option.bind_some]
  have hlen := len_eq n0 m (by rw [hn0]; rfl) hm32
  rw [hlen]
  exact qback_tail m low x y b2 _ hm32 h0 h1 hxy hx0 hx1 hy0 hy1 (by simpa using w2)
end Go.Proofs.Ytggfiacnkbcjbaa.Pure
