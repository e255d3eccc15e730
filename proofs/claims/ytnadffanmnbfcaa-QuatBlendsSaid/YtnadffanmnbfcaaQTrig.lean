/- What the printed functions Sin and Cos of package trig compute, and the laws of that: periods, mirrors, order. Condition: numbers of 64 bits. -/
import Derived.Test.YtnadffanmnbfcaaPAllx8
import Derived.Test.YtnadffanmnbfcaaPAllx9
import Derived.Test.YtnadffanmnbfcaaQFix
namespace Go.Proofs.Ytnadffanmnbfcaa.QTrig
open Go Go.RowKit Go.Proofs.Ytnadffanmnbfcaa.P Go.Proofs.Ytnadffanmnbfcaa.QDiv Go.Proofs.Ytnadffanmnbfcaa.QFix Go.Proofs.YtnadffanmnbfcaaW.PrintWords Go.Proofs.YtnadffanmnbfcaaW.PrintLast Go.Proofs.YtnadffanmnbfcaaW.PrintMore

theorem i64_low16 (n : Int) : Go.bits .and .i64 n 65535 = n % 65536 := by
  have h1 : (BitVec.ofInt 64 65535).toNat = 2 ^ 16 - 1 := by decide
  have key : (BitVec.ofInt 64 n &&& BitVec.ofInt 64 65535).toNat = (n % ((2 ^ 64 : Nat) : Int)).toNat % 2 ^ 16 := by
    rw [BitVec.toNat_and, BitVec.toNat_ofInt, h1, Nat.and_two_pow_sub_one_eq_mod]
  show IntKind.i64.wrap ((BitVec.ofInt 64 n &&& BitVec.ofInt 64 65535).toNat : Nat) = n % 65536
  rw [key, IntKind.wrap_i64]
  omega
/-- the sine on the four quarters -/
def sinI (a : Int) : Int :=
  if a % 65536 < 16384 then sinFirst (a % 65536) else if a % 65536 < 32768 then sinFirst (32768 - a % 65536)
  else if a % 65536 < 49152 then -sinFirst (a % 65536 - 32768) else -sinFirst (65536 - a % 65536)
def cosI (a : Int) : Int := sinI (a + 16384)

/-! the first quarter -/
def tstep (i : Int) : Int := tabAt (i + 1) - tabAt i
theorem sinFirst_cell (i g : Int) (hg0 : 0 ≤ g) (hg : g < 256) : sinFirst (256 * i + g) = tabAt i + (tstep i * g + 128) / 256 := by
  unfold sinFirst tstep
  have e1 : (256 * i + g) / 256 = i := by omega
  have e2 : (256 * i + g) % 256 = g := by omega
  rw [e1, e2]
  split
  · rename_i h; rw [h, Int.mul_zero]; omega
  · rfl
theorem tstep_range (i : Int) (h0 : 0 ≤ i) (h1 : i < 64) : 20 ≤ tstep i ∧ tstep i ≤ 1608 ∧ (i < 33 → 1000 ≤ tstep i) := by
  have h : ∀ j : Fin 64, 20 ≤ tstep (j.val : Int) ∧ tstep (j.val : Int) ≤ 1608 ∧ ((j.val : Int) < 33 → 1000 ≤ tstep (j.val : Int)) := by decide +kernel
  obtain ⟨j, rfl⟩ : ∃ j : Nat, i = (j : Int) := ⟨i.toNat, by omega⟩
  exact h ⟨j, by omega⟩
theorem sinFirst_zero : sinFirst 0 = 0 := by decide +kernel
theorem sinFirst_top : sinFirst 16384 = 65536 := by decide +kernel
theorem sinFirst_next (a : Int) (h0 : 0 ≤ a) (h1 : a < 16384) : sinFirst a ≤ sinFirst (a + 1) ∧ (a < 8448 → sinFirst a < sinFirst (a + 1)) := by
  obtain ⟨i, g, rfl, hg0, hg1⟩ : ∃ i g : Int, a = 256 * i + g ∧ 0 ≤ g ∧ g < 256 := ⟨a / 256, a % 256, by omega, by omega, by omega⟩
  obtain ⟨s1, s2, s3⟩ := tstep_range i (by omega) (by omega)
  rw [sinFirst_cell i g hg0 hg1]
  by_cases hg : g = 255
  · have e : 256 * i + g + 1 = 256 * (i + 1) + 0 := by omega
    rw [e, sinFirst_cell (i + 1) 0 (by omega) (by omega), Int.mul_zero]
    have : tabAt (i + 1) = tabAt i + tstep i := by unfold tstep; omega
    subst hg
    omega
  · have e : 256 * i + g + 1 = 256 * i + (g + 1) := by omega
    rw [e, sinFirst_cell i (g + 1) (by omega) (by omega)]
    have : tstep i * (g + 1) = tstep i * g + tstep i := by grind
    rw [this]
    omega
theorem sinFirst_mono (n : Nat) : ∀ a : Int, 0 ≤ a → a + n ≤ 16384 → sinFirst a ≤ sinFirst (a + n) := by
  induction n with
  | zero => intro a _ _; simp
  | succ n ih =>
    intro a h0 h1
    have h2 := ih a h0 (by omega)
    have h3 := (sinFirst_next (a + n) (by omega) (by omega)).1
    have e : a + ((n + 1 : Nat) : Int) = a + n + 1 := by omega
    rw [e]; omega
theorem sinFirst_le {a b : Int} (h0 : 0 ≤ a) (h : a ≤ b) (h1 : b ≤ 16384) : sinFirst a ≤ sinFirst b := by
  have := sinFirst_mono (b - a).toNat a h0 (by omega)
  have e : a + ((b - a).toNat : Int) = b := by omega
  rw [e] at this; exact this
theorem sinFirst_range (a : Int) (h0 : 0 ≤ a) (h1 : a ≤ 16384) : 0 ≤ sinFirst a ∧ sinFirst a ≤ 65536 := by
  have h2 := sinFirst_le (Int.le_refl 0) h0 h1
  have h3 := sinFirst_le h0 h1 (Int.le_refl _)
  rw [sinFirst_zero] at h2; rw [sinFirst_top] at h3
  exact ⟨h2, h3⟩
theorem sinFirst_pos (a : Int) (h0 : 0 < a) (h1 : a ≤ 16384) : 0 < sinFirst a := by
  have h2 := sinFirst_le (show (0 : Int) ≤ 1 by omega) (show 1 ≤ a by omega) h1
  have h3 : sinFirst 1 = 6 := by decide +kernel
  omega
theorem sinI_range (a : Int) : -65536 ≤ sinI a ∧ sinI a ≤ 65536 := by
  unfold sinI
  split
  · have := sinFirst_range (a % 65536) (by omega) (by omega); omega
  · split
    · have := sinFirst_range (32768 - a % 65536) (by omega) (by omega); omega
    · split
      · have := sinFirst_range (a % 65536 - 32768) (by omega) (by omega); omega
      · have := sinFirst_range (65536 - a % 65536) (by omega) (by omega); omega
theorem cosI_range (a : Int) : -65536 ≤ cosI a ∧ cosI a ≤ 65536 := sinI_range _

theorem sin_f (a : Int) : trig_Sin.f a = some (sinI a) := by
  unfold trig_Sin.f sinI
  rw [i64_low16]
  have h0 : 0 ≤ a % 65536 := by omega
  have h1 : a % 65536 < 65536 := by omega
  generalize a % 65536 = r at *
  rw [Int.tdiv_eq_ediv_of_nonneg h0, Int.tmod_eq_emod_of_nonneg h0, wrap64_in (r / 16384) (by omega) (by omega), wrap64_in (16384 - r % 16384) (by omega) (by omega)]
  have ff : ∀ x : Int, 0 ≤ x → x ≤ 16384 → trig_first.f x = some (sinFirst x) := fun x a b => by unfold trig_first.f; rw [if_pos ⟨a, b⟩]
  rw [ff (r % 16384) (by omega) (by omega), ff (16384 - r % 16384) (by omega) (by omega)]
  simp only [Option.bind_some]
  have b1 := sinFirst_range (r % 16384) (by omega) (by omega)
  have b2 := sinFirst_range (16384 - r % 16384) (by omega) (by omega)
  rw [wrap64_in (-sinFirst (r % 16384)) (by omega) (by omega), wrap64_in (-sinFirst (16384 - r % 16384)) (by omega) (by omega)]
  by_cases c0 : r < 16384
  · rw [if_pos (by omega), if_pos c0, show r % 16384 = r by omega]
  · rw [if_neg (by omega), if_neg c0]
    by_cases c1 : r < 32768
    · rw [if_pos (by omega), if_pos c1, show 16384 - r % 16384 = 32768 - r by omega]
    · rw [if_neg (by omega), if_neg c1]
      by_cases c2 : r < 49152
      · rw [if_pos (by omega), if_pos c2, show r % 16384 = r - 32768 by omega]
      · rw [if_neg (by omega), if_neg c2, show 16384 - r % 16384 = 65536 - r by omega]
theorem sinI_mod (a : Int) : sinI (a % 65536) = sinI a := by unfold sinI; rw [Int.emod_emod]
theorem sinI_period (a b : Int) (h : a % 65536 = b % 65536) : sinI a = sinI b := by rw [← sinI_mod a, h, sinI_mod]
theorem cos_f (a : Int) : trig_Cos.f a = some (cosI a) := by
  unfold trig_Cos.f cosI
  rw [i64_low16, wrap64_in _ (by omega) (by omega), sin_f]
  simp only [Option.bind_some]
  rw [sinI_period (a % 65536 + 16384) (a + 16384) (by omega)]
theorem sinI_neg (a : Int) : sinI (-a) = -sinI a := by
  unfold sinI
  have h : (-a) % 65536 = (if a % 65536 = 0 then 0 else 65536 - a % 65536) := by split <;> omega
  rw [h]
  have h0 : 0 ≤ a % 65536 := by omega
  have h1 : a % 65536 < 65536 := by omega
  generalize a % 65536 = r at *
  clear h
  by_cases hz : r = 0
  · subst hz; rw [if_pos rfl, if_pos (by omega), sinFirst_zero]; omega
  rw [if_neg hz]
  by_cases c0 : r < 16384
  · rw [if_pos c0, if_neg (by omega), if_neg (by omega), if_neg (by omega), show 65536 - (65536 - r) = r by omega]
  by_cases c1 : r < 32768
  · rw [if_neg c0, if_pos c1, if_neg (by omega), if_neg (by omega)]
    by_cases c : r = 16384
    · rw [if_neg (by omega), show 65536 - (65536 - r) = 32768 - r by omega]
    · rw [if_pos (by omega), show 65536 - r - 32768 = 32768 - r by omega]
  by_cases c2 : r < 49152
  · rw [if_neg c0, if_neg c1, if_pos c2, if_neg (by omega), Int.neg_neg]
    by_cases c : r = 32768
    · rw [if_neg (by omega), if_pos (by omega), c, show (65536 : Int) - 32768 - 32768 = 32768 - 32768 by omega, show (32768 : Int) - 32768 = 0 by omega, sinFirst_zero]; rfl
    · rw [if_pos (by omega), show 32768 - (65536 - r) = r - 32768 by omega]
  · rw [if_neg c0, if_neg c1, if_neg c2, Int.neg_neg]
    by_cases c : r = 49152
    · rw [if_neg (by omega), if_pos (by omega), show 32768 - (65536 - r) = 65536 - r by omega]
    · rw [if_pos (by omega)]
theorem sinI_half (a : Int) : sinI (a + 32768) = -sinI a := by
  unfold sinI
  have h : (a + 32768) % 65536 = (if a % 65536 < 32768 then a % 65536 + 32768 else a % 65536 - 32768) := by split <;> omega
  rw [h]
  have h0 : 0 ≤ a % 65536 := by omega
  have h1 : a % 65536 < 65536 := by omega
  generalize a % 65536 = r at *
  clear h
  by_cases c1 : r < 32768
  · rw [if_pos c1, if_neg (by omega), if_neg (by omega), if_pos c1]
    by_cases c0 : r < 16384
    · rw [if_pos (by omega), if_pos c0, show r + 32768 - 32768 = r by omega]
    · rw [if_neg (by omega), if_neg c0, show 65536 - (r + 32768) = 32768 - r by omega]
  · rw [if_neg c1, if_neg (show ¬ r < 16384 by omega), if_neg c1]
    by_cases c2 : r < 49152
    · rw [if_pos (by omega), if_pos c2, Int.neg_neg]
    · rw [if_neg (by omega), if_pos (by omega), if_neg c2, Int.neg_neg, show 32768 - (r - 32768) = 65536 - r by omega]
theorem sinI_mirror (a : Int) : sinI (32768 - a) = sinI a := by
  rw [show 32768 - a = -a + 32768 by omega, sinI_half, sinI_neg, Int.neg_neg]
theorem cosI_neg (a : Int) : cosI (-a) = cosI a := by
  unfold cosI
  rw [show -a + 16384 = 32768 - (a + 16384) by omega, sinI_mirror]
theorem cosI_half (a : Int) : cosI (a + 32768) = -cosI a := by
  unfold cosI
  rw [show a + 32768 + 16384 = (a + 16384) + 32768 by omega, sinI_half]
theorem sinI_quarter (a : Int) (h0 : 0 ≤ a) (h1 : a ≤ 16384) : sinI a = sinFirst a := by
  unfold sinI
  by_cases h : a = 16384
  · subst h; rw [if_neg (by omega), if_pos (by omega)]; rfl
  · rw [show a % 65536 = a by omega, if_pos (by omega)]
theorem cosI_quarter (a : Int) (h0 : 0 ≤ a) (h1 : a ≤ 16384) : cosI a = sinFirst (16384 - a) := by
  unfold cosI
  rw [show a + 16384 = 32768 - (16384 - a) by omega, sinI_mirror, sinI_quarter _ (by omega) (by omega)]

end Go.Proofs.Ytnadffanmnbfcaa.QTrig
