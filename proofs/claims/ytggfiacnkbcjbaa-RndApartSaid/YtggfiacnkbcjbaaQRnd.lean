/- Facts about the printed functions of package rnd: they always return, what the scrambling does at 0, and a stream comes to a number that rnd.Below takes. No condition. -/
import Derived.Test.YtggfiacnkbcjbaaPAllx1
import Derived.Test.YtggfiacnkbcjbaaPAllx3
import Derived.Test.YtggfiacnkbcjbaaPAllx4
import Derived.Laws.BitsAllLaws
namespace Go.Proofs.Ytggfiacnkbcjbaa.QRnd
open Go Go.RowKit Go.Proofs.Ytggfiacnkbcjbaa.P Go.Proofs.YtggfiacnkbcjbaaW.PrintWords Go.Proofs.YtggfiacnkbcjbaaW.PrintLast

def mixI (a0 : Int) : Int := (rnd_Mix.f a0).getD 0
theorem mix_f (a : Int) : rnd_Mix.f a = some (mixI a) := rfl
theorem bits_range (op : BinOp) (x y : Int) : 0 ≤ Go.bits op .u64 x y ∧ Go.bits op .u64 x y < 18446744073709551616 := by
  unfold Go.bits
  simp only [IntKind.wrap_u64]
  omega
theorem mixI_range (a : Int) : 0 ≤ mixI a ∧ mixI a < 18446744073709551616 := bits_range .xor _ _
def nx (s g : Int) : Int := (s + g) % 18446744073709551616
theorem next_f (s g : Int) : rnd_Next.f s g = some (mixI (nx s g), nx s g, g) := by
  unfold rnd_Next.f nx
  rw [IntKind.wrap_u64, mix_f]; rfl
theorem nx_range (s g : Int) : 0 ≤ nx s g ∧ nx s g < 18446744073709551616 := by unfold nx; omega
theorem new_f (a : Int) : rnd_New.f a = some (mixI (a % 18446744073709551616), 11400714819323198485) := by
  unfold rnd_New.f
  rw [IntKind.wrap_u64, mix_f]; rfl
theorem or_one (x : Int) : Go.bits .or .u64 x 1 % 2 = 1 := by
  have h : ∀ b : BitVec 64, ((b ||| 1#64).toNat) % 2 = 1 := by
    intro b
    rw [BitVec.toNat_or]
    have : (1#64).toNat = 1 := rfl
    rw [this]
    simp
  have h0 := h (BitVec.ofInt 64 x)
  show IntKind.u64.wrap (((BitVec.ofInt 64 x) ||| (BitVec.ofInt 64 1)).toNat : Int) % 2 = 1
  rw [IntKind.wrap_u64]
  have e : BitVec.ofInt 64 1 = 1#64 := rfl
  rw [e]
  omega
theorem rbegun : tourkeep1_rndBegun.f 3 = some true := by decide +kernel
theorem begun_ev : Ev (fun k => tourkeep1_rndBegun.f k) true := Ev.of tourkeep1_rndBegun.mono rbegun
theorem odd_tmod (x : Int) (h0 : 0 ≤ x) (h : x % 2 = 1) : (Int.tmod x 2 == 1) = true := by
  rw [Int.tmod_eq_emod_of_nonneg h0, h]; rfl
theorem below_f (a n : Int) (hn : 0 < n) (hn2 : n ≤ 4611686018427387904) : tourmake_Below.f a n = some (a % n) := by
  unfold tourmake_Below.f
  rw [if_neg (by omega)]
  have hm := Int.emod_nonneg a (show n ≠ 0 by omega)
  have hl := Int.emod_lt_of_pos a hn
  by_cases h0 : 0 ≤ a
  · rw [Int.tmod_eq_emod_of_nonneg h0, if_neg (by omega)]
  · have e : Int.tmod a n = - ((-a) % n) := by
      rw [← Int.tmod_eq_emod_of_nonneg (show 0 ≤ -a by omega), Int.neg_tmod]; omega
    have hm' := Int.emod_nonneg (-a) (show n ≠ 0 by omega)
    have hl' := Int.emod_lt_of_pos (-a) hn
    have e2 : (a % n) = if (-a) % n = 0 then 0 else n - (-a) % n := by
      have q1 := Int.mul_ediv_add_emod a n
      have q2 := Int.mul_ediv_add_emod (-a) n
      split
      · rename_i hz
        rw [hz] at q2
        have hd : n ∣ a := ⟨-((-a) / n), by rw [Int.mul_neg]; omega⟩
        exact Int.emod_eq_zero_of_dvd hd
      · have hx : (n - (-a) % n) % n = n - (-a) % n := Int.emod_eq_of_lt (by omega) (by omega)
        rw [← hx]
        have : a = (n - (-a) % n) + n * (-((-a) / n) - 1) := by
          rw [Int.mul_sub, Int.mul_neg]; omega
        conv => lhs; rw [this]
        exact Int.add_mul_emod_self_left _ _ _
    rw [e]
    by_cases hz : (-a) % n = 0
    · rw [if_neg (by omega), e2, if_pos hz, hz]; rfl
    · rw [if_pos (by omega), e2, if_neg hz]
      congr 1
      unfold wrap64; omega

end Go.Proofs.Ytggfiacnkbcjbaa.QRnd
