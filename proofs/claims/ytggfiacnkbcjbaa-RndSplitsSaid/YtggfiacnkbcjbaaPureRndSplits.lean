/- The plain statement of RndSplits: for every seed and number the law's printed function returns true. No condition. -/
import Derived.Test.YtggfiacnkbcjbaaPAllx6
import Derived.Test.YtggfiacnkbcjbaaQRnd
namespace Go.Proofs.Ytggfiacnkbcjbaa.Pure
open Go Go.RowKit Go.Proofs.Ytggfiacnkbcjbaa.P Go.Proofs.Ytggfiacnkbcjbaa.QRnd Go.Proofs.YtggfiacnkbcjbaaW.PrintWords Go.Proofs.YtggfiacnkbcjbaaW.PrintLast

theorem splits_loop (n p0 p1 b0 b1 : Int) (hn : n ≤ 20) (hb : (b0, b1) = (nx (nx p0 p1) p1, p1)) (d : Nat) : ∀ (k : Nat) (i a0 a1 : Int), 0 ≤ i → i ≤ n → n - i = d → d < k →
    a1 = Go.bits .or .u64 (mixI (nx (nx p0 p1) p1)) 1 → tourkeep1_RndSplits.l0 k n i p0 p1 a0 a1 b0 b1 b0 b1 = some true := by
  obtain ⟨rfl, rfl⟩ := Prod.mk.inj hb
  induction d with
  | zero =>
    intro k i a0 a1 h0 h1 hd hk ha
    obtain ⟨k, rfl⟩ : ∃ m, k = m + 1 := ⟨k - 1, by omega⟩
    simp only [tourkeep1_RndSplits.l0]
    rw [if_neg (by omega), split_f]
    simp only [Option.bind_some, BEq.rfl, Bool.and_self, if_true]
    rw [if_pos ha.symm, odd_tmod _ (bits_range _ _ _).1 (or_one _)]
  | succ d ih =>
    intro k i a0 a1 h0 h1 hd hk ha
    obtain ⟨k, rfl⟩ : ∃ m, k = m + 1 := ⟨k - 1, by omega⟩
    simp only [tourkeep1_RndSplits.l0]
    rw [if_pos (by omega), next_f]
    simp only [Option.bind_some]
    have hw : wrap64 (i + 1) = i + 1 := by unfold wrap64; omega
    rw [hw]
    exact ih k (i + 1) _ _ (by omega) (by omega) (by omega) (by omega) ha

theorem RndSplits : tourkeep1_RndSplits.Pure := by
  intro a0 a1 _ _
  refine ⟨30, ?_⟩
  unfold tourkeep1_RndSplits.f
  rw [at_rounds tourkeep1_rndBegun.mono (show 3 ≤ 30 by decide) rbegun]
  simp only [Option.bind_some, if_true]
  rw [new_f]; simp only [Option.bind_some]
  rw [split_f]; simp only [Option.bind_some]
  rw [next_f]; simp only [Option.bind_some]
  rw [next_f]; simp only [Option.bind_some]
  rw [below_f _ _ (by decide) (by decide)]; simp only [Option.bind_some]
  have hm := Int.emod_nonneg a1 (show (20 : Int) ≠ 0 by omega)
  have hl := Int.emod_lt_of_pos a1 (show (0 : Int) < 20 by omega)
  exact splits_loop _ _ _ _ _ (by omega) rfl (a1 % 20).toNat 30 0 _ _ (by omega) (by omega) (by omega) (by omega) rfl

end Go.Proofs.Ytggfiacnkbcjbaa.Pure
