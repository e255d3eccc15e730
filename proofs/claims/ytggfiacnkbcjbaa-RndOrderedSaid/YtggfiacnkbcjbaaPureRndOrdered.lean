/- The plain statement of RndOrdered: for every input the law's printed function returns true. No condition. -/
import Derived.Test.YtggfiacnkbcjbaaPAllx16
import Derived.Test.YtggfiacnkbcjbaaPAllx3
import Derived.Test.YtggfiacnkbcjbaaPAllx4
import Derived.Test.YtggfiacnkbcjbaaPAllx15
import Derived.Test.YtggfiacnkbcjbaaQOrder
namespace Go.Proofs.Ytggfiacnkbcjbaa.Pure
open Go Go.RowKit Go.Proofs.Ytggfiacnkbcjbaa.P Go.Proofs.Ytggfiacnkbcjbaa.QRnd Go.Proofs.YtggfiacnkbcjbaaW.PrintWords Go.Proofs.YtggfiacnkbcjbaaW.PrintLast Go.Proofs.YtggfiacnkbcjbaaW.PrintMore

theorem look (a s g g' : Int) (n : Nat) (hn : n ≤ 1000) (hg : (rnd_New.f a) = some (g', g)) (d : Nat) : ∀ (k i : Nat), i + d = n → d < k →
    tourkeep1_RndOrdered.l0 k a (n : Int) (upto n) 0 (n : Int) (i : Int) s g = some true := by
  induction d with
  | zero =>
    intro k i hd hk
    obtain ⟨k, rfl⟩ : ∃ m, k = m + 1 := ⟨k - 1, by omega⟩
    rw [tourkeep1_RndOrdered.l0, if_neg (by omega), if_pos rfl, if_pos (by rw [upto_length]), hg, Option.bind_some]
    simp
  | succ d ih =>
    intro k i hd hk
    obtain ⟨k, rfl⟩ : ∃ m, k = m + 1 := ⟨k - 1, by omega⟩
    have hi : i < (upto n).length := by rw [upto_length]; omega
    have r1 : rd (upto n) (i : Int) = (i : Int) := by
      unfold rd
      rw [Int.toNat_natCast, List.getD_eq_getElem?_getD, List.getElem?_eq_getElem hi]
      simp [upto]
    rw [tourkeep1_RndOrdered.l0, if_pos (by omega), if_pos (by omega), if_pos (by rw [upto_length]; omega), r1, if_pos rfl, w64_in ((i : Int) + 1) (by omega) (by omega)]
    exact ih k (i + 1) (by omega) (by omega)
theorem RndOrdered : tourkeep1_RndOrdered.Pure := by
  intro a0 a1 _ _
  have hm := Int.emod_nonneg a1 (show (80 : Int) ≠ 0 by omega)
  have hl := Int.emod_lt_of_pos a1 (show (0 : Int) < 80 by omega)
  obtain ⟨n, hn⟩ : ∃ n : Nat, a1 % 80 = n := ⟨(a1 % 80).toNat, by omega⟩
  have hr := mixI_range (a0 % 18446744073709551616)
  obtain ⟨K, l, s', hp, hk⟩ := order_f n (by omega) (mixI (a0 % 18446744073709551616)) 11400714819323198485 (by decide) (by omega) hr.1 hr.2
  obtain ⟨K0, hb⟩ : ∃ K0, ∀ k, K0 ≤ k → tourkeep1_rndBegun.f k = some true := begun_ev
  refine ⟨max (max K K0) (n + 1), ?_⟩
  have hlen : l.length = n := by rw [hp.length_eq, upto_length]
  unfold tourkeep1_RndOrdered.f
  rw [hb _ (by omega), Option.bind_some, if_pos rfl, below_f a1 80 (by omega) (by omega), Option.bind_some, new_f, Option.bind_some]
  dsimp only
  rw [hn, hk _ (by omega), Option.bind_some]
  dsimp only
  have c1 : slices_Clone_int_int.f l = some l := by unfold slices_Clone_int_int.f; rw [if_pos (by omega)]
  have c2 : slices_Sort_int_int.f l = some (upto n) := by unfold slices_Sort_int_int.f; rw [if_pos (by omega), sorted_upto n l hp]
  rw [c1, Option.bind_some, c2, Option.bind_some, hlen]
  exact look a0 s' _ _ n (by omega) (new_f a0) n _ 0 (by omega) (by omega)

end Go.Proofs.Ytggfiacnkbcjbaa.Pure
