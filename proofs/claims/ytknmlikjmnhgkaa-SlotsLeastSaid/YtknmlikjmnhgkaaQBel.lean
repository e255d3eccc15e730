/- tourmake.Below in plain Lean. No condition. -/
import Derived.Test.YtknmlikjmnhgkaaPAllx2
namespace Go.Proofs.Ytknmlikjmnhgkaa.P
open Go.RowKit Go.Proofs.YtknmlikjmnhgkaaW.PrintWords Go.Proofs.YtknmlikjmnhgkaaW.PrintLast
set_option linter.unusedVariables false

def bel (x n : Int) : Int := if Int.tmod x n < 0 then Int.tmod x n + n else Int.tmod x n
theorem bel_range (x n : Int) (hn : 0 < n) : 0 ≤ bel x n ∧ bel x n < n := by
  have h1 : Int.tmod x n < n := Int.tmod_lt_of_pos x hn
  have h2 : -n < Int.tmod x n := by
    have := Int.tmod_lt_of_pos (-x) hn
    rw [Int.neg_tmod] at this
    omega
  unfold bel
  split <;> omega
theorem bel_f (x n : Int) (hn : 0 < n) (hm : n < 4611686018427387904) : tourmake_Below.f x n = some (bel x n) := by
  have h2 : -n < Int.tmod x n := by
    have := Int.tmod_lt_of_pos (-x) hn
    rw [Int.neg_tmod] at this
    omega
  have h1 : Int.tmod x n < n := Int.tmod_lt_of_pos x hn
  unfold tourmake_Below.f bel
  rw [if_neg (by omega)]
  split
  · rw [show wrap64 (Int.tmod x n + n) = Int.tmod x n + n from by unfold wrap64; omega]
  · rfl
end Go.Proofs.Ytknmlikjmnhgkaa.P
