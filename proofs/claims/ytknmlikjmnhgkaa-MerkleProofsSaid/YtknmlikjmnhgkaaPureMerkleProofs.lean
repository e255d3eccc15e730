/- The plain statement of MerkleProofs: for every input the law's printed function returns true. No condition. -/
import Derived.Test.YtknmlikjmnhgkaaPAllx8
import Derived.Test.YtknmlikjmnhgkaaPAllx5
import Derived.Test.YtknmlikjmnhgkaaQProof
namespace Go.Proofs.Ytknmlikjmnhgkaa.Pure
open Go Go.RowKit Go.Proofs.Ytknmlikjmnhgkaa.P Go.Proofs.Ytknmlikjmnhgkaa.QRnd Go.Proofs.YtknmlikjmnhgkaaW.PrintWords Go.Proofs.YtknmlikjmnhgkaaW.PrintLast Go.Proofs.YtknmlikjmnhgkaaW.PrintMore

theorem leaves_loop (t : List Int) (ht : t.length ≤ 59) (d : Nat) : ∀ (k i : Nat) (acc : List Int), i + d = t.length → acc.length ≤ i + 1 → d < k → tourkeep1_leaves.l0 k acc t (t.length : Int) (i : Int) = some (acc ++ (t.drop i).map (· % 18446744073709551616)) := by
  induction d with
  | zero =>
    intro k i acc h1 _ hk
    obtain ⟨k, rfl⟩ : ∃ m, k = m + 1 := ⟨k - 1, by omega⟩
    rw [tourkeep1_leaves.l0, if_neg (by omega), List.drop_eq_nil_of_le (by omega)]
    simp
  | succ d ih =>
    intro k i acc h1 h2 hk
    obtain ⟨k, rfl⟩ : ∃ m, k = m + 1 := ⟨k - 1, by omega⟩
    have hlt : i < t.length := by omega
    have r1 : rd t (i : Int) = t[i] := by unfold rd; rw [Int.toNat_natCast, List.getD_eq_getElem?_getD, List.getElem?_eq_getElem hlt]; rfl
    have hs : wrap64 ((i : Int) + 1) = ((i + 1 : Nat) : Int) := by rw [wrap64_in _ (by omega) (by omega)]; omega
    rw [tourkeep1_leaves.l0, if_pos (by omega), if_pos (by omega), if_pos (by omega), if_pos (by omega), r1, IntKind.wrap_u64, hs, ih k (i + 1) _ (by omega) (by simp; omega) (by omega), List.drop_eq_getElem_cons hlt, List.map_cons, List.append_assoc, List.singleton_append]
theorem leaves_f (l : List Int) (k : Nat) (hk : 100 ≤ k) : ∃ x, tourkeep1_leaves.f k l = some x ∧ 1 ≤ x.length ∧ x.length ≤ 60 ∧ Words x := by
  have em : (mn (l.length : Int) 59).toNat = min l.length 59 := by unfold mn; split <;> omega
  have m0 : 0 ≤ mn (l.length : Int) 59 := by unfold mn; split <;> omega
  have m1 : mn (l.length : Int) 59 ≤ (l.length : Int) := by unfold mn; split <;> omega
  have ht : (l.take (min l.length 59)).length ≤ 59 := by rw [List.length_take]; omega
  unfold tourkeep1_leaves.f
  rw [if_pos m0, if_pos m1, em]
  generalize l.take (min l.length 59) = t at *
  rw [show (0 : Int) = ((0 : Nat) : Int) from rfl, leaves_loop t ht t.length k 0 _ (by omega) (by simp) (by omega)]
  refine ⟨_, rfl, by simp, by simp; omega, fun x hx => ?_⟩
  rcases List.mem_append.1 hx with h | h
  · rw [List.mem_singleton.1 h, IntKind.wrap_u64]
    exact ⟨(mod_range _).1, (mod_range _).2⟩
  · obtain ⟨y, _, rfl⟩ := List.mem_map.1 h
    exact ⟨(mod_range _).1, (mod_range _).2⟩
theorem MerkleProofs : tourkeep1_MerkleProofs.Pure := by
  intro l0 a1 a2 _ _ _ _ _
  obtain ⟨k, hk, hb⟩ : ∃ k, 1000 ≤ k ∧ tourkeep1_merkleBegun.f (k + 1) = some true := ⟨1000, by omega, by decide +kernel⟩
  refine ⟨k + 1, ?_⟩
  obtain ⟨x, hx, x1, x2, wx⟩ := leaves_f l0 (k + 1) (by omega)
  unfold tourkeep1_MerkleProofs.f
  rw [hb, Option.bind_some, if_pos rfl, hx, Option.bind_some]
  have i0 : 0 ≤ a1 % (x.length : Int) := Int.emod_nonneg _ (by omega)
  have i1 : a1 % (x.length : Int) < x.length := Int.emod_lt_of_pos _ (by omega)
  rw [below_f a1 x.length (by omega) (by omega), Option.bind_some]
  obtain ⟨i, hi⟩ : ∃ i : Nat, a1 % (x.length : Int) = i := ⟨(a1 % (x.length : Int)).toNat, by omega⟩
  rw [hi] at i1 ⊢
  have hlt : i < x.length := by omega
  have r1 : rd x (i : Int) = x.getD i 0 := by unfold rd; rw [Int.toNat_natCast]
  have hnd := prl_need 6 x i x1 (by omega) hlt
  have hn6 := need_le 6 x.length i
  have htop : rd (lev (up 6 x).length x) 0 = climb 6 x i (x.getD i 0) := (climb_top 6 x i x1 (by omega) hlt).symm
  have wi : Word (x.getD i 0) := getD_word x i wx hlt
  have wo : Word (IntKind.u64.wrap a2) := by rw [IntKind.wrap_u64]; exact mod_range _
  rw [root_f x x1 (by omega) (k + 1) (by omega), Option.bind_some, proof_f x i x2 hlt k (by omega), Option.bind_some]
  dsimp only
  rw [if_pos rfl, if_pos rfl, htop, r1]
  generalize hv : x.getD i 0 = v at *
  have v1 : merkle_Verify.f (k + 1) (climb 6 x i v) (x.length : Int) (i : Int) v (prl (x :: up 6 x) i) = some true := by
    rw [verify_f _ _ _ _ x2 hlt, verify_loop _ 6 x i k v x1 (by omega) (by omega) hlt (by omega)]
    simp
  have v1' : ∀ u, Word u → u ≠ v → merkle_Verify.f k (climb 6 x i v) (x.length : Int) (i : Int) u (prl (x :: up 6 x) i) = some false := by
    intro u hu hne
    obtain ⟨k, rfl⟩ : ∃ m, k = m + 1 := ⟨k - 1, by omega⟩
    rw [verify_f _ _ _ _ x2 hlt, verify_loop _ 6 x i k u x1 (by omega) (by omega) hlt (by omega)]
    have : climb 6 x i u ≠ climb 6 x i v := fun e => hne (climb_inj 6 x i u v wx hu wi e)
    simp [this]
  have v2 : 0 < (prl (x :: up 6 x) i).length → merkle_Verify.f k (climb 6 x i v) (x.length : Int) (i : Int) v ((prl (x :: up 6 x) i).drop 1) = some false := by
    intro hp
    obtain ⟨k, rfl⟩ : ∃ m, k = m + 1 := ⟨k - 1, by omega⟩
    rw [verify_f _ _ _ _ x2 hlt]
    exact verify_short _ 6 _ _ _ _ _ (by omega) hlt (by omega) (by rw [List.length_drop]; omega)
  generalize prl (x :: up 6 x) i = p at *
  rw [if_neg (by omega), if_pos (by omega), if_pos (by omega), v1, Option.bind_some, tourkeep1_MerkleProofs.j0, if_neg (by decide), r1]
  by_cases hp : 0 < p.length
  · rw [if_pos (by omega), if_pos (by omega), if_pos (by omega), if_pos (by omega), v2 hp, Option.bind_some, if_neg (by decide)]
    by_cases ho : IntKind.u64.wrap a2 = v
    · rw [if_pos ho]
    · rw [if_neg ho, v1' _ wo ho]
      rfl
  · rw [if_neg (by omega), if_pos (by omega), if_pos (by omega)]
    by_cases ho : IntKind.u64.wrap a2 = v
    · rw [if_pos ho]
    · rw [if_neg ho, v1' _ wo ho]
      rfl

end Go.Proofs.Ytknmlikjmnhgkaa.Pure
