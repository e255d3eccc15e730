/- The plain statement of MerkleFinds: for every input the law's printed function returns true. No condition. -/
import Derived.Test.YtknmlikjmnhgkaaPAllx7
import Derived.Test.YtknmlikjmnhgkaaPAllx5
import Derived.Test.YtknmlikjmnhgkaaQMerkle
namespace Go.Proofs.Ytknmlikjmnhgkaa.Pure
open Go Go.RowKit Go.Proofs.Ytknmlikjmnhgkaa.P Go.Proofs.Ytknmlikjmnhgkaa.QRnd Go.Proofs.YtknmlikjmnhgkaaW.PrintWords Go.Proofs.YtknmlikjmnhgkaaW.PrintLast Go.Proofs.YtknmlikjmnhgkaaW.PrintMore

theorem leaves_loop (t : List Int) (ht : t.length ≤ 59) (d : Nat) : ∀ (k i : Nat) (acc : List Int), i + d = t.length → acc.length ≤ i + 1 → d < k → tourkeep1_leaves.l0 k acc t (t.length : Int) (i : Int) = some (acc ++ (t.drop i).map (· % 18446744073709551616)) := by
  induction d with
  | zero =>
    intro k i acc h1 _ hk
    obtain ⟨k, rfl⟩ : ∃ m, k = m + 1 := ⟨k - 1, by omega⟩
    rw [tourkeep1_leaves.l0, if_neg (by omega), List.drop_eq_nil_of_le (by omega)]
    simp
  | succ d ih =>
    intro k i acc h1 h2 hk
    obtain ⟨k, rfl⟩ : ∃ m, k = m + 1 := ⟨k - 1, by omega⟩
    have hlt : i < t.length := by omega
    have r1 : rd t (i : Int) = t[i] := by unfold rd; rw [Int.toNat_natCast, List.getD_eq_getElem?_getD, List.getElem?_eq_getElem hlt]; rfl
    have hs : wrap64 ((i : Int) + 1) = ((i + 1 : Nat) : Int) := by rw [wrap64_in _ (by omega) (by omega)]; omega
    rw [tourkeep1_leaves.l0, if_pos (by omega), if_pos (by omega), if_pos (by omega), if_pos (by omega), r1, IntKind.wrap_u64, hs, ih k (i + 1) _ (by omega) (by simp; omega) (by omega), List.drop_eq_getElem_cons hlt, List.map_cons, List.append_assoc, List.singleton_append]
theorem leaves_f (l : List Int) (k : Nat) (hk : 100 ≤ k) : ∃ x, tourkeep1_leaves.f k l = some x ∧ 1 ≤ x.length ∧ x.length ≤ 60 ∧ Words x := by
  have em : (mn (l.length : Int) 59).toNat = min l.length 59 := by unfold mn; split <;> omega
  have m0 : 0 ≤ mn (l.length : Int) 59 := by unfold mn; split <;> omega
  have m1 : mn (l.length : Int) 59 ≤ (l.length : Int) := by unfold mn; split <;> omega
  have ht : (l.take (min l.length 59)).length ≤ 59 := by rw [List.length_take]; omega
  unfold tourkeep1_leaves.f
  rw [if_pos m0, if_pos m1, em]
  generalize l.take (min l.length 59) = t at *
  rw [show (0 : Int) = ((0 : Nat) : Int) from rfl, leaves_loop t ht t.length k 0 _ (by omega) (by simp) (by omega)]
  refine ⟨_, rfl, by simp, by simp; omega, fun x hx => ?_⟩
  rcases List.mem_append.1 hx with h | h
  · rw [List.mem_singleton.1 h, IntKind.wrap_u64]
    exact ⟨(mod_range _).1, (mod_range _).2⟩
  · obtain ⟨y, _, rfl⟩ := List.mem_map.1 h
    exact ⟨(mod_range _).1, (mod_range _).2⟩
theorem narrow_f (x y : List Int) (k : Nat) (hk : 400 ≤ k) (h1 : 1 ≤ x.length) (h2 : x.length ≤ 60) (hxy : x.length = y.length) :
    merkle_Narrow.f (k + 1) x y = if rd (lev (up 6 x).length x) 0 = rd (lev (up 6 x).length y) 0 then some (-1, 1) else merkle_Narrow.l0 k (x :: up 6 x) (y :: up 6 y) 0 1 (((up 6 x).length : Int) - 1) := by
  have mxe : mx (x.length : Int) (y.length : Int) = x.length := by unfold mx; split <;> omega
  have hu := up_le 6 x
  have huy := up_length 6 x y hxy
  have tx := top_one x h1 (by omega)
  have ty := top_one y (by omega) (by omega)
  rw [← huy] at ty
  have lx : ((x :: up 6 x).length : Int) = ((up 6 x).length : Int) + 1 := by simp
  have ly : ((y :: up 6 y).length : Int) = ((up 6 x).length : Int) + 1 := by simp [huy]
  have gx : rd_L1 (x :: up 6 x) ((up 6 x).length : Int) = lev (up 6 x).length x := tree_get x _ (Nat.le_refl _)
  have gy : rd_L1 (y :: up 6 y) ((up 6 x).length : Int) = lev (up 6 x).length y := tree_get y _ (by omega)
  have e1 : wrap64 (((up 6 x).length : Int) + 1 - 1) = ((up 6 x).length : Int) := by rw [wrap64_in _ (by omega) (by omega)]; omega
  have e2 : wrap64 (((up 6 x).length : Int) - 1) = ((up 6 x).length : Int) - 1 := wrap64_in _ (by omega) (by omega)
  have ed : decide ((x.length : Int) > 4096) = false := decide_eq_false (by omega)
  unfold merkle_Narrow.f
  rw [mxe, if_neg (by omega), ed, merkle_Narrow.j0, if_neg (by decide), filled_f x y (by omega) hxy k (by omega), Option.bind_some, levels_f x (by omega) k hk, Option.bind_some, filled_f y x (by omega) hxy.symm k (by omega), Option.bind_some, levels_f y (by omega) k hk, Option.bind_some,
    lx, e1, ly, gx, gy, tx, ty, e2, if_pos (by omega), if_pos (by omega), if_pos (by omega), if_pos (by omega), if_pos (by omega)]
theorem MerkleFinds : tourkeep1_MerkleFinds.Pure := by
  intro l0 a1 a2 _ _ _ _ _
  obtain ⟨k, hk, hb⟩ : ∃ k, 1000 ≤ k ∧ tourkeep1_merkleBegun.f (k + 1) = some true := ⟨1000, by omega, by decide +kernel⟩
  refine ⟨k + 1, ?_⟩
  obtain ⟨x, hx, x1, x2, wx⟩ := leaves_f l0 (k + 1) (by omega)
  have c1 : slices_Clone_uint64_uint64.f x = some x := by unfold slices_Clone_uint64_uint64.f; rw [if_pos (by omega)]
  unfold tourkeep1_MerkleFinds.f
  rw [hb, Option.bind_some, if_pos rfl, hx, Option.bind_some, c1, Option.bind_some]
  have i0 : 0 ≤ a1 % (x.length : Int) := Int.emod_nonneg _ (by omega)
  have i1 : a1 % (x.length : Int) < x.length := Int.emod_lt_of_pos _ (by omega)
  have j0 : 0 ≤ a2 % 1152921504606846976 := Int.emod_nonneg _ (by omega)
  have j1 : a2 % 1152921504606846976 < 1152921504606846976 := Int.emod_lt_of_pos _ (by omega)
  rw [below_f a1 x.length (by omega) (by omega), Option.bind_some, if_pos i0, if_pos i1, below_f a2 1152921504606846976 (by omega) (by omega), Option.bind_some, Option.bind_some]
  obtain ⟨i, hi⟩ : ∃ i : Nat, a1 % (x.length : Int) = i := ⟨(a1 % (x.length : Int)).toNat, by omega⟩
  rw [hi] at i1 ⊢
  rw [Int.toNat_natCast]
  have hlt : i < x.length := by omega
  have r1 : rd x (i : Int) = x[i] := by unfold rd; rw [Int.toNat_natCast, List.getD_eq_getElem?_getD, List.getElem?_eq_getElem hlt]; rfl
  have wi := wx _ (List.getElem_mem hlt)
  rw [r1, IntKind.wrap_u64, IntKind.wrap_u64, IntKind.wrap_u64]
  obtain ⟨v, hv, hv0, hv1, hne⟩ : ∃ v : Int, v = (x[i] + (1 + a2 % 1152921504606846976 % 18446744073709551616) % 18446744073709551616) % 18446744073709551616 ∧ 0 ≤ v ∧ v < 18446744073709551616 ∧ v ≠ x[i] := by
    unfold Word at wi
    exact ⟨_, rfl, by omega, by omega, by omega⟩
  rw [← hv]
  have hd : Diff x (x.set i v) i := by
    refine ⟨by simp, hlt, fun t ht => ?_, ?_⟩
    · rw [List.getElem?_set_ne (by omega)]
    · rw [List.getElem?_set_self hlt, List.getElem?_eq_getElem hlt]
      intro e
      exact hne (Option.some.inj e).symm
  have wy : Words (x.set i v) := fun z hz => by
    rcases List.mem_or_eq_of_mem_set hz with h | rfl
    · exact wx z h
    · exact ⟨hv0, hv1⟩
  have ylen : (x.set i v).length = x.length := by simp
  generalize x.set i v = y at *
  have hu := up_le 6 x
  have huy := up_length 6 x y hd.len
  have tx := top_one x x1 (by omega)
  have htop := lev_diff (up 6 x).length hd wx wy
  have hj : i / 2 ^ (up 6 x).length = 0 := Nat.lt_one_iff.1 (by rw [← tx]; exact htop.lt)
  rw [hj] at htop
  have hroot : rd (lev (up 6 x).length x) 0 ≠ rd (lev (up 6 x).length y) 0 := by
    have hn := htop.ne
    have hl := htop.len
    intro e
    apply hn
    have a1 : 0 < (lev (up 6 x).length x).length := by omega
    have a2 : 0 < (lev (up 6 x).length y).length := by omega
    rw [List.getElem?_eq_getElem a1, List.getElem?_eq_getElem a2]
    unfold rd at e
    rw [show (0 : Int).toNat = 0 from rfl, List.getD_eq_getElem?_getD, List.getD_eq_getElem?_getD, List.getElem?_eq_getElem a1, List.getElem?_eq_getElem a2] at e
    exact congrArg some e
  obtain ⟨c, hf, c0, c1'⟩ := find_loop x y i (by omega) hd wx wy (up 6 x).length k 1 (Nat.le_refl _) (by omega) (by omega) (by omega)
  rw [hj] at hf
  rw [narrow_f x y k (by omega) x1 x2 hd.len, if_neg hroot]
  rw [show ((0 : Nat) : Int) = 0 from rfl] at hf
  rw [hf, Option.bind_some, root_f x x1 (by omega) (k + 1) (by omega), Option.bind_some, root_f y (by omega) (by omega) (k + 1) (by omega), Option.bind_some, narrow_f x x k (by omega) x1 x2 rfl, if_pos rfl, Option.bind_some]
  dsimp only
  rw [← huy, if_pos rfl, if_pos (by omega), if_pos (by omega), if_pos rfl, if_pos rfl, if_neg hroot, if_pos rfl]
  rfl

end Go.Proofs.Ytknmlikjmnhgkaa.Pure
