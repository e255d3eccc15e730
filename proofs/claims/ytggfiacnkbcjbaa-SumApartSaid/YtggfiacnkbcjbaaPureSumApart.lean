/- The plain statement of SumApart: for every input the law's printed function returns true. No condition. -/
import Derived.Test.YtggfiacnkbcjbaaPAllx5
import Derived.Test.YtggfiacnkbcjbaaQSum
namespace Go.Proofs.Ytggfiacnkbcjbaa.Pure
open Go Go.RowKit Go.Proofs.Ytggfiacnkbcjbaa.P Go.Proofs.Ytggfiacnkbcjbaa.QRnd Go.Proofs.YtggfiacnkbcjbaaW.PrintWords Go.Proofs.YtggfiacnkbcjbaaW.PrintLast Go.Proofs.YtggfiacnkbcjbaaW.PrintMore

theorem xor_one (c : Int) (h0 : 0 ≤ c) (h1 : c < 256) : Byte (Go.bits .xor .u8 c 1) ∧ Go.bits .xor .u8 c 1 ≠ c := by
  obtain ⟨n, rfl⟩ : ∃ n : Nat, c = n := ⟨c.toNat, by omega⟩
  rw [u8_xor _ _ (by omega) h1 (by omega) (by omega), Int.toNat_natCast, show (1 : Int).toNat = 1 from rfl]
  have h : n ^^^ 1 < 2 ^ 8 := Nat.xor_lt_two_pow (by omega) (by omega)
  refine ⟨⟨by omega, by omega⟩, fun e => ?_⟩
  have e2 : n ^^^ 1 = n := by omega
  have e3 : n ^^^ (n ^^^ 1) = n ^^^ n := by rw [e2]
  rw [← Nat.xor_assoc, Nat.xor_self, Nat.zero_xor] at e3
  omega
theorem end_f (k : Nat) (l m x y : List Int) (n a b : Int) (hl : l.length ≤ 1000) (hm : m.length ≤ 1000) (hx : x.length ≤ 1000) (hy : y.length ≤ 1000) (hbx : ∀ c ∈ x, Byte c) (hby : ∀ c ∈ y, Byte c) (ha : Word a) (hb : Word b) (hx0 : x ≠ []) (hk : 12000 ≤ k)
    (h1 : wordsI (l.map (· % 18446744073709551616)) ≠ wordsI (m.map (· % 18446744073709551616))) (h2 : bytesI x.length x (joinI 11170449401992604703 x.length) ≠ bytesI y.length y (joinI 11170449401992604703 y.length)) :
    tourkeep1_SumApart.j0 (k + 1) l n a b m x y = some true := by
  have hp : 0 < x.length := List.length_pos_iff.2 hx0
  have hn : tourkeep1_n64.f n = some (n % 18446744073709551616) := by unfold tourkeep1_n64.f; rw [IntKind.wrap_u64]
  rw [tourkeep1_SumApart.j0]
  rw [ints_f l hl k (by omega), Option.bind_some, ints_f m hm k (by omega), Option.bind_some, if_neg h1, if_neg (by omega), sbytes_f x hx hbx k (by omega), Option.bind_some, sbytes_f y hy hby k (by omega), Option.bind_some, if_neg h2]
  by_cases e : a = b
  · rw [if_pos e]
  · rw [if_neg e, hn, Option.bind_some, join_f, Option.bind_some, Option.bind_some, join_f, Option.bind_some, if_neg (fun h => e (join_left _ _ _ ha.1 ha.2 hb.1 hb.2 h)), Option.bind_some, join_f, Option.bind_some, Option.bind_some, join_f, Option.bind_some]
    have : joinI (n % 18446744073709551616) a ≠ joinI (n % 18446744073709551616) b := fun h => e (join_right _ _ _ ha.1 ha.2 hb.1 hb.2 h)
    simp [this]
theorem SumApart : tourkeep1_SumApart.Pure := by
  intro l0 a1 a2 a3 a4 _ _ _ _ _ w3 w4
  have wd : ∀ a : Int, (Lit.int .u64 a).wf = true → Word a := fun a h => by
    have e1 : IntKind.u64.min = 0 := by decide +kernel
    have e2 : IntKind.u64.max = 18446744073709551615 := by decide +kernel
    simp only [Lit.wf, Bool.and_eq_true, decide_eq_true_eq, e1, e2] at h
    exact ⟨h.1, by omega⟩
  have ha := wd a3 w3
  have hb := wd a4 w4
  refine ⟨20001, ?_⟩
  have b0 : ∃ x, sum_Words.f 20001 [] = some x ∧ ∃ y, sum_Bytes.f 20001 [] = some y ∧ x ≠ y := by
    refine ⟨_, words_f [] (by simp) _ (by simp), _, sbytes_f [] (by simp) (by simp) _ (by simp), fun h => ?_⟩
    have := join_left 5840696475078001361 11170449401992604703 _ (by omega) (by omega) (by omega) (by omega) h
    omega
  obtain ⟨x0, hx0, y0, hy0, hne⟩ := b0
  have em : (mn (l0.length : Int) 100).toNat = min l0.length 100 := by unfold mn; split <;> omega
  have m0 : 0 ≤ mn (l0.length : Int) 100 := by unfold mn; split <;> omega
  have m1 : mn (l0.length : Int) 100 ≤ (l0.length : Int) := by unfold mn; split <;> omega
  unfold tourkeep1_SumApart.f
  rw [hx0, Option.bind_some, hy0, Option.bind_some, if_neg hne, if_pos m0, if_pos m1, em]
  have ht : (l0.take (min l0.length 100)).length ≤ 100 := by rw [List.length_take]; omega
  generalize l0.take (min l0.length 100) = t at *
  have c1 : ∀ z : List Int, z.length ≤ 101 → slices_Clone_int_int.f z = some z := fun z hz => by unfold slices_Clone_int_int.f; rw [if_pos (by omega)]
  have c2 : ∀ z : List Int, z.length ≤ 101 → slices_Clone_byte_byte.f z = some z := fun z hz => by unfold slices_Clone_byte_byte.f; rw [if_pos (by omega)]
  have hz : (t ++ [a2]).length ≤ 101 ∧ 0 < (t ++ [a2]).length := by rw [List.length_append, List.length_singleton]; omega
  rw [c1 t (by omega), Option.bind_some, if_pos (by omega), Option.bind_some]
  generalize t ++ [a2] = z at *
  have i0 : 0 ≤ a1 % (z.length : Int) := Int.emod_nonneg _ (by omega)
  have i1 : a1 % (z.length : Int) < z.length := Int.emod_lt_of_pos _ (by omega)
  have hbl : ∀ i n : Int, 0 ≤ i → i < n → i % n = i := fun i n h0 h1 => Int.emod_eq_of_lt h0 h1
  rw [c1 z (by omega), Option.bind_some, below_f a1 z.length (by omega) (by omega), Option.bind_some, if_pos i0, if_pos i1, Option.bind_some, mbytes_f z (by omega) _ (by omega), Option.bind_some, c2 _ (by rw [List.length_map]; omega), Option.bind_some, if_pos (by rw [List.length_map]; omega), List.length_map, below_f _ _ (by omega) (by omega), Option.bind_some, hbl _ _ i0 i1, if_pos i0, if_pos i1]
  obtain ⟨i, hi⟩ : ∃ i : Nat, a1 % (z.length : Int) = i := ⟨(a1 % (z.length : Int)).toNat, by omega⟩
  rw [hi] at i1 ⊢
  rw [Int.toNat_natCast]
  have hlt : i < z.length := by omega
  have hwd : ∀ c ∈ z.map (· % 18446744073709551616), Word c := fun c hc => by
    obtain ⟨d, _, rfl⟩ := List.mem_map.1 hc
    exact ⟨by omega, by omega⟩
  have hby : ∀ c ∈ z.map (· % 256), Byte c := fun c hc => by
    obtain ⟨d, _, rfl⟩ := List.mem_map.1 hc
    exact ⟨by omega, by omega⟩
  have r1 : rd z (i : Int) = z[i] := by simp [rd, hlt]
  have r2 : rd (z.map (· % 256)) (i : Int) = z[i] % 256 := by simp [rd, hlt]
  have hx1 := xor_one (z[i] % 256) (by omega) (by omega)
  rw [r1, r2]
  refine end_f 20000 _ _ _ _ _ _ _ (by omega) (by rw [List.length_set]; omega) (by rw [List.length_map]; omega) (by rw [List.length_set, List.length_map]; omega) hby ?_ ha hb ?_ (by omega) ?_ ?_
  · intro c hc
    rcases List.mem_or_eq_of_mem_set hc with hc | rfl
    · exact hby c hc
    · exact hx1.1
  · intro e
    have := congrArg List.length e
    simp at this
    subst this
    simp at hlt
  · intro e
    unfold wordsI at e
    rw [List.map_set, List.length_set] at e
    refine fold_apart (z.map (· % 18446744073709551616)) i (wrap64 (z[i] + 1) % 18446744073709551616) _ hwd ⟨by omega, by omega⟩ (by simpa using hlt) ?_ e.symm
    rw [List.getElem_map]
    unfold wrap64
    omega
  · intro e
    rw [List.length_set] at e
    exact bytesI_apart _ (z.map (· % 256)) i _ _ (Nat.le_refl _) hby hx1.1 (by simpa using hlt) (by rw [List.getElem_map]; exact hx1.2) e.symm

end Go.Proofs.Ytggfiacnkbcjbaa.Pure
