/- QueueSteady: the walk. Under way. No condition. -/
import Derived.Deep.RegionHeld3
import Derived.Test.YtknmlikjmnhgkaaPAllx1
import Derived.Test.YtknmlikjmnhgkaaQFirst
import Derived.Test.YtknmlikjmnhgkaaQPutQ
import Derived.Test.YtknmlikjmnhgkaaQPutQS
import Derived.Test.YtknmlikjmnhgkaaQTakeQ
import Derived.Test.YtknmlikjmnhgkaaQTakeQS
import Derived.Test.YtknmlikjmnhgkaaQHeap2
namespace Go.Proofs.Ytknmlikjmnhgkaa.P
open Go.RowKit Go.Proofs.YtknmlikjmnhgkaaW.PrintWords Go.Proofs.YtknmlikjmnhgkaaW.PrintLast Go.Proofs.YtknmlikjmnhgkaaW.PrintMore
set_option linter.unusedVariables false
set_option linter.unusedSimpArgs false

theorem IsQ.new (w : World) : IsQ w (w.alloc (.cells #[.slice none 0 0, .int .i64 0] 27)) w.heap.size [] 0 :=
  ⟨_, Array.getElem?_push_size, Nat.le_refl _, Kd.R_nil itK 84 _ _ _⟩
theorem S.IsQ.new (w : World) : S.IsQ w (w.alloc (.cells #[.slice none 0 0, .int .i64 0] 78)) w.heap.size [] 0 :=
  ⟨_, Array.getElem?_push_size, Nat.le_refl _, Kd.R_nil S.itK 98 _ _ _⟩
set_option maxHeartbeats 4000000 in
set_option maxRecDepth 100000 in
theorem queueBegun.calls (w : World) : Calls Try.prog 11 #[] w fun e w' => e = .returned (.bool true) ∧ Below w.heap.size w w' := by
  go_enter Try.func11, Try.ntmps11
  go_wp2_with (fail)
  have HN := S.IsQ.new w
  have HB := below_alloc (Below.refl w.heap.size w) (.cells #[.slice none 0 0, .int .i64 0] 78)
  refine (S.Q_put _ w w.heap.size [] 0 2 ⟨#[98]⟩ HN HB (by decide) (by omega)).mono ?_
  rintro e w1 ⟨rfl, H1, B1⟩
  have e1 : up 0 (([] : List (It ByteArray)) ++ [(⟨#[98]⟩, 2, 0)]) = [(⟨#[98]⟩, 2, 0)] := up_stop 0 _ (by simp)
  have H1 : S.IsQ w w1 w.heap.size [(⟨#[98]⟩, 2, 0)] 1 := e1 ▸ H1
  have H1 := Aside0.mk H1
  have B1 := Aside0.mk B1
  clear HN HB
  go_wp2_with (fail)
  refine (S.Q_put _ w w.heap.size _ 1 1 ⟨#[97]⟩ H1.out B1.out (by decide) (by omega)).mono ?_
  rintro e w2 ⟨rfl, H2, B2⟩
  have e2 : up 1 ([((⟨#[98]⟩ : ByteArray), (2 : Int), (0 : Int))] ++ [(⟨#[97]⟩, 1, 1)]) = [(⟨#[97]⟩, 1, 1), (⟨#[98]⟩, 2, 0)] := by
    rw [up_step 1 _ (by omega) rfl, up_stop 0 _ (by simp)]
    rfl
  have H2 : S.IsQ w w2 w.heap.size [(⟨#[97]⟩, 1, 1), (⟨#[98]⟩, 2, 0)] 2 := e2 ▸ H2
  have H2 := Aside0.mk H2
  have B2 := Aside0.mk B2
  go_wp2_with (fail)
  refine (S.Q_take _ w w.heap.size _ 2 1 H2.out B2.out rfl (by omega)).mono ?_
  rintro e w3 ⟨rfl, H3, B3⟩
  have H3 : S.IsQ w w3 w.heap.size [(⟨#[98]⟩, 2, 0)] 2 := by
    rw [down_stop 0 1 _ (by have := kid_gt 0 1 (([((⟨#[97]⟩ : ByteArray), (1 : Int), (1 : Int)), (⟨#[98]⟩, 2, 0)].set 0 (at0 [((⟨#[97]⟩ : ByteArray), (1 : Int), (1 : Int)), (⟨#[98]⟩, 2, 0)] 1)).take 1); omega)] at H3
    exact H3
  have H3 := Aside0.mk H3
  have B3 := Aside0.mk B3
  rw [show at0 [((⟨#[97]⟩ : ByteArray), (1 : Int), (1 : Int)), (⟨#[98]⟩, 2, 0)] 0 = (⟨#[97]⟩, 1, 1) from rfl]
  have hs : ((⟨#[97]⟩ : ByteArray).toList == [97]) = true := by decide +kernel
  go_wp2_with (fail)
  refine (S.Q_len _ w w.heap.size _ 2 H3.out).mono ?_
  rintro e w4 ⟨rfl, rfl⟩
  go_wp2
  go_ret
  exact ⟨rfl, B3.out⟩
theorem IsQ.below {w0 W W' : World} {g : Nat} {l : List (It Int)} {n : Int} (h : IsQ w0 W g l n) (hb : Below W.heap.size W W') : IsQ w0 W' g l n := by
  obtain ⟨v, h1, h2, h3⟩ := h
  exact ⟨v, (hb.block g (blk_lt h1)).trans h1, h2, Kd.R_below h3 hb⟩
def bel (x n : Int) : Int := if Int.tmod x n < 0 then Int.tmod x n + n else Int.tmod x n
theorem bel_range (x n : Int) (hn : 0 < n) : 0 ≤ bel x n ∧ bel x n < n := by
  have h1 : Int.tmod x n < n := Int.tmod_lt_of_pos x hn
  have h2 : -n < Int.tmod x n := by
    have := Int.tmod_lt_of_pos (-x) hn
    rw [Int.neg_tmod] at this
    omega
  unfold bel
  split <;> omega
theorem bel_f (x n : Int) (hn : 0 < n) (hm : n < 4611686018427387904) : tourmake_Below.f x n = some (bel x n) := by
  have h2 : -n < Int.tmod x n := by
    have := Int.tmod_lt_of_pos (-x) hn
    rw [Int.neg_tmod] at this
    omega
  have h1 : Int.tmod x n < n := Int.tmod_lt_of_pos x hn
  unfold tourmake_Below.f bel
  rw [if_neg (by omega)]
  split
  · rw [show wrap64 (Int.tmod x n + n) = Int.tmod x n + n from by unfold wrap64; omega]
  · rfl
/-- two items: other values, other times; of one number: in the order in which they came -/
def Rl (a b : It Int) : Prop := a.2.2 ≠ b.2.2 ∧ a.1 ≠ b.1 ∧ (a.2.1 = b.2.1 → (a.2.2 < b.2.2 ↔ a.1 < b.1))
theorem Rl_symm {a b : It Int} (h : Rl a b) : Rl b a := by
  obtain ⟨h1, h2, h3⟩ := h
  refine ⟨fun e => h1 e.symm, fun e => h2 e.symm, fun e => ?_⟩
  have := h3 e.symm
  omega
theorem pw_perm {l l' : List (It Int)} (h : l.Pairwise Rl) (p : l.Perm l') : l'.Pairwise Rl := (p.pairwise_iff (fun h => Rl_symm h)).1 h
structure Inv (z : List Int) (ph : Prop) (i : Nat) (n : Int) (h : List (It Int)) : Prop where
  heap : Heap h
  len : h.length = i
  pw : h.Pairwise Rl
  mem : ∀ x ∈ h, 0 ≤ x.1 ∧ x.1 < i ∧ x.2.2 < n ∧ 0 ≤ x.2.1 ∧ x.2.1 ≤ 9
  old : ph → ∀ x ∈ h, x.2.1 = bel (rd z x.1) 9
  n0 : 0 ≤ n ∧ n ≤ 2 * i
theorem Inv.weak {z : List Int} {ph ph' : Prop} {i : Nat} {n : Int} {h : List (It Int)} (H : Inv z ph i n h) (hp : ph' → ph) : Inv z ph' i n h := ⟨H.heap, H.len, H.pw, H.mem, fun q => H.old (hp q), H.n0⟩
theorem Inv.put {z : List Int} {ph : Prop} {i : Nat} {n : Int} {h : List (It Int)} (H : Inv z ph i n h) : Inv z ph (i + 1) (n + 1) (up h.length (h ++ [((i : Int), bel (rd z i) 9, n)])) := by
  obtain ⟨q1, q2⟩ := put_heap H.heap ((i : Int), bel (rd z i) 9, n)
  have hr := bel_range (rd z i) 9 (by omega)
  refine ⟨q1, by rw [q2.length_eq, List.length_cons, H.len], pw_perm (List.pairwise_cons.2 ⟨fun x hx => ?_, H.pw⟩) q2.symm, fun x hx => ?_, fun hp x hx => ?_, by have := H.n0; omega⟩
  · have := H.mem x hx
    refine ⟨?_, ?_, fun _ => ?_⟩
    · show n ≠ x.2.2
      omega
    · show (i : Int) ≠ x.1
      omega
    · show n < x.2.2 ↔ (i : Int) < x.1
      omega
  · rcases List.mem_cons.1 (q2.mem_iff.1 hx) with rfl | hx
    · refine ⟨?_, ?_, ?_, ?_, ?_⟩
      · show 0 ≤ (i : Int); omega
      · show (i : Int) < ((i + 1 : Nat) : Int); omega
      · show n < n + 1; omega
      · exact hr.1
      · have := hr.2
        show bel (rd z i) 9 ≤ 9
        omega
    · have := H.mem x hx
      omega
  · rcases List.mem_cons.1 (q2.mem_iff.1 hx) with rfl | hx
    · rfl
    · exact H.old hp x hx
theorem Inv.again {z : List Int} {i : Nat} {n : Int} {h : List (It Int)} {m : Int} (H : Inv z (i ≤ m) (i + 1) (n + 1) h) (him : (i : Int) ≤ m) (hn : n ≤ 2 * i) :
    0 ≤ (at0 h 0).1 ∧ (at0 h 0).1 ≤ i ∧ (at0 h 0).2.1 = bel (rd z (at0 h 0).1) 9 ∧ (rest h).length = i ∧ Inv z False (i + 1) (n + 2) (up (rest h).length (rest h ++ [((at0 h 0).1, 9, n + 1)])) := by
  obtain ⟨q1, q2, q3⟩ := take_heap H.heap (by rw [H.len]; omega)
  have hm0 : at0 h 0 ∈ h := q2.mem_iff.2 (List.mem_cons_self ..)
  have hmem := H.mem _ hm0
  have hl : (rest h).length = i := by
    have := q2.length_eq
    rw [H.len, List.length_cons] at this
    omega
  have hpw := List.pairwise_cons.1 (pw_perm H.pw q2)
  obtain ⟨p1, p2⟩ := put_heap q1 ((at0 h 0).1, 9, n + 1)
  have hin : ∀ x ∈ rest h, x ∈ h := fun x hx => q2.mem_iff.2 (List.mem_cons_of_mem _ hx)
  refine ⟨hmem.1, by omega, H.old him _ hm0, hl, p1, by rw [p2.length_eq, List.length_cons, hl], pw_perm (List.pairwise_cons.2 ⟨fun x hx => ?_, hpw.2⟩) p2.symm, fun x hx => ?_, fun hp => hp.elim, by have := H.n0; omega⟩
  · have h1 := H.mem x (hin x hx)
    have h2 := H.old him x (hin x hx)
    have h3 := bel_range (rd z x.1) 9 (by omega)
    refine ⟨?_, (hpw.1 x hx).2.1, fun e => ?_⟩
    · show n + 1 ≠ x.2.2
      omega
    · have e : 9 = x.2.1 := e
      omega
  · rcases List.mem_cons.1 (p2.mem_iff.1 hx) with rfl | hx
    · refine ⟨hmem.1, hmem.2.1, ?_, ?_, ?_⟩
      · show n + 1 < n + 2; omega
      · show (0 : Int) ≤ 9; omega
      · show (9 : Int) ≤ 9; omega
    · have := H.mem x (hin x hx)
      omega
structure Inv2 (last rank : Int) (h : List (It Int)) : Prop where
  heap : Heap h
  pw : h.Pairwise Rl
  after : ∀ x ∈ h, rank < x.2.1 ∨ (rank = x.2.1 ∧ last < x.1)
theorem Inv2.take {last rank : Int} {h : List (It Int)} (H : Inv2 last rank h) (hl : 0 < h.length) :
    (rank < (at0 h 0).2.1 ∨ (rank = (at0 h 0).2.1 ∧ last < (at0 h 0).1)) ∧ Inv2 (at0 h 0).1 (at0 h 0).2.1 (rest h) ∧ (rest h).length + 1 = h.length := by
  obtain ⟨q1, q2, q3⟩ := take_heap H.heap hl
  have hm0 : at0 h 0 ∈ h := q2.mem_iff.2 (List.mem_cons_self ..)
  have hpw := List.pairwise_cons.1 (pw_perm H.pw q2)
  refine ⟨H.after _ hm0, ⟨q1, hpw.2, fun x hx => ?_⟩, by rw [q2.length_eq, List.length_cons]⟩
  have h1 := (ltI_not _ _).1 (q3 x hx)
  obtain ⟨h2, h3, h4⟩ := hpw.1 x hx
  by_cases e : (at0 h 0).2.1 = x.2.1
  · have := h4 e
    omega
  · omega
theorem Inv.two {z : List Int} {ph : Prop} {i : Nat} {n : Int} {h : List (It Int)} (H : Inv z ph i n h) : Inv2 (-1) (-1) h := ⟨H.heap, H.pw, fun x hx => by have := H.mem x hx; omega⟩
end Go.Proofs.Ytknmlikjmnhgkaa.P
