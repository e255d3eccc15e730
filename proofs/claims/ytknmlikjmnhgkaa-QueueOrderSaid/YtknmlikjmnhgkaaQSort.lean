/- Package queue: Sort. Under way. No condition. -/
import Derived.Test.YtknmlikjmnhgkaaQPutQ
import Derived.Test.YtknmlikjmnhgkaaQTakeQ
import Derived.Test.YtknmlikjmnhgkaaQHeap2
namespace Go.Proofs.Ytknmlikjmnhgkaa.P
open Go.RowKit Go.Proofs.YtknmlikjmnhgkaaW.PrintWords Go.Proofs.YtknmlikjmnhgkaaW.PrintLast Go.Proofs.YtknmlikjmnhgkaaW.PrintMore
set_option linter.unusedVariables false
set_option linter.unusedSimpArgs false

theorem infoI3 : (Try.prog.info? 3).map (fun i => (i.zero, i.size, i.bytes)) = some (some (.int .i64 0), 1, 8) := by kernel_rfl
def fillQ (z : List Int) : Nat → List (It Int)
  | 0 => []
  | i + 1 => up (fillQ z i).length (fillQ z i ++ [((i : Int), rd z i, (i : Int))])
def drain : Nat → List (It Int) → List Int
  | 0, _ => []
  | k + 1, h => (at0 h 0).1 :: drain k (rest h)
def sortI (z : List Int) : List Int := drain z.length (fillQ z z.length)
def queue_Sort.f (l0 : List Int) : Option (List Int × Int) := if l0.length ≤ 4096 then some (sortI l0, 0) else none
/-- the items of a sort -/
structure Its (z : List Int) (n : Nat) (h : List (It Int)) : Prop where
  heap : Heap h
  pw : h.Pairwise (fun a b => a.2.2 ≠ b.2.2)
  mem : ∀ x ∈ h, x.2.2 = x.1 ∧ x.2.1 = rd z x.1 ∧ 0 ≤ x.1 ∧ x.1 < n
theorem fillQ_its (z : List Int) : ∀ i, Its z i (fillQ z i) ∧ (fillQ z i).length = i
  | 0 => ⟨⟨fun k _ hk => absurd hk (by simp [fillQ]), List.Pairwise.nil, fun x hx => absurd hx (by simp [fillQ])⟩, rfl⟩
  | i + 1 => by
    obtain ⟨H, hl⟩ := fillQ_its z i
    obtain ⟨q1, q2⟩ := put_heap H.heap ((i : Int), rd z i, (i : Int))
    refine ⟨⟨q1, (q2.pairwise_iff (fun h e => h e.symm)).2 (List.pairwise_cons.2 ⟨fun x hx => ?_, H.pw⟩), fun x hx => ?_⟩, ?_⟩
    · have := H.mem x hx
      show (i : Int) ≠ x.2.2
      omega
    · rcases List.mem_cons.1 (q2.mem_iff.1 hx) with rfl | hx
      · exact ⟨rfl, rfl, by show 0 ≤ (i : Int); omega, by show (i : Int) < ((i + 1 : Nat) : Int); omega⟩
      · have := H.mem x hx
        exact ⟨this.1, this.2.1, this.2.2.1, by omega⟩
    · show (up (fillQ z i).length (fillQ z i ++ [((i : Int), rd z i, (i : Int))])).length = i + 1
      rw [q2.length_eq, List.length_cons, hl]
theorem rest_length {h : List (It Int)} (H : Heap h) (hl : 0 < h.length) : (rest h).length + 1 = h.length := by
  rw [(take_heap H hl).2.1.length_eq, List.length_cons]
theorem Its.rest {z : List Int} {n : Nat} {h : List (It Int)} (H : Its z n h) (hl : 0 < h.length) : Its z n (rest h) := by
  obtain ⟨q1, q2, q3⟩ := take_heap H.heap hl
  exact ⟨q1, (List.pairwise_cons.1 ((q2.pairwise_iff (fun h e => h e.symm)).1 H.pw)).2, fun x hx => H.mem x (q2.mem_iff.2 (List.mem_cons_of_mem _ hx))⟩
/-- by the number, then by the place -/
def Ord (z : List Int) (a b : Int) : Prop := rd z a < rd z b ∨ (rd z a = rd z b ∧ a < b)
theorem drain_spec {z : List Int} {n : Nat} : ∀ (k : Nat) (h : List (It Int)), h.length = k → Its z n h → (drain k h).length = k ∧ (∀ y ∈ drain k h, ∃ x ∈ h, x.1 = y) ∧ (drain k h).Pairwise (Ord z)
  | 0, h, _, _ => ⟨rfl, fun y hy => absurd hy (by simp [drain]), List.Pairwise.nil⟩
  | k + 1, h, hl, H => by
    obtain ⟨q1, q2, q3⟩ := take_heap H.heap (by omega)
    have hr := rest_length H.heap (by omega)
    obtain ⟨d1, d2, d3⟩ := drain_spec k (P.rest h) (by omega) (H.rest (by omega))
    have hpw := List.pairwise_cons.1 ((q2.pairwise_iff (fun h e => h e.symm)).1 H.pw)
    have m0 := H.mem _ (q2.mem_iff.2 (List.mem_cons_self ..))
    refine ⟨by show (drain k (P.rest h)).length + 1 = k + 1; rw [d1], fun y hy => ?_, ?_⟩
    · rcases List.mem_cons.1 hy with rfl | hy
      · exact ⟨_, q2.mem_iff.2 (List.mem_cons_self ..), rfl⟩
      · obtain ⟨x, hx, e⟩ := d2 y hy
        exact ⟨x, q2.mem_iff.2 (List.mem_cons_of_mem _ hx), e⟩
    · refine List.pairwise_cons.2 ⟨fun y hy => ?_, d3⟩
      obtain ⟨x, hx, rfl⟩ := d2 y hy
      have m1 := H.mem x (q2.mem_iff.2 (List.mem_cons_of_mem _ hx))
      have h1 := (ltI_not _ _).1 (q3 x hx)
      have h2 := hpw.1 x hx
      unfold Ord
      rw [m0.2.1, m1.2.1, m0.1, m1.1] at h1
      rw [m0.1, m1.1] at h2
      omega
/-- What Sort gives: all places, by number and place. -/
theorem sortI_spec (z : List Int) : (sortI z).length = z.length ∧ (∀ y ∈ sortI z, 0 ≤ y ∧ y < z.length) ∧ (sortI z).Pairwise (Ord z) := by
  obtain ⟨H, hl⟩ := fillQ_its z z.length
  obtain ⟨d1, d2, d3⟩ := drain_spec z.length _ hl H
  refine ⟨d1, fun y hy => ?_, d3⟩
  obtain ⟨x, hx, rfl⟩ := d2 y hy
  exact (H.mem x hx).2.2
/-- a row of whole numbers, over a call that leaves all but the queue's rows alone -/
theorem keep3 {w w' : World} {base g : Nat} {v : Value} {xs : List Int} (h : Kd.R (Kd.int .i64) 3 w base (fun _ => True) v xs) {cs : Array Value} (hg : w.heap[g]? = some (.cells cs 27 (0, 0)))
    (hk : ∀ k cells t, w.heap[k]? = some (.cells cells t (0, 0)) → t ≠ 84 → k ≠ g → w'.heap[k]? = w.heap[k]?) : Kd.R (Kd.int .i64) 3 w' base (fun _ => True) v xs := by
  refine Kd.R_mono (Kd.R_step (Kd.R_types (Kd.R_bound h) hg (by decide)) (fun k hk' hlt => ?_)) (fun _ _ => trivial)
  obtain ⟨⟨_, _, _, q, hq, cells, hc⟩, hne⟩ := hk'
  have hq : q = 3 := by simpa [Kd.int, Kd.scalar] using hq
  subst hq
  exact hk k cells 3 hc (by decide) hne
theorem IsQ.grown {w0 W W1 : World} {g e : Nat} {l : List (It Int)} {n : Int} (h : IsQ w0 W g l n) {v : Value} {xs : List Int} {base : Nat} {ok : Nat → Prop} (hR : Kd.R (Kd.int .i64) e W base ok v xs) (h1 : e ≠ 27) (h2 : 84 ≠ e) (hg : W.grownBy W1 v.ownBlock) : IsQ w0 W1 g l n := by
  obtain ⟨u, b1, b2, b3⟩ := h
  exact ⟨u, blk_grown b1 hg (Kd.R_ne hR b1 h1), b2, Kd.R_mono (Kd.R_grown (Kd.R_apartR b3 hR (by intro q hq; have : q = 84 := (by simpa [itK, Kd.pair, Kd.int, Kd.scalar] using hq); rw [this]; exact h2)) hg (fun k hk => hk.2)) (fun _ _ => trivial)⟩
theorem IsQ.below' {w0 W W' : World} {g : Nat} {l : List (It Int)} {n : Int} (h : IsQ w0 W g l n) (hb : Below W.heap.size W W') : IsQ w0 W' g l n := by
  obtain ⟨v, h1, h2, h3⟩ := h
  exact ⟨v, (hb.block g (blk_lt h1)).trans h1, h2, Kd.R_below h3 hb⟩
theorem IsQ.new' (w : World) : IsQ w (w.alloc (.cells #[.slice none 0 0, .int .i64 0] 27)) w.heap.size [] 0 :=
  ⟨_, Array.getElem?_push_size, Nat.le_refl _, Kd.R_nil itK 84 _ _ _⟩
set_option maxHeartbeats 4000000 in
set_option maxRecDepth 100000 in
theorem queue_Sort.calls (A0 : Option Addr) (c0 : Nat) (l0 : List Int) (r1 : List Int) (r2 : Int) (w : World) (hr0 : Kd.C (Kd.int .i64) w A0 l0.length l0) (hc0 : l0.length ≤ c0) (h : queue_Sort.f l0 = some (r1, r2)) :
    Calls Try.prog 34 #[.slice A0 l0.length c0] w fun e w' => ∃ v0_ : Value, e = .returned (.tuple #[v0_, .int .i64 r2]) ∧ Kd.R (Kd.int .i64) 3 w' w.heap.size (fun _ => True) v0_ r1 ∧ Below w.heap.size w w' := by
  unfold queue_Sort.f at h
  split at h
  case isFalse => cases h
  rename_i hl
  simp only [Option.some.injEq, Prod.mk.injEq] at h
  obtain ⟨rfl, rfl⟩ := h
  have HR0 := Aside0.mk hr0
  have f0 : decide ((4096 : Int) < (l0.length : Int)) = false := decide_eq_false (by omega)
  clear hr0 hc0
  go_enter Try.func34, Try.ntmps34
  go_wp2_with (fail)
  have HN := Aside0.mk (IsQ.new' w)
  have BN := Aside0.mk (below_alloc (Below.refl w.heap.size w) (.cells #[.slice none 0 0, .int .i64 0] 27))
  obtain ⟨w3, hw3⟩ : ∃ W, w.alloc (.cells #[.slice none 0 0, .int .i64 0] 27) = W := ⟨_, rfl⟩
  rw [hw3] at HN BN
  simp only [hw3]
  obtain ⟨g, hg⟩ : ∃ g, w.heap.size = g := ⟨_, rfl⟩
  rw [hg] at HN
  simp only [hg]
  clear hw3 hg f0
  go_loopg [16] l0.length (fun kq v16 w' => ∃ (i : Nat), v16 = .int .i64 (i : Int) ∧ Aside0 (kq = l0.length - i ∧ i ≤ l0.length) ∧ Aside0 (IsQ w w' g (fillQ l0 i) i ∧ Below w.heap.size w w'))
  case atStart => exact ⟨0, rfl, ⟨rfl, by omega⟩, ⟨HN.out, BN.out⟩⟩
  case round =>
    obtain ⟨i, rfl, HI, HS⟩ := hrel
    have hi1 := HI.out.2
    by_cases hi : i < l0.length
    · have c2 : (i : Int) < (l0.length : Int) := by omega
      have c3 : (0 : Int) ≤ (i : Int) := by omega
      obtain ⟨ad, rfl, hx⟩ := Kd.at_int HR0.out (i : Int) c3 c2
      replace hx := (HS.out.2.cell (World.block_lt_of_cell? w _ hx)).trans hx
      rw [Int.toNat_natCast] at hx
      have e1 : IntKind.i64.wrap ((i : Int) + 1) = (i : Int) + 1 := by rw [IntKind.wrap_i64]; omega
      go_wp2_with (fail)
      refine (Q_put wr w g (fillQ l0 i) i _ i HS.out.1 HS.out.2 (by rw [(fillQ_its l0 i).2]; omega) (by omega)).mono ?_
      rintro e w5 ⟨rfl, Q5, B5⟩
      have Q5 := Aside0.mk Q5
      have B5 := Aside0.mk B5
      clear hx
      go_wp2_with (fail)
      go_roundg (l0.length - (i + 1))
      case measure => have := HI.out.1; omega
      case rel => exact ⟨i + 1, congrArg (Value.int .i64) (by omega), ⟨rfl, by omega⟩, ⟨by have := Q5.out; rwa [show ((i : Int) + 1) = ((i + 1 : Nat) : Int) from by omega] at this, B5.out⟩⟩
    · obtain rfl : i = l0.length := by omega
      have c3 : decide ((l0.length : Int) < (l0.length : Int)) = false := decide_eq_false (by omega)
      go_wp2_with (fail)
      obtain ⟨FI, fl⟩ := fillQ_its l0 l0.length
      go_loopg [7] l0.length (fun kq v7 w' => ∃ (vo : Value) (out : List Int) (h : List (It Int)), v7 = vo ∧ Aside0 (kq = h.length ∧ out ++ drain h.length h = sortI l0 ∧ out.length + h.length ≤ 4096 ∧ Its l0 l0.length h) ∧ Aside0 (Kd.R (Kd.int .i64) 3 w' w.heap.size (fun _ => True) vo out ∧ IsQ w w' g h l0.length ∧ Below w.heap.size w w'))
      case atStart => exact ⟨_, [], fillQ l0 l0.length, rfl, ⟨by rw [fl], by rw [List.nil_append, fl]; rfl, by rw [fl]; simpa using hl, FI⟩, ⟨Kd.R_nil _ _ _ _ _, HS.out⟩⟩
      case round =>
        clear FI fl c3
        obtain ⟨vo, out, h, rfl, HH, HO⟩ := hrel
        go_wp2_with (fail)
        refine (Q_len wr w g h _ HO.out.2.1).mono ?_
        rintro e w4 ⟨rfl, rfl⟩
        by_cases hl0 : h.length = 0
        · obtain rfl := List.eq_nil_of_length_eq_zero hl0
          rw [show (([] : List (It Int)).length : Int) = 0 from rfl]
          go_wp2
          go_ret2
          refine ⟨_, rfl, ?_, HO.out.2.2⟩
          have := HH.out.2.1
          rw [show drain ([] : List (It Int)).length [] = [] from rfl, List.append_nil] at this
          rw [← this]
          exact HO.out.1
        · have hl1 : 0 < h.length := by omega
          have c5 : (0 : Int) < (h.length : Int) := by omega
          obtain ⟨m, hm⟩ : ∃ m, h.length = m + 1 := ⟨h.length - 1, by omega⟩
          go_wp2_with (fail)
          refine (Q_takeK wr w g h _ m HO.out.2.1 HO.out.2.2 hm (by have := HH.out.2.2.1; omega)).mono ?_
          rintro e w6 ⟨rfl, Q6, B6, K6⟩
          rw [show down 0 m ((h.set 0 (at0 h m)).take m) = rest h from by unfold rest; rw [hm, Nat.add_sub_cancel]] at Q6
          have O6 := Aside0.mk (keep3 HO.out.1 (show ∃ cs, wr.heap[g]? = some (.cells cs 27 (0, 0)) from ⟨_, HO.out.2.1.choose_spec.1⟩).choose_spec K6)
          have Q6 := Aside0.mk Q6
          have B6 := Aside0.mk B6
          have HL6 := Aside0.mk (show out.length < 4096 from by have := HH.out.2.2.1; omega)
          have HD6 := Aside0.mk (show (out ++ [(at0 h 0).1]) ++ drain (rest h).length (rest h) = sortI l0 from by
            rw [← HH.out.2.1, List.append_assoc, show h.length = (rest h).length + 1 from (rest_length HH.out.2.2.2.heap hl1).symm]
            rfl)
          obtain ⟨p1, hp1⟩ : ∃ x, (at0 h 0).1 = x := ⟨_, rfl⟩
          rw [hp1] at HD6 ⊢
          obtain ⟨p2, hp2⟩ : ∃ x, (at0 h 0).2.1 = x := ⟨_, rfl⟩
          rw [hp2]
          clear K6 hp1 hp2
          go_wp2_with (((with_reducible refine gate_builtin (b := .append) (xs := #[.tmp 32, .tmp 34]) rfl ?_); at_builtin; refine Kd.R_append (Kd.int .i64) (w0 := w) w.heap.size rfl (.tmp 32) (.tmp 34) 22 3 (.int .i64 0) 8 rfl Try.underlying22 infoI3 rfl (by decide) (by omega) u7 out p1 [.int .i64 p1] (fun _ => True) (fun _ => False) rfl rfl ?aP (fun _ hk => hk.elim) ?aF ?aO ?aB ?aS ?aL ?_; (case aP => exact rfl); (case aF => exact (fun _ _ => trivial)); (case aO => exact O6.out); (case aB => exact B6.out); (case aS => exact below_size B6.out); (case aL => have := HL6.out; omega); intro v8 w7 ho hb hg hat; have o1 := Aside0.mk ho; have q1 := Aside0.mk (Q6.out.grown O6.out (by decide) (by decide) hg); have b1 := Aside0.mk hb; clear ho hb hg hat))
          go_roundg (rest h).length
          case measure => have := HH.out.1; have := rest_length HH.out.2.2.2.heap hl1; omega
          case rel =>
            exact ⟨_, out ++ [p1], rest h, rfl, ⟨rfl, HD6.out, by have := rest_length HH.out.2.2.2.heap hl1; have := HH.out.2.2.1; rw [List.length_append]; simp; omega, HH.out.2.2.2.rest hl1⟩, ⟨o1.out, q1.out, b1.out⟩⟩
end Go.Proofs.Ytknmlikjmnhgkaa.P
