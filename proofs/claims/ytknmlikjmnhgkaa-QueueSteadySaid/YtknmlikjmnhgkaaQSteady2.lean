/- QueueSteady: the walk. No condition. -/
import Derived.Test.YtknmlikjmnhgkaaQSteady
namespace Go.Proofs.Ytknmlikjmnhgkaa.P
open Go.RowKit Go.Proofs.YtknmlikjmnhgkaaW.PrintWords Go.Proofs.YtknmlikjmnhgkaaW.PrintLast Go.Proofs.YtknmlikjmnhgkaaW.PrintMore
set_option linter.unusedVariables false
set_option linter.unusedSimpArgs false

set_option maxHeartbeats 4000000 in
set_option maxRecDepth 100000 in
theorem QueueSteady.calls (A0 : Option Addr) (c0 : Nat) (l0 : List Int) (a1 : Int) (w : World) (hr0 : Kd.C (Kd.int .i64) w A0 l0.length l0) (hc0 : l0.length ≤ c0) (hm0 : l0.length ≤ 17592186044416) :
    Calls Try.prog 3 #[.slice A0 l0.length c0, .int .i64 a1] w fun e w' => e = .returned (.bool true) ∧ Below w.heap.size w w' := by
  have HR0 := Aside0.mk hr0
  obtain ⟨jm, hjm⟩ : ∃ j : Nat, j = min 300 l0.length := ⟨_, rfl⟩
  have hji : (if 300 < (l0.length : Int) then 300 else (l0.length : Int)) = (jm : Int) := by split <;> omega
  have hj0 : (0 : Int) ≤ (jm : Int) := by omega
  have hj1 : (jm : Int) ≤ (l0.length : Int) := by omega
  have hj2 : jm ≤ 300 := by omega
  have hj3 : jm ≤ l0.length := by omega
  clear hr0 hjm
  go_enter Try.func3, Try.ntmps3
  go_wp2_with (fail)
  refine (queueBegun.calls w).mono ?_
  rintro e w1 ⟨rfl, B1⟩
  have B1 := Aside0.mk B1
  go_wp2_with (fail)
  refine (tourmake_Below.calls _ _ _ _ (bel_f a1 ((jm : Int) + 1) (by omega) (by omega))).mono ?_
  rintro e w2 ⟨rfl, D2⟩
  obtain ⟨cut, hcut⟩ : ∃ c, bel a1 ((jm : Int) + 1) = c := ⟨_, rfl⟩
  rw [hcut]
  have B2 := Aside0.mk (B1.out.trans (D2.below.mono B1.out.size))
  have HZ := Aside0.mk (Kd.C_take HR0.out hj3)
  obtain ⟨z, hz⟩ : ∃ z, l0.take jm = z := ⟨_, rfl⟩
  have hzl : z.length = jm := by rw [← hz, List.length_take]; omega
  rw [hz, hzl] at HZ
  clear D2 hji hcut
  go_wp2_with (fail)
  have HRD := Aside0.mk (show ∀ v : Int, 0 ≤ v → v < (jm : Int) → ∃ ad, A0 = some ad ∧ ∀ W, Below w2.heap.size w2 W → W.cell? (ad.add v.toNat) = some (.int .i64 (rd z v)) from fun v h0 h1 => by
    obtain ⟨ad, e, hx⟩ := Kd.at_int HZ.out v h0 h1
    have hx2 := (B2.out.cell (World.block_lt_of_cell? w _ hx)).trans hx
    exact ⟨ad, e, fun W hW => (hW.cell (World.block_lt_of_cell? w2 _ hx2)).trans hx2⟩)
  have HN := Aside0.mk (IsQ.new w2)
  have BN := Aside0.mk (below_alloc (Below.refl w2.heap.size w2) (.cells #[.slice none 0 0, .int .i64 0] 27))
  obtain ⟨g, hg⟩ : ∃ g, w2.heap.size = g := ⟨_, rfl⟩
  obtain ⟨w3, hw3⟩ : ∃ W, w2.alloc (.cells #[.slice none 0 0, .int .i64 0] 27) = W := ⟨_, rfl⟩
  rw [hw3] at HN BN
  simp only [hw3]
  rw [hg] at HN ⊢
  clear hw3
  go_loopg [36] jm (fun kq v36 w' => ∃ (i : Nat) (h : List (It Int)) (n : Int), v36 = .int .i64 (i : Int) ∧ Aside0 (kq = jm - i ∧ i ≤ jm ∧ Inv z ((i : Int) ≤ cut) i n h) ∧ Aside0 (IsQ w2 w' g h n ∧ Below w2.heap.size w2 w'))
  case atStart => exact ⟨0, [], 0, rfl, ⟨rfl, by omega, ⟨fun k _ hk => absurd hk (by simp), rfl, List.Pairwise.nil, fun x hx => absurd hx (by simp), fun _ x hx => absurd hx (by simp), by omega⟩⟩, ⟨HN.out, BN.out⟩⟩
  case round =>
    obtain ⟨i, h, n, rfl, HI, HS⟩ := hrel
    have hnn := HI.out.2.2.n0
    by_cases hi : i < jm
    · have c2 : (i : Int) < (jm : Int) := by omega
      have c3 : (0 : Int) ≤ (i : Int) := by omega
      obtain ⟨ad, rfl, hx⟩ := HRD.out (i : Int) c3 c2
      have hx := hx wr HS.out.2
      rw [Int.toNat_natCast] at hx
      go_wp2_with (fail)
      refine (tourmake_Below.calls _ _ _ _ (bel_f (rd z i) 9 (by omega) (by omega))).mono ?_
      rintro e w4 ⟨rfl, D4⟩
      have B4 := Aside0.mk (HS.out.2.trans (D4.below.mono HS.out.2.size))
      have Q4 := Aside0.mk (HS.out.1.below D4.below)
      clear D4 hx
      go_wp2_with (fail)
      refine (Q_put w4 w2 g h n _ i Q4.out B4.out (by rw [HI.out.2.2.len]; omega) (by omega)).mono ?_
      rintro e w5 ⟨rfl, Q5, B5⟩
      have Q5 := Aside0.mk Q5
      have B5 := Aside0.mk B5
      have I5 := Aside0.mk HI.out.2.2.put
      obtain ⟨h5, hh5⟩ : ∃ x, up h.length (h ++ [((i : Int), bel (rd z i) 9, n)]) = x := ⟨_, rfl⟩
      rw [hh5] at Q5 I5
      clear hh5
      have e1 : IntKind.i64.wrap ((i : Int) + 1) = (i : Int) + 1 := by rw [IntKind.wrap_i64]; omega
      by_cases hc : (i : Int) = cut
      · have hcb : ((i : Int) == cut) = true := by simpa using hc
        go_wp2_with (fail)
        refine (Q_take w5 w2 g h5 _ i Q5.out B5.out I5.out.len (by omega)).mono ?_
        rintro e w6 ⟨rfl, Q6, B6⟩
        rw [show down 0 i ((h5.set 0 (at0 h5 i)).take i) = rest h5 from by unfold rest; rw [I5.out.len, Nat.add_sub_cancel]] at Q6
        have Q6 := Aside0.mk Q6
        have B6 := Aside0.mk B6
        have AG := I5.out.again (by omega) (by omega)
        obtain ⟨p1, hp1⟩ : ∃ x, (at0 h5 0).1 = x := ⟨_, rfl⟩
        obtain ⟨p2, hp2⟩ : ∃ x, (at0 h5 0).2.1 = x := ⟨_, rfl⟩
        rw [hp1, hp2] at AG
        rw [hp1, hp2]
        obtain ⟨g0, g1, rfl, g3, IG⟩ := AG
        have IG := Aside0.mk IG
        have d1 : decide (p1 < 0) = false := decide_eq_false (by omega)
        have d2 : decide ((i : Int) < p1) = false := decide_eq_false (by omega)
        have d3 : p1 < (jm : Int) := by omega
        obtain ⟨ad', ead, hx⟩ := HRD.out p1 g0 d3
        cases ead
        have hx := hx w6 B6.out
        clear hp1 hp2
        go_wp2_with (fail)
        refine (tourmake_Below.calls _ _ _ _ (bel_f (rd z p1) 9 (by omega) (by omega))).mono ?_
        rintro e w7 ⟨rfl, D7⟩
        have B7 := Aside0.mk (B6.out.trans (D7.below.mono B6.out.size))
        have Q7 := Aside0.mk (Q6.out.below D7.below)
        clear D7 hx
        go_wp2_with (fail)
        refine (Q_put w7 w2 g (rest h5) (n + 1) 9 p1 Q7.out B7.out (by omega) (by omega)).mono ?_
        rintro e w8 ⟨rfl, Q8, B8⟩
        have Q8 := Aside0.mk Q8
        have B8 := Aside0.mk B8
        go_wp2_with (fail)
        go_roundg (jm - (i + 1))
        case measure => have := HI.out.1; omega
        case rel =>
          exact ⟨i + 1, _, n + 2, congrArg (Value.int .i64) (by omega), ⟨rfl, by omega, IG.out.weak (fun hh => by omega)⟩, ⟨by have := Q8.out; rwa [show n + 1 + 1 = n + 2 from by omega] at this, B8.out⟩⟩
      · have hcb : ((i : Int) == cut) = false := by simpa using hc
        go_wp2_with (fail)
        go_roundg (jm - (i + 1))
        case measure => have := HI.out.1; omega
        case rel =>
          exact ⟨i + 1, h5, n + 1, by rw [show ((i + 1 : Nat) : Int) = (i : Int) + 1 from by omega], ⟨rfl, by omega, I5.out.weak (by omega)⟩, ⟨Q5.out, B5.out⟩⟩
    · have c2 : ¬ ((i : Int) < (jm : Int)) := by omega
      have c3 : decide ((i : Int) < (jm : Int)) = false := decide_eq_false c2
      have I2 := Aside0.mk HI.out.2.2.two
      have hl2 : h.length ≤ 300 := by have := HI.out.2.1; rw [HI.out.2.2.len]; omega
      go_wp2_with (fail)
      go_loopg [11, 12] h.length (fun kq v11 v12 w' => ∃ (last rank : Int) (h2 : List (It Int)), v11 = .int .i64 last ∧ v12 = .int .i64 rank ∧ Aside0 (kq = h2.length ∧ h2.length ≤ 300 ∧ Inv2 last rank h2) ∧ Aside0 (IsQ w2 w' g h2 n ∧ Below w2.heap.size w2 w'))
      case atStart => exact ⟨-1, -1, h, rfl, rfl, ⟨rfl, hl2, I2.out⟩, HS⟩
      case round =>
        clear c2 c3 I2 hl2
        obtain ⟨last, rank, h2, rfl, rfl, H2, S2⟩ := hrel
        go_wp2_with (fail)
        refine (Q_len wr w2 g h2 n S2.out.1).mono ?_
        rintro e w4 ⟨rfl, rfl⟩
        by_cases hl : h2.length = 0
        · obtain rfl := List.eq_nil_of_length_eq_zero hl
          rw [show (([] : List (It Int)).length : Int) = 0 from rfl]
          go_wp2_with (fail)
          refine (Q_take0 wr w2 g n S2.out.1).mono ?_
          rintro e w5 ⟨rfl, rfl⟩
          go_wp2
          go_ret
          exact ⟨rfl, B2.out.trans (S2.out.2.mono B2.out.size)⟩
        · have hl0 : 0 < h2.length := by omega
          have c5 : (0 : Int) < (h2.length : Int) := by omega
          obtain ⟨m, hm⟩ : ∃ m, h2.length = m + 1 := ⟨h2.length - 1, by omega⟩
          go_wp2_with (fail)
          refine (Q_first wr w2 g h2 n S2.out.1).mono ?_
          rintro e w5 ⟨rfl, BB5⟩
          rw [if_neg hl]
          have T2 := H2.out.2.2.take hl0
          rw [show h2.getD 0 (default, 0, 0) = at0 h2 0 from rfl]
          obtain ⟨p1, hp1⟩ : ∃ x, (at0 h2 0).1 = x := ⟨_, rfl⟩
          obtain ⟨p2, hp2⟩ : ∃ x, (at0 h2 0).2.1 = x := ⟨_, rfl⟩
          rw [hp1, hp2] at T2
          rw [hp1, hp2]
          obtain ⟨t1, I6, t3⟩ := T2
          have I6 := Aside0.mk I6
          have HP := Aside0.mk (And.intro hp1 hp2)
          clear hp1 hp2
          have Q5 := Aside0.mk (S2.out.1.below BB5)
          have B5 := Aside0.mk (S2.out.2.trans (BB5.mono S2.out.2.size))
          clear BB5
          go_wp2_with (fail)
          refine (Q_take w5 w2 g h2 n m Q5.out B5.out hm (by have := H2.out.2.1; omega)).mono ?_
          rintro e w6 ⟨rfl, Q6, B6⟩
          rw [show down 0 m ((h2.set 0 (at0 h2 m)).take m) = rest h2 from by unfold rest; rw [hm, Nat.add_sub_cancel]] at Q6
          have Q6 := Aside0.mk Q6
          have B6 := Aside0.mk B6
          rw [HP.out.1, HP.out.2]
          have d1 : decide (p2 < rank) = false := decide_eq_false (by omega)
          by_cases he : p2 = rank
          · have d2 : (p2 == rank) = true := by simpa using he
            have d3 : decide (p1 ≤ last) = false := decide_eq_false (by omega)
            go_wp2_with (fail)
            go_roundg (rest h2).length
            case measure => have := H2.out.1; omega
            case rel => exact ⟨p1, p2, rest h2, rfl, by rw [he], ⟨rfl, by have := H2.out.2.1; omega, I6.out⟩, ⟨Q6.out, B6.out⟩⟩
          · have d2 : (p2 == rank) = false := by simpa using he
            go_wp2_with (fail)
            go_roundg (rest h2).length
            case measure => have := H2.out.1; omega
            case rel => exact ⟨p1, p2, rest h2, rfl, rfl, ⟨rfl, by have := H2.out.2.1; omega, I6.out⟩, ⟨Q6.out, B6.out⟩⟩
theorem tourkeep1_QueueSteady.walk (a0 : Option Addr) (len0 cap0 : Nat) (z0 : List Int) (a1 : Int) (w : World) (w0 : (a0 = none ∧ len0 = 0 ∧ cap0 = 0 ∧ z0 = []) ∨ ∃ x, a0 = some x ∧ len0 ≤ cap0 ∧ cap0 ≤ maxLen ∧ z0.length = cap0 ∧ (∀ i, i < z0.length → w.cell? (x.add i) = some (.int .i64 (z0.getD i 0))) ∧ ∀ n ∈ z0, (Lit.int .i64 n).wf = true) (y0 : len0 * 8 ≤ 140737488351232) :
    Calls Try.prog 3 #[.slice a0 len0 cap0, .int .i64 a1] w fun e w' => e = .returned (.bool true) ∧ Below w.heap.size w w' := by
  obtain ⟨l0, rfl, hr0, hm0, hw0, hc0⟩ := ReadsInt.ofRowC w0
  exact QueueSteady.calls _ _ l0 a1 w (Kd.C_of_reads (d := (0 : Int)) (h1 := fun _ => rfl) hr0) hc0 (by omega)
end Go.Proofs.Ytknmlikjmnhgkaa.P
