/- SlotsOld: the walk. No condition. -/
import Derived.Test.YtknmlikjmnhgkaaPAllx3
import Derived.Test.YtknmlikjmnhgkaaQFree
import Derived.Test.YtknmlikjmnhgkaaQSlotsB
import Derived.Test.YtknmlikjmnhgkaaQBel
import Derived.Test.YtknmlikjmnhgkaaQListT
namespace Go.Proofs.Ytknmlikjmnhgkaa.P
open Go.RowKit Go.Shelf Go.Proofs.YtknmlikjmnhgkaaW.PrintWords Go.Proofs.YtknmlikjmnhgkaaW.PrintLast Go.Proofs.YtknmlikjmnhgkaaW.PrintMore Go.Proofs.Ytknmlikjmnhgkaa.Pure
set_option linter.unusedVariables false
set_option linter.unusedSimpArgs false

theorem keep64 {w w' : World} {base g : Nat} {v : Value} {xs : List S64} (h : Kd.R k64 64 w base (fun _ => True) v xs) (hF : Fr w w' g) {cs : Array Value} (hg : w.heap[g]? = some (.cells cs 94 (0, 0))) : Kd.R k64 64 w' base (fun _ => True) v xs := by
  refine Kd.R_mono (Kd.R_step (Kd.R_types (Kd.R_bound h) hg (by intro q hq; have : q = 64 := (by simpa [k64, Kd.iso, Kd.pair, Kd.int, Kd.scalar] using hq); rw [this]; decide)) (fun k hk' hlt => ?_)) (fun _ _ => trivial)
  obtain ⟨⟨_, _, _, q, hq, cells, hc⟩, hne⟩ := hk'
  have hq : q = 64 := by simpa [k64, Kd.iso, Kd.pair, Kd.int, Kd.scalar] using hq
  subst hq
  exact hF.same k cells 64 hc (by decide) hne
theorem IsT.blk94 {w0 W : World} {g : Nat} {gens used free : List Int} (h : IsT w0 W g gens used free) : ∃ cs, W.heap[g]? = some (.cells cs 94 (0, 0)) := by
  obtain ⟨_, _, _, h1, _⟩ := h
  exact ⟨_, h1⟩
theorem IsT.grown64 {w0 W W1 : World} {g base : Nat} {ok : Nat → Prop} {gens used free : List Int} {v : Value} {xs : List S64} (h : IsT w0 W g gens used free) (hR : Kd.R k64 64 W base ok v xs) (hg : W.grownBy W1 v.ownBlock) : IsT w0 W1 g gens used free := by
  obtain ⟨vg, vu, vf, b1, b2, b3, b4, b5⟩ := h
  exact ⟨vg, vu, vf, blk_grown b1 hg (Kd.R_ne hR b1 (by decide)), b2, Kd.R_mono (Kd.R_grown (Kd.R_apartR b3 hR (by intro q hq; have : q = 3 := (by simpa [Kd.int, Kd.scalar] using hq); rw [this]; decide)) hg (fun k hk => hk.2)) (fun _ _ => trivial), Kd.R_mono (Kd.R_grown (Kd.R_apartR b4 hR (by intro q hq; have : q = 37 := (by simpa [Kd.int, Kd.scalar] using hq); rw [this]; decide)) hg (fun k hk => hk.2)) (fun _ _ => trivial), Kd.R_mono (Kd.R_grown (Kd.R_apartR b5 hR (by intro q hq; have : q = 37 := (by simpa [Kd.int, Kd.scalar] using hq); rw [this]; decide)) hg (fun k hk => hk.2)) (fun _ _ => trivial)⟩
theorem contains_f {l : List S64} {N gen : Int} (hl : l.length ≤ 4096) (h : ∀ e ∈ l, e.f0 ≠ N) (k : Nat) (hk : 5000 ≤ k) : api_Ent_42.f k l N gen = some false := by
  have key : ∀ (d i k : Nat), i + d = l.length → d < k → api_Ent_63.l0 k l (l.length : Int) (i : Int) N gen = some (-1) := by
    intro d
    induction d with
    | zero =>
      intro i k h1 h2
      obtain ⟨k, rfl⟩ : ∃ q, k = q + 1 := ⟨k - 1, by omega⟩
      rw [api_Ent_63.l0, if_neg (by omega)]
    | succ d ih =>
      intro i k h1 h2
      obtain ⟨k, rfl⟩ : ∃ q, k = q + 1 := ⟨k - 1, by omega⟩
      have he : (rd_T64 l i).f0 ≠ N := by
        unfold rd_T64
        rw [Int.toNat_natCast, List.getD_eq_getElem?_getD, List.getElem?_eq_getElem (by omega)]
        exact h _ (List.getElem_mem (by omega))
      have hb : (N == (rd_T64 l i).f0 && gen == (rd_T64 l i).f1) = false := by
        have : (N == (rd_T64 l i).f0) = false := by simpa using fun e => he e.symm
        rw [this, Bool.false_and]
      rw [api_Ent_63.l0, if_pos (by omega), if_pos (by omega), if_pos (by omega), hb, if_neg (by decide), show wrap64 ((i : Int) + 1) = ((i + 1 : Nat) : Int) from by unfold wrap64; omega]
      exact ih (i + 1) k (by omega) (by omega)
  unfold api_Ent_42.f api_Ent_63.f
  have := key l.length 0 k (by omega) (by omega)
  rw [show ((0 : Nat) : Int) = 0 from rfl] at this
  rw [this]
  rfl
theorem list_item {gens used : List Int} {p : Int} (h0 : 0 ≤ p) (h1 : p < ((listF gens used).length : Int)) (hu : ∀ x ∈ elems 0 used, 0 ≤ x ∧ x < gens.length) : ∃ n : Nat, rd_T64 (listF gens used) p = ⟨n, rd gens n⟩ ∧ (n : Int) ∈ elems 0 used := by
  have hl : p.toNat < (listF gens used).length := by omega
  have hl2 : p.toNat < (elems 0 used).length := by unfold listF at hl; rwa [List.length_map] at hl
  have e : rd_T64 (listF gens used) p = ⟨(elems 0 used)[p.toNat], rd gens (elems 0 used)[p.toNat]⟩ := by
    unfold rd_T64 listF
    rw [List.getD_eq_getElem?_getD, List.getElem?_map, List.getElem?_eq_getElem hl2]
    rfl
  have hm := List.getElem_mem hl2
  have := (hu _ hm).1
  refine ⟨((elems 0 used)[p.toNat]).toNat, ?_, ?_⟩
  · rw [e, Int.toNat_of_nonneg this]
  · rw [Int.toNat_of_nonneg this]; exact hm
set_option maxHeartbeats 4000000 in
set_option maxRecDepth 100000 in
theorem SlotsOld.calls (A0 : Option Addr) (c0 : Nat) (l0 : List Int) (w : World) (hr0 : Kd.C (Kd.int .i64) w A0 l0.length l0) (hc0 : l0.length ≤ c0) (hm0 : l0.length ≤ 17592186044416) :
    Calls Try.prog 8 #[.slice A0 l0.length c0] w fun e w' => e = .returned (.bool true) ∧ Below w.heap.size w w' := by
  have HR0 := Aside0.mk hr0
  obtain ⟨jm, hjm⟩ : ∃ j : Nat, j = min 200 l0.length := ⟨_, rfl⟩
  have hji : (if 200 < (l0.length : Int) then 200 else (l0.length : Int)) = (jm : Int) := by split <;> omega
  have hj0 : (0 : Int) ≤ (jm : Int) := by omega
  have hj1 : (jm : Int) ≤ (l0.length : Int) := by omega
  have hj2 : jm ≤ 200 := by omega
  have hj3 : jm ≤ l0.length := by omega
  clear hr0 hjm
  go_enter Try.func8, Try.ntmps8
  go_wp2_with (fail)
  refine (slotsBegun.calls w).mono ?_
  rintro e w1 ⟨rfl, B1⟩
  have B1 := Aside0.mk B1
  go_wp2_with (fail)
  refine (T_new w1 w1 (Below.refl _ _)).mono ?_
  rintro e w2 ⟨g, rfl, hT, hg, hb⟩
  have HT2 := Aside0.mk hT
  have HB2 := Aside0.mk hb
  have HG := Aside0.mk hg
  have HZ := Aside0.mk (Kd.C_take HR0.out hj3)
  obtain ⟨z, hz⟩ : ∃ z, l0.take jm = z := ⟨_, rfl⟩
  have hzl : z.length = jm := by rw [← hz, List.length_take]; omega
  rw [hz, hzl] at HZ
  have HRD := Aside0.mk (show ∀ v : Int, 0 ≤ v → v < (jm : Int) → ∃ ad, A0 = some ad ∧ ∀ W, Below w1.heap.size w1 W → W.cell? (ad.add v.toNat) = some (.int .i64 (rd z v)) from fun v h0 h1 => by
    obtain ⟨ad, e, hx⟩ := Kd.at_int HZ.out v h0 h1
    have hx2 := (B1.out.cell (World.block_lt_of_cell? w _ hx)).trans hx
    exact ⟨ad, e, fun W hW => (hW.cell (World.block_lt_of_cell? w1 _ hx2)).trans hx2⟩)
  clear hT hb hg hz
  go_wp2_with (fail)
  clear hji
  go_loopg [4, 22] jm (fun kq v4 v22 w' => ∃ (vo : Value) (i : Nat) (gens used free : List Int) (old : List S64), v4 = vo ∧ v22 = .int .i64 (i : Int) ∧ Aside0 (kq = jm - i ∧ i ≤ jm ∧ SI i gens used free old) ∧ Aside0 (IsT w1 w' g gens used free ∧ Kd.R k64 64 w' w1.heap.size (fun _ => True) vo old ∧ Below w1.heap.size w1 w'))
  case atStart => exact ⟨_, 0, [], [], [], [], rfl, rfl, ⟨rfl, by omega, SI.start⟩, ⟨HT2.out, Kd.R_nil _ _ _ _ _, HB2.out⟩⟩
  case round =>
    obtain ⟨vo, i, gens, used, free, old, rfl, rfl, HI, HS⟩ := hrel
    by_cases hi : i < jm
    · have c2 : (i : Int) < (jm : Int) := by omega
      have c3 : (0 : Int) ≤ (i : Int) := by omega
      obtain ⟨ad, rfl, hx⟩ := HRD.out (i : Int) c3 c2
      have hx := hx wr HS.out.2.2
      rw [Int.toNat_natCast] at hx
      have hi200 : i < 200 := by omega
      go_wp2_with (fail)
      refine (T_list wr w1 g gens used free HS.out.1 HS.out.2.2 HI.out.2.2.gu HI.out.2.2.us).mono ?_
      rintro e w3 ⟨vall, rfl, hRA, hb3⟩
      obtain ⟨Aa, ca, rfl⟩ := Kd.R_slice hRA
      have HT3 := Aside0.mk (HS.out.1.below hb3)
      have HO3 := Aside0.mk (Kd.R_below HS.out.2.1 hb3)
      have HB3 := Aside0.mk (HS.out.2.2.trans (hb3.mono HS.out.2.2.size))
      have HA3 := Aside0.mk (Kd.R_lower hRA HS.out.2.2.size)
      have HLA := Aside0.mk (show (listF gens used).length ≤ 4096 from by unfold listF; rw [List.length_map]; have := elems_length used 0 HI.out.2.2.gu.words; have := HI.out.2.2.gu.len; omega)
      have HLI := Aside0.mk (fun (p : Int) h0 h1 => list_item (gens := gens) (used := used) (p := p) h0 h1 HI.out.2.2.us)
      have HLN := Aside0.mk (show ∀ e ∈ listF gens used, e.f0 ∈ elems 0 used from by
        intro e he
        unfold listF at he
        obtain ⟨x, hx, rfl⟩ := List.mem_map.1 he
        exact hx)
      obtain ⟨L, hL⟩ : ∃ L, listF gens used = L := ⟨_, rfl⟩
      rw [hL] at HA3 HLA HLI HLN ⊢
      clear hRA hb3 hx hL
      go_upto_region 9 with (fail)
      go_cut [35] (fun v35 wc => v35 = .bool (decide (Int.tmod (rd z i) 3 = 0 ∧ 0 < L.length)) ∧ wc = w3)
      case first =>
        by_cases h3 : Int.tmod (rd z i) 3 = 0
        · have d1 : (Int.tmod (rd z i) 3 == 0) = true := by simp [h3]
          by_cases h4 : 0 < L.length
          · have d2 : (0 : Int) < (L.length : Int) := by omega
            go_wp2
            go_meet
            case rel => exact ⟨by simp [h3, h4], rfl⟩
          · have d2 : ¬ ((0 : Int) < (L.length : Int)) := by omega
            go_wp2
            go_meet
            case rel => exact ⟨by rw [decide_eq_false (fun hh => h4 hh.2)], rfl⟩
        · have d1 : (Int.tmod (rd z i) 3 == 0) = false := by simp [h3]
          go_wp2
          go_meet
          case rel => exact ⟨by simp [h3], rfl⟩
      case rest =>
        obtain ⟨rfl, rfl⟩ := hcut
        by_cases hA : Int.tmod (rd z i) 3 = 0 ∧ 0 < L.length
        · have d1 : (Int.tmod (rd z i) 3 == 0) = true := by simp [hA.1]
          have d2 : (0 : Int) < (L.length : Int) := by omega
          have d3 : 0 < L.length := hA.2
          rw [decide_eq_true hA]
          go_wp2_with (fail)
          refine (tourmake_Below.calls _ _ _ _ (bel_f _ (L.length : Int) (by omega) (by have := HLA.out; omega))).mono ?_
          rintro e w4 ⟨rfl, ⟨nd, rfl⟩⟩
          have hpr := bel_range (wrap64 (Int.tdiv (rd z i) 3)) (L.length : Int) d2
          obtain ⟨p, hp⟩ : ∃ p, bel (wrap64 (Int.tdiv (rd z i) 3)) (L.length : Int) = p := ⟨_, rfl⟩
          rw [hp] at hpr ⊢
          obtain ⟨n, hit, hmem⟩ := HLI.out p hpr.1 hpr.2
          obtain ⟨ad2, e2, x0, x1⟩ := at_T64 (Kd.R_reads' HA3.out).2.2 p hpr.1 hpr.2
          subst e2
          rw [hit] at x0 x1
          have x0 : (wc.drewN nd).cell? (ad2.add (p.toNat * 2)) = some (.int .i64 (n : Int)) := x0
          have x1 : (wc.drewN nd).cell? ⟨(ad2.add (p.toNat * 2)).block, (ad2.add (p.toNat * 2)).off + 1, none⟩ = some (.int .i64 (rd gens n)) := x1
          have p0 : (0 : Int) ≤ p := hpr.1
          have p1 : p < (L.length : Int) := hpr.2
          obtain ⟨f1, f2, f3, f4, f5, f6, f7⟩ := HI.out.2.2.free (by omega) n hmem
          have F := Aside0.mk (And.intro f1 (And.intro f2 (And.intro f3 (And.intro f4 (And.intro f5 (And.intro f6 f7))))))
          have HT4 := Aside0.mk (HT3.out.below (pw_below_drewN (Below.refl _ _) nd))
          have HO4 := Aside0.mk (Kd.R_drewN HO3.out nd)
          have HB4 := Aside0.mk (pw_below_drewN HB3.out nd)
          obtain ⟨w4, hw4⟩ : ∃ W, wc.drewN nd = W := ⟨_, rfl⟩
          rw [hw4] at x0 x1 HT4 HO4 HB4 ⊢
          clear hw4 hp hpr hit hmem f1 f2 f3 f4 f5 f6 f7 hA
          go_wp2_with (fail)
          have b5 := below_alloc (Below.refl w4.heap.size w4) (.cells #[.int .i64 n, .int .i64 (rd gens n)] 64)
          have hE5 : (w4.alloc (.cells #[.int .i64 n, .int .i64 (rd gens n)] 64)).heap[w4.heap.size]? = some (.cells #[.int .i64 n, .int .i64 (rd gens n)] 64 (0, 0)) := Array.getElem?_push_size
          obtain ⟨w5, hw5⟩ : ∃ W, w4.alloc (.cells #[.int .i64 n, .int .i64 (rd gens n)] 64) = W := ⟨_, rfl⟩
          rw [hw5] at b5 hE5 ⊢
          obtain ⟨k, hk⟩ : ∃ k, w4.heap.size = k := ⟨_, rfl⟩
          have HT5 := Aside0.mk (HT4.out.below b5)
          have HO5 := Aside0.mk (Kd.R_below HO4.out b5)
          have HB5 := Aside0.mk (HB4.out.trans (b5.mono HB4.out.size))
          rw [hk] at hE5 ⊢
          clear hw5 b5 hk x0 x1
          obtain ⟨cs5, hcs5⟩ := HT5.out.blk94
          have hkg : k ≠ g := blk_ne hE5 hcs5 (by decide)
          refine (T_free w5 w1 g gens used free n (rd gens n) HT5.out HB5.out HI.out.2.2.gu HI.out.2.2.gf F.out.1 F.out.2.1 F.out.2.2.1 F.out.2.2.2.1 F.out.2.2.2.2.1).mono ?_
          rintro e w6 ⟨rfl, hT6, hB6, hF6⟩
          have hE6 := (hF6.same k _ _ hE5 (by decide) hkg).trans hE5
          have HT6 := Aside0.mk hT6
          have HB6 := Aside0.mk hB6
          have HO6 := Aside0.mk (keep64 HO5.out hF6 hcs5)
          have HE6 := Aside0.mk hE6
          have a0 := cell2_0 hE6
          have a1 := cell2_1 hE6
          clear hE5 hcs5 hkg hT6 hB6 hF6 hE6
          go_wp2_with (fail)
          refine (T_free0 w6 w1 g (gens.set n (rd gens n + 1)) (dif used (oneL n)) (uni free (oneL n)) n (rd gens n) HT6.out F.out.2.2.2.2.2.2.gu (by omega) (by have := F.out.2.1; omega) (fun _ => by rw [List.length_set]; have := F.out.1; omega) F.out.2.2.2.2.2.1).mono ?_
          rintro e w7 ⟨rfl, b7⟩
          have HT7 := Aside0.mk (HT6.out.below b7)
          have HO7 := Aside0.mk (Kd.R_below HO6.out b7)
          have HB7 := Aside0.mk (HB6.out.trans (b7.mono HB6.out.size))
          have hE7 := (b7.block k (blk_lt HE6.out)).trans HE6.out
          have a0 := cell2_0 hE7
          have a1 := cell2_1 hE7
          have HOL := Aside0.mk HI.out.2.2.oldlen
          clear b7 hE7
          go_wp2_with (((with_reducible refine gate_builtin (b := .append) (xs := #[.tmp 54, .tmp 56]) rfl ?_); at_builtin; refine Kd.R_append k64 (w0 := w1) w1.heap.size rfl (.tmp 54) (.tmp 56) 61 64 (.agg #[.int .i64 0, .int .i64 0]) 16 rfl Try.underlying61 infoE rfl (by decide) (by decide) u4 old (⟨n, rd gens n⟩ : S64) [.int .i64 n, .int .i64 (rd gens n)] (fun _ => True) (fun _ => False) rfl rfl ?aP (fun _ hk => hk.elim) ?aF ?aO ?aB ?aS ?aL ?_; (case aP => exact k64_mkM _ _ _ _); (case aF => exact (fun _ _ => trivial)); (case aO => exact HO7.out); (case aB => exact HB7.out); (case aS => exact below_size HB7.out); (case aL => have := HOL.out; omega); intro v8 w8 ho hb hg hat; have HO8 := Aside0.mk ho; have HT8 := Aside0.mk (HT7.out.grown64 HO7.out hg); have HB8 := Aside0.mk hb; clear ho hb hg hat))
          go_roundg (jm - (i + 1))
          case measure => have := HI.out.1; omega
          case rel => exact ⟨_, i + 1, _, _, _, _, rfl, congrArg (Value.int .i64) (by omega), ⟨rfl, by omega, F.out.2.2.2.2.2.2⟩, ⟨HT8.out, HO8.out, HB8.out⟩⟩
        · rw [decide_eq_false hA]
          obtain ⟨N, hN⟩ : ∃ N, nextN gens free = N := ⟨_, rfl⟩
          obtain ⟨G, hG⟩ : ∃ G, (if N = gens.length then gens ++ [0] else gens) = G := ⟨_, rfl⟩
          obtain ⟨t1, t2, t3, t4, t5⟩ := HI.out.2.2.take hi200 N G hN hG
          have T := Aside0.mk (And.intro t1 (And.intro t2 (And.intro t3 (And.intro t4 t5))))
          have HNG := Aside0.mk (And.intro hN hG)
          clear hA t1 t2 t3 t4 t5 hN hG
          go_wp2_with (fail)
          refine (T_take wc w1 g gens used free N G HNG.out.1 HNG.out.2 HT3.out HB3.out HI.out.2.2.gu HI.out.2.2.gf (by have := HI.out.2.2.len; omega) (by have := T.out.1; omega) HI.out.2.2.fr).mono ?_
          rintro e w4 ⟨rfl, hT4, hB4, hF4⟩
          obtain ⟨cs3, hcs3⟩ := HT3.out.blk94
          have b5 := below_alloc (Below.refl w4.heap.size w4) (.cells #[.int .i64 N, .int .i64 (rd G N)] 64)
          have hE5 : (w4.alloc (.cells #[.int .i64 N, .int .i64 (rd G N)] 64)).heap[w4.heap.size]? = some (.cells #[.int .i64 N, .int .i64 (rd G N)] 64 (0, 0)) := Array.getElem?_push_size
          have HT5 := Aside0.mk (hT4.below b5)
          have HO5 := Aside0.mk (Kd.R_below (keep64 HO3.out hF4 hcs3) b5)
          have HA5 := Aside0.mk (Kd.R_below (keep64 HA3.out hF4 hcs3) b5)
          have HB5 := Aside0.mk (hB4.trans (b5.mono hB4.size))
          have HE5 := Aside0.mk hE5
          clear hT4 hB4 hF4 hcs3 b5 hE5
          go_wp2_with (fail)
          refine (api_Ent_42.calls 5000 Aa ca L (N : Int) (rd G N) false _ (Kd.R_reads' HA5.out).2.2 (Kd.R_reads' HA5.out).2.1 (contains_f HLA.out (fun e he e0 => ?nomem) 5000 (Nat.le_refl _))).mono ?_
          case nomem =>
            have h1 := ((elems_has HI.out.2.2.gu _).1 (HLN.out e he)).2.2
            rw [e0, Int.toNat_natCast, T.out.2.1] at h1
            exact absurd h1 (by decide)
          rintro e w6 ⟨rfl, b6⟩
          have HT6 := Aside0.mk (HT5.out.below b6)
          have HO6 := Aside0.mk (Kd.R_below HO5.out b6)
          have HB6 := Aside0.mk (HB5.out.trans (b6.mono HB5.out.size))
          have hE6 := (b6.block w4.heap.size (blk_lt HE5.out)).trans HE5.out
          have a0 := cell2_0 hE6
          have a1 := cell2_1 hE6
          obtain ⟨k, hk⟩ : ∃ k, w4.heap.size = k := ⟨_, rfl⟩
          rw [hk] at a0 a1 ⊢
          clear b6 hE6 HT5 HO5 HB5 HA5 HE5 hk
          go_wp2_with (fail)
          refine (T_alive w6 w1 g G (uni used (oneL N)) (dif free (oneL N)) (N : Int) (rd G N) HT6.out T.out.2.2.2.2.gu (by omega) (by have := T.out.1; omega) (fun _ => by have := T.out.2.2.1; omega)).mono ?_
          rintro e w7 ⟨rfl, b7⟩
          rw [T.out.2.2.2.1]
          have HT7 := Aside0.mk (HT6.out.below b7)
          have HO7 := Aside0.mk (Kd.R_below HO6.out b7)
          have HB7 := Aside0.mk (HB6.out.trans (b7.mono HB6.out.size))
          clear b7
          go_wp2_with (fail)
          go_roundg (jm - (i + 1))
          case measure => have := HI.out.1; omega
          case rel => exact ⟨_, i + 1, _, _, _, _, rfl, congrArg (Value.int .i64) (by omega), ⟨rfl, by omega, T.out.2.2.2.2⟩, ⟨HT7.out, HO7.out, HB7.out⟩⟩
    · have c2 : ¬ ((i : Int) < (jm : Int)) := by omega
      obtain ⟨Ao, co, rfl⟩ := Kd.R_slice HS.out.2.1
      go_wp2_with (fail)
      have HWR := Aside0.mk (show i = jm from by have := HI.out.2.1; omega)
      have hol := HI.out.2.2.oldlen
      have hi2 := HI.out.2.1
      go_loopg [79] old.length (fun kq v79 w' => ∃ (j : Nat), v79 = .int .i64 (j : Int) ∧ Aside0 (kq = old.length - j ∧ j ≤ old.length) ∧ Aside0 (IsT w1 w' g gens used free ∧ Kd.R k64 64 w' w1.heap.size (fun _ => True) (.slice Ao old.length co) old ∧ Below w1.heap.size w1 w'))
      case atStart => exact ⟨0, rfl, ⟨rfl, Nat.zero_le _⟩, ⟨HS.out.1, HS.out.2.1, HS.out.2.2⟩⟩
      case round =>
        obtain ⟨j, rfl, HJ, HS2⟩ := hrel
        by_cases hj : j < old.length
        · have e2 : (j : Int) < (old.length : Int) := by omega
          have e3 : (0 : Int) ≤ (j : Int) := by omega
          obtain ⟨ad2, f2, x0, x1⟩ := at_T64 (Kd.R_reads' HS2.out.2.1).2.2 (j : Int) e3 e2
          subst f2
          have hmem : rd_T64 old (j : Int) ∈ old := by
            unfold rd_T64
            rw [Int.toNat_natCast, List.getD_eq_getElem?_getD, List.getElem?_eq_getElem hj]
            exact List.getElem_mem hj
          obtain ⟨⟨n, gn⟩, hit⟩ : ∃ it, rd_T64 old (j : Int) = it := ⟨_, rfl⟩
          rw [hit] at x0 x1 hmem
          have x0 : wr.cell? (ad2.add ((j : Int).toNat * 2)) = some (.int .i64 n) := x0
          have x1 : wr.cell? ⟨(ad2.add ((j : Int).toNat * 2)).block, (ad2.add ((j : Int).toNat * 2)).off + 1, none⟩ = some (.int .i64 gn) := x1
          rw [Int.toNat_natCast] at x0 x1
          have HD := Aside0.mk (HI.out.2.2.dead _ hmem)
          have HGO := Aside0.mk (HI.out.2.2.gone _ hmem)
          clear hmem hit
          go_wp2_with (fail)
          have b5 := below_alloc (Below.refl wr.heap.size wr) (.cells #[.int .i64 n, .int .i64 gn] 64)
          have HT5 := Aside0.mk (HS2.out.1.below b5)
          have HO5 := Aside0.mk (Kd.R_below HS2.out.2.1 b5)
          have HB5 := Aside0.mk (HS2.out.2.2.trans (b5.mono HS2.out.2.2.size))
          have hD0 := HD.out.1
          have hD1 := HD.out.2.1
          refine (T_alive _ w1 g gens used free n gn HT5.out HI.out.2.2.gu hD0 (by have := HI.out.2.2.len; have := HI.out.2.1; have hD1 : n < (gens.length : Int) := hD1; omega) (fun _ => hD1)).mono ?_
          rintro e w7 ⟨rfl, b7⟩
          rw [show aliveF gens used n gn = false from HGO.out]
          have HT7 := Aside0.mk (HT5.out.below b7)
          have HO7 := Aside0.mk (Kd.R_below HO5.out b7)
          have HB7 := Aside0.mk (HB5.out.trans (b7.mono HB5.out.size))
          clear b5 b7 x0 x1
          obtain ⟨k, hk⟩ : ∃ k, wr.heap.size = k := ⟨_, rfl⟩
          rw [hk]
          go_wp2_with (fail)
          go_roundg (old.length - (j + 1))
          case measure => have := HJ.out.1; omega
          case rel => exact ⟨j + 1, congrArg (Value.int .i64) (by omega), ⟨rfl, by omega⟩, ⟨HT7.out, HO7.out, HB7.out⟩⟩
        · have e2 : ¬ ((j : Int) < (old.length : Int)) := by omega
          go_wp2_with (fail)
          refine (T_gens wr w1 g gens used free HS2.out.1 (by have := HI.out.2.2.len; omega)).mono ?_
          rintro e w7 ⟨vg, rfl, hRg, b7⟩
          obtain ⟨Ag, cg, rfl⟩ := Kd.R_slice hRg
          have e3 : (gens.length : Int) ≤ 200 := by have := HI.out.2.2.len; omega
          have HB7 := Aside0.mk (B1.out.trans ((HS2.out.2.2.trans (b7.mono HS2.out.2.2.size)).mono B1.out.size))
          clear hRg b7
          go_wp2_with (fail)
          go_ret
          exact ⟨rfl, HB7.out⟩
theorem tourkeep1_SlotsOld.walk (a0 : Option Addr) (len0 cap0 : Nat) (z0 : List Int) (w : World) (w0 : (a0 = none ∧ len0 = 0 ∧ cap0 = 0 ∧ z0 = []) ∨ ∃ x, a0 = some x ∧ len0 ≤ cap0 ∧ cap0 ≤ maxLen ∧ z0.length = cap0 ∧ (∀ i, i < z0.length → w.cell? (x.add i) = some (.int .i64 (z0.getD i 0))) ∧ ∀ n ∈ z0, (Lit.int .i64 n).wf = true) (y0 : len0 * 8 ≤ 140737488351232) :
    Calls Try.prog 8 #[.slice a0 len0 cap0] w fun e w' => e = .returned (.bool true) ∧ Below w.heap.size w w' := by
  obtain ⟨l0, rfl, hr0, hm0, hw0, hc0⟩ := ReadsInt.ofRowC w0
  exact SlotsOld.calls _ _ l0 w (Kd.C_of_reads (d := (0 : Int)) (h1 := fun _ => rfl) hr0) hc0 (by omega)
end Go.Proofs.Ytknmlikjmnhgkaa.P
