/- Package slots: Of, for slots that were never freed. No condition. -/
import Derived.Test.YtknmlikjmnhgkaaQSlots
import Derived.Test.YtknmlikjmnhgkaaQElems
namespace Go.Proofs.Ytknmlikjmnhgkaa.P
open Go.RowKit Go.Shelf Go.Proofs.YtknmlikjmnhgkaaW.PrintWords Go.Proofs.YtknmlikjmnhgkaaW.PrintLast Go.Proofs.YtknmlikjmnhgkaaW.PrintMore Go.Proofs.Ytknmlikjmnhgkaa.Pure
set_option linter.unusedVariables false
set_option linter.unusedSimpArgs false

theorem infoIO : (Try.prog.info? 3).map (fun i => (i.zero, i.size, i.bytes)) = some (some (.int .i64 0), 1, 8) := by kernel_rfl
/-- the set of these -/
def IsS (U l : List Int) : Prop := GoodS U ∧ ∀ k : Int, 0 ≤ k → k < 4096 → (hasB U k.toNat = true ↔ k ∈ l)
theorem IsS.nil : IsS [] [] := ⟨goodS_nil, fun k h0 h1 => by
  constructor
  · intro h
    exact absurd ((elems_has goodS_nil k).2 ⟨h0, h1, h⟩) (by simp [elems])
  · intro h
    cases h⟩
theorem IsS.put {U l : List Int} (h : IsS U l) (n : Int) (h0 : 0 ≤ n) (h1 : n < 4096) : IsS (uni U (oneL n)) (l ++ [n]) := ⟨good_uni _ _, fun k k0 k1 => by
  rw [hasB_uni _ _ _ (by omega), hasB_one n h0 h1 _ (by omega), Bool.or_eq_true, h.2 k k0 k1, List.mem_append, List.mem_singleton]
  constructor
  · rintro (h | h)
    · exact .inl h
    · have := of_decide_eq_true h
      exact .inr (by omega)
  · rintro (h | h)
    · exact .inl h
    · exact .inr (by rw [h]; simp)⟩
/-- the free ones -/
def freesF (U : List Int) : Nat → List Int → List Int
  | 0, F => F
  | k + 1, F => let F' := freesF U k F; if hasB U k then F' else uni F' (oneL k)
theorem frees_is {U l : List Int} (h : IsS U l) : ∀ G : Nat, G ≤ 256 → GoodS (freesF U G []) ∧ ∀ k : Int, 0 ≤ k → k < 4096 → (hasB (freesF U G []) k.toNat = true ↔ k < G ∧ k ∉ l)
  | 0, _ => ⟨goodS_nil, fun k h0 h1 => by
      have := IsS.nil.2 k h0 h1
      rw [show freesF U 0 [] = [] from rfl, this]
      constructor
      · intro h; cases h
      · intro h; omega⟩
  | G + 1, hG => by
      obtain ⟨i1, i2⟩ := frees_is h G (by omega)
      have e : freesF U (G + 1) [] = if hasB U G then freesF U G [] else uni (freesF U G []) (oneL G) := rfl
      rw [e]
      have hh := h.2 G (by omega) (by omega)
      rw [Int.toNat_natCast] at hh
      by_cases hb : hasB U G = true
      · rw [if_pos hb]
        refine ⟨i1, fun k h0 h1 => ?_⟩
        rw [i2 k h0 h1]
        constructor
        · rintro ⟨a, b⟩; exact ⟨by omega, b⟩
        · rintro ⟨a, b⟩
          refine ⟨?_, b⟩
          have : k ≠ (G : Int) := fun e => b (e ▸ hh.1 hb)
          omega
      · rw [if_neg hb]
        refine ⟨good_uni _ _, fun k h0 h1 => ?_⟩
        rw [hasB_uni _ _ _ (by omega), hasB_one G (by omega) (by omega) _ (by omega), Bool.or_eq_true, i2 k h0 h1, Int.toNat_natCast]
        constructor
        · rintro (⟨a, b⟩ | a)
          · exact ⟨by omega, b⟩
          · have := of_decide_eq_true a
            have e : k = (G : Int) := by omega
            exact ⟨by omega, fun hm => hb (hh.2 (e ▸ hm))⟩
        · rintro ⟨a, b⟩
          by_cases e : k = (G : Int)
          · exact .inr (by rw [e]; simp)
          · exact .inl ⟨by omega, b⟩
/-- an increasing row between two bounds is no longer than they are apart -/
theorem sorted_len : ∀ (l : List Int) (a b : Int), l.Pairwise (· < ·) → (∀ x ∈ l, a ≤ x ∧ x < b) → a ≤ b → (l.length : Int) ≤ b - a
  | [], a, b, _, _, h => by simp; omega
  | x :: l, a, b, hs, hr, h => by
      have h1 := (List.pairwise_cons.1 hs).1
      have hx := hr x (List.mem_cons_self ..)
      have := sorted_len l (x + 1) b (List.pairwise_cons.1 hs).2 (fun y hy => ⟨by have := h1 y hy; omega, (hr y (List.mem_cons_of_mem _ hy)).2⟩) (by omega)
      rw [List.length_cons]
      omega
set_option maxHeartbeats 4000000 in
set_option maxRecDepth 100000 in
theorem T_of (w w0 : World) (hB : Below w0.heap.size w0 w) (A0 : Option Addr) (c0 G : Nat) (hG : G ≤ 256) (hr0 : Kd.C (Kd.int .i64) w A0 (List.replicate G 0).length (List.replicate G (0 : Int))) (hc0 : G ≤ c0)
    (A1 : Option Addr) (c1 : Nat) (l : List Int) (hr1 : Kd.C (Kd.int .i64) w A1 l.length l) (hc1 : l.length ≤ c1) (hs : l.Pairwise (· < ·)) (hr : ∀ x ∈ l, 0 ≤ x ∧ x < G) :
    Calls Try.prog 47 #[.slice A0 G c0, .slice A1 l.length c1] w fun e w' => ∃ g U, e = .returned (.tuple #[.pointer (some ⟨g, 0, none⟩), .int .i64 0]) ∧ IsS U l ∧ IsT w0 w' g (List.replicate G 0) U (freesF U G []) ∧ w.heap.size ≤ g ∧ Below w.heap.size w w' := by
  have hll : l.length ≤ 256 := by
    have h := sorted_len l 0 G hs (fun x hx => by have := hr x hx; omega) (by omega)
    omega
  have hu94 := Try.underlying94
  have HR0 := Aside0.mk hr0
  have HRD0 := Aside0.mk (show ∀ v : Int, 0 ≤ v → v < (G : Int) → ∃ ad, A0 = some ad ∧ ∀ W, Below w.heap.size w W → W.cell? (ad.add v.toNat) = some (.int .i64 0) from fun v h0 h1 => by
    obtain ⟨ad, e, hx⟩ := Kd.at_int hr0 v h0 (by rw [List.length_replicate]; exact h1)
    have e0 : rd (List.replicate G 0) v = 0 := by
      unfold rd
      rw [List.getD_eq_getElem?_getD, List.getElem?_replicate]
      split <;> rfl
    rw [e0] at hx
    exact ⟨ad, e, fun W hW => (hW.cell (World.block_lt_of_cell? w _ hx)).trans hx⟩)
  have HRD1 := Aside0.mk (show ∀ v : Int, 0 ≤ v → v < (l.length : Int) → ∃ ad, A1 = some ad ∧ (∀ W, Below w.heap.size w W → W.cell? (ad.add v.toNat) = some (.int .i64 (rd l v))) ∧ 0 ≤ rd l v ∧ rd l v < G from fun v h0 h1 => by
    obtain ⟨ad, e, hx⟩ := Kd.at_int hr1 v h0 h1
    have hm : rd l v ∈ l := by
      unfold rd
      rw [List.getD_eq_getElem?_getD, List.getElem?_eq_getElem (by omega)]
      exact List.getElem_mem (by omega)
    exact ⟨ad, e, fun W hW => (hW.cell (World.block_lt_of_cell? w _ hx)).trans hx, (hr _ hm).1, (hr _ hm).2⟩)
  have HS := Aside0.mk hs
  have HC0 := Aside0.mk (show Kd.C (Kd.int .i64) w A0 G (List.replicate G (0 : Int)) from by rw [List.length_replicate] at hr0; exact hr0)
  have HB := Aside0.mk hB
  have f0 : ¬ ((256 : Int) < (G : Int)) := by omega
  clear hr0 hr1 hs hr hB
  go_enter Try.func47, Try.ntmps47
  go_wp2_with (((with_reducible refine gate_builtin (b := .append) (xs := #[.const (.slice none 0 0), .tmp 15]) rfl ?_); at_builtin; refine Kd.R_append_rows (Kd.int .i64) (Rr := (Kd.int .i64).K w) (w0 := w) w.heap.size rfl (.const (.slice none 0 0)) (.tmp 15) 22 3 (.int .i64 0) 8 rfl Try.underlying22 infoIO rfl (by decide) (by omega) (.slice none 0 0) [] (List.replicate G (0 : Int)) A0 G c0 (fun _ => True) (fun _ => False) rfl rfl (Kd.R_nil _ _ _ _ _) HC0.out (fun _ _ hk => hk) (fun _ hk => hk.elim) (fun _ _ => trivial) (Below.refl _ _) (Nat.le_refl _) (by simp; omega) ?_; intro v8 w8 ho hb hg hat; have HO := Aside0.mk (show Kd.R (Kd.int .i64) 3 w8 w.heap.size (fun _ => True) v8 (List.replicate G (0 : Int)) from ho); have HBB := Aside0.mk hb; obtain ⟨A8, c8, hv8⟩ := Kd.R_slice ho; subst hv8; clear ho hb hg hat))
  have HT := Aside0.mk (show IsT w0 (w8.alloc (.cells #[.slice A8 G c8, .slice none 0 0, .slice none 0 0] 94)) w8.heap.size (List.replicate G 0) [] [] from by
    have hO := HO.out
    rw [List.nil_append, List.length_replicate] at hO
    have hs1 := HBB.out.size
    have hs0 := HB.out.size
    exact ⟨.slice A8 G c8, .slice none 0 0, .slice none 0 0, Array.getElem?_push_size, by omega, Kd.R_lower (Kd.R_below hO (below_alloc (Below.refl _ _) _)) hs0, Kd.R_nil _ _ _ _ _, Kd.R_nil _ _ _ _ _⟩)
  have HW := Aside0.mk (show Below w.heap.size w (w8.alloc (.cells #[.slice A8 G c8, .slice none 0 0, .slice none 0 0] 94)) from HBB.out.trans ((below_alloc (Below.refl w8.heap.size w8) _).mono HBB.out.size))
  have HGE := Aside0.mk HBB.out.size
  obtain ⟨wA, hwA⟩ : ∃ W, w8.alloc (.cells #[.slice A8 G c8, .slice none 0 0, .slice none 0 0] 94) = W := ⟨_, rfl⟩
  obtain ⟨g, hg⟩ : ∃ k, w8.heap.size = k := ⟨_, rfl⟩
  rw [hwA] at HT HW ⊢
  rw [hg] at HT HGE ⊢
  clear hwA hg HBB HO f0
  go_loopg [21] G (fun kq v21 w' => ∃ (j : Nat), v21 = .int .i64 (j : Int) ∧ Aside0 (kq = G - j ∧ j ≤ G) ∧ Aside0 (IsT w0 w' g (List.replicate G 0) [] [] ∧ Below w.heap.size w w'))
  case atStart => exact ⟨0, rfl, ⟨rfl, Nat.zero_le _⟩, ⟨HT.out, HW.out⟩⟩
  case round =>
    obtain ⟨j, rfl, HJ, HS1⟩ := hrel
    by_cases hj : j < G
    · have e2 : (j : Int) < (G : Int) := by omega
      have e3 : (0 : Int) ≤ (j : Int) := by omega
      obtain ⟨ad, e4, hx⟩ := HRD0.out (j : Int) e3 e2
      have hx := hx wr HS1.out.2
      rw [Int.toNat_natCast] at hx
      subst e4
      go_wp2_with (fail)
      go_roundg (G - (j + 1))
      case measure => have := HJ.out.1; omega
      case rel => exact ⟨j + 1, congrArg (Value.int .i64) (by omega), ⟨rfl, by omega⟩, ⟨HS1.out.1, HS1.out.2⟩⟩
    · have e2 : ¬ ((j : Int) < (G : Int)) := by omega
      go_wp2_with (fail)
      clear HJ e2 hj
      go_loopg [34] l.length (fun kq v34 w' => ∃ (j : Nat) (U : List Int), v34 = .int .i64 (j : Int) ∧ Aside0 (kq = l.length - j ∧ j ≤ l.length ∧ IsS U (l.take j)) ∧ Aside0 (IsT w0 w' g (List.replicate G 0) U [] ∧ Below w.heap.size w w'))
      case atStart => exact ⟨0, [], rfl, ⟨rfl, Nat.zero_le _, by rw [List.take_zero]; exact IsS.nil⟩, ⟨HS1.out.1, HS1.out.2⟩⟩
      case round =>
        obtain ⟨j, U, rfl, HJ, HS2⟩ := hrel
        by_cases hj : j < l.length
        · have e2 : (j : Int) < (l.length : Int) := by omega
          have e3 : (0 : Int) ≤ (j : Int) := by omega
          obtain ⟨ad, e4, hx, n0, n1⟩ := HRD1.out (j : Int) e3 e2
          have hx := hx wr HS2.out.2
          rw [Int.toNat_natCast] at hx
          subst e4
          have HTK := Aside0.mk (show l.take (j + 1) = l.take j ++ [rd l (j : Int)] from by
            rw [List.take_add_one, List.getElem?_eq_getElem hj]
            unfold rd
            rw [Int.toNat_natCast, List.getD_eq_getElem?_getD, List.getElem?_eq_getElem hj]
            rfl)
          have HPR := Aside0.mk (show ∀ m : Nat, j = m + 1 → rd l (m : Int) < rd l (j : Int) ∧ wr.cell? (ad.add m) = some (.int .i64 (rd l (m : Int))) from fun m hm => by
            subst hm
            obtain ⟨ad', e5, hy, _⟩ := HRD1.out (m : Int) (by omega) (by omega)
            injection e5 with e5
            subst e5
            have hy := hy wr HS2.out.2
            rw [Int.toNat_natCast] at hy
            refine ⟨?_, hy⟩
            unfold rd
            rw [Int.toNat_natCast, Int.toNat_natCast, List.getD_eq_getElem?_getD, List.getD_eq_getElem?_getD, List.getElem?_eq_getElem hj, List.getElem?_eq_getElem (by omega)]
            exact List.pairwise_iff_getElem.1 HS.out m (m + 1) (by omega) hj (by omega))
          obtain ⟨n, hn⟩ : ∃ n, rd l (j : Int) = n := ⟨_, rfl⟩
          rw [hn] at hx n0 n1 HTK HPR
          obtain ⟨ad0, e6, hz⟩ := HRD0.out n n0 n1
          have hz := hz wr HS2.out.2
          subst e6
          have HQ : ∀ (b : Bool) (v : Value), True := fun _ _ => trivial
          obtain ⟨vg, vu, vf, b1, b2, b3, b4, b5⟩ := HS2.out.1
          obtain ⟨Au, cu, rfl⟩ := Kd.R_slice b4
          have c1 := cell3_1 b1
          have z1 := blk_frozen b1 1
          have hgl3 : g < wr.heap.size := blk_lt b1
          have HB4 := Aside0.mk b4
          have HBB := Aside0.mk b1
          have HGG := Aside0.mk b2
          clear b1 b2 b3 b4 b5 hn HQ
          go_upto_region 15 with (fail)
          go_cut [64] (fun v64 wc => v64 = .bool false ∧ wc = wr)
          case first =>
            cases j with
            | zero =>
              go_wp2_with (fail)
              go_meet
              case rel => exact ⟨rfl, rfl⟩
            | succ m =>
              obtain ⟨p1, p2⟩ := HPR.out m rfl
              obtain ⟨q, hq⟩ : ∃ q, rd l (m : Int) = q := ⟨_, rfl⟩
              rw [hq] at p1 p2
              have p3 : ¬ (n ≤ q) := by omega
              have p4 : (0 : Int) < ((m + 1 : Nat) : Int) := by omega
              have p5 : (m : Int) < (l.length : Int) := by omega
              have p6 : (0 : Int) ≤ (m : Int) := by omega
              go_wp2_with (fail)
              go_meet
              case rel => exact ⟨rfl, rfl⟩
          case rest =>
            obtain ⟨rfl, rfl⟩ := hcut
            go_wp2_with (fail)
            refine (sets_Set_With.calls Au cu U n (uni U (oneL n)) _ (Kd.R_reads' HB4.out).2.2 (Kd.R_reads' HB4.out).2.1 (With_f U n)).mono ?_
            rintro e w8 ⟨v8, rfl, hR8, hb8⟩
            have c18 := (hb8.cell (p := ⟨g, 1, none⟩) (show g < wc.heap.size from hgl3)).trans c1
            have z18 : w8.frozen? ⟨g, 1, none⟩ = false := blk_frozen ((hb8.block g (show g < wc.heap.size from hgl3)).trans HBB.out) 1
            obtain ⟨A9, c9, rfl⟩ := Kd.R_slice hR8
            have hT := (HS2.out.1.below hb8).setu (Kd.R_lower hR8 (Nat.le_trans HB.out.size HS2.out.2.size))
            have hB := (HS2.out.2.trans (hb8.mono HS2.out.2.size)).setCell (p := ⟨g, 1, none⟩) HGE.out (.slice A9 (uni U (oneL n)).length c9)
            have HX := Aside0.mk (And.intro hT hB)
            clear hT hB hb8 hR8 c1 z1
            go_wp2_with (fail)
            go_roundg (l.length - (j + 1))
            case measure => have := HJ.out.1; omega
            case rel => exact ⟨j + 1, _, congrArg (Value.int .i64) (by omega), ⟨rfl, by omega, by rw [HTK.out]; exact HJ.out.2.2.put n n0 (by omega)⟩, ⟨HX.out.1, HX.out.2⟩⟩
        · have e2 : ¬ ((j : Int) < (l.length : Int)) := by omega
          have HU := Aside0.mk (show IsS U l from by
            have h := HJ.out.2.2
            rw [List.take_of_length_le (by omega)] at h
            exact h)
          go_wp2_with (fail)
          clear HJ e2 hj
          go_loopg [77] G (fun kq v77 w' => ∃ (j : Nat), v77 = .int .i64 (j : Int) ∧ Aside0 (kq = G - j ∧ j ≤ G) ∧ Aside0 (IsT w0 w' g (List.replicate G 0) U (freesF U j []) ∧ Below w.heap.size w w'))
          case atStart => exact ⟨0, rfl, ⟨rfl, Nat.zero_le _⟩, ⟨HS2.out.1, HS2.out.2⟩⟩
          case round =>
            obtain ⟨j, rfl, HJ, HS3⟩ := hrel
            by_cases hj : j < G
            · have e2 : (j : Int) < (G : Int) := by omega
              have e3 : (0 : Int) ≤ (j : Int) := by omega
              obtain ⟨ad, e4, hx⟩ := HRD0.out (j : Int) e3 e2
              have hx := hx wr HS3.out.2
              rw [Int.toNat_natCast] at hx
              subst e4
              obtain ⟨vg, vu, vf, b1, b2, b3, b4, b5⟩ := HS3.out.1
              obtain ⟨Au, cu, rfl⟩ := Kd.R_slice b4
              obtain ⟨Af, cf, rfl⟩ := Kd.R_slice b5
              have c1 := cell3_1 b1
              have c2 := cell3_2 b1
              have z2 := blk_frozen b1 2
              have hgl3 : g < wr.heap.size := blk_lt b1
              have HB4 := Aside0.mk b4
              have HB5 := Aside0.mk b5
              have HBB := Aside0.mk b1
              have HHF := Aside0.mk (Has_f HU.out.1.words (j : Int) e3 (by omega))
              rw [Int.toNat_natCast] at HHF
              clear b1 b2 b3 b4 b5
              go_wp2_with (fail)
              by_cases hh : hasB U j = true
              · have HFF := Aside0.mk (show freesF U (j + 1) [] = freesF U j [] from by show (if hasB U j then _ else _) = _; rw [if_pos hh])
                rw [hh] at HHF
                refine (sets_Set_Has.calls Au cu U (j : Int) true _ (Kd.R_reads' HB4.out).2.2 (Kd.R_reads' HB4.out).2.1 HHF.out).mono ?_
                rintro e w' ⟨rfl, ⟨nd, rfl⟩⟩
                have HT7 := Aside0.mk (HS3.out.1.below (pw_below_drewN (Below.refl _ _) nd))
                have HB7 := Aside0.mk (pw_below_drewN HS3.out.2 nd)
                obtain ⟨w7, hw7⟩ : ∃ W, wr.drewN nd = W := ⟨_, rfl⟩
                rw [hw7] at HT7 HB7 ⊢
                clear hw7 hx c1 c2 z2
                go_wp2_with (fail)
                go_roundg (G - (j + 1))
                case measure => have := HJ.out.1; omega
                case rel => exact ⟨j + 1, congrArg (Value.int .i64) (by omega), ⟨rfl, by omega⟩, ⟨by rw [HFF.out]; exact HT7.out, HB7.out⟩⟩
              · have HFF := Aside0.mk (show freesF U (j + 1) [] = uni (freesF U j []) (oneL j) from by show (if hasB U j then _ else _) = _; rw [if_neg hh])
                have hh : hasB U j = false := by simpa using hh
                rw [hh] at HHF
                refine (sets_Set_Has.calls Au cu U (j : Int) false _ (Kd.R_reads' HB4.out).2.2 (Kd.R_reads' HB4.out).2.1 HHF.out).mono ?_
                rintro e w' ⟨rfl, ⟨nd, rfl⟩⟩
                have hx : (wr.drewN nd).cell? (ad.add j) = some (.int .i64 0) := hx
                have c2 : (wr.drewN nd).cell? ⟨g, 2, none⟩ = some (.slice Af (freesF U j []).length cf) := c2
                have hgl3 : g < (wr.drewN nd).heap.size := hgl3
                have HT7 := Aside0.mk (HS3.out.1.below (pw_below_drewN (Below.refl _ _) nd))
                have HB7 := Aside0.mk (pw_below_drewN HS3.out.2 nd)
                have HF7 := Aside0.mk (Kd.R_drewN HB5.out nd)
                have hbb : (wr.drewN nd).heap[g]? = _ := HBB.out
                have HBB7 := Aside0.mk hbb
                obtain ⟨w7, hw7⟩ : ∃ W, wr.drewN nd = W := ⟨_, rfl⟩
                rw [hw7] at HT7 HB7 HF7 HBB7 hx c2 hgl3 ⊢
                clear hw7 c1 z2 hbb
                go_wp2_with (fail)
                refine (sets_Set_With.calls Af cf (freesF U j []) (j : Int) (uni (freesF U j []) (oneL j)) _ (Kd.R_reads' HF7.out).2.2 (Kd.R_reads' HF7.out).2.1 (With_f _ _)).mono ?_
                rintro e w8 ⟨v8, rfl, hR8, hb8⟩
                have c18 := (hb8.cell (p := ⟨g, 2, none⟩) (show g < w7.heap.size from hgl3)).trans c2
                have z18 : w8.frozen? ⟨g, 2, none⟩ = false := blk_frozen ((hb8.block g (show g < w7.heap.size from hgl3)).trans HBB7.out) 2
                obtain ⟨A9, c9, rfl⟩ := Kd.R_slice hR8
                have hT := (HT7.out.below hb8).setf (Kd.R_lower hR8 (Nat.le_trans HB.out.size HB7.out.size))
                have hB := (HB7.out.trans (hb8.mono HB7.out.size)).setCell (p := ⟨g, 2, none⟩) HGE.out (.slice A9 (uni (freesF U j []) (oneL j)).length c9)
                have HX := Aside0.mk (And.intro hT hB)
                clear hT hB hb8 hR8 c2 hx
                go_wp2_with (fail)
                go_roundg (G - (j + 1))
                case measure => have := HJ.out.1; omega
                case rel => exact ⟨j + 1, congrArg (Value.int .i64) (by omega), ⟨rfl, by omega⟩, ⟨by rw [HFF.out]; exact HX.out.1, HX.out.2⟩⟩
            · have e2 : ¬ ((j : Int) < (G : Int)) := by omega
              have hjG : j = G := by have := HJ.out.2; omega
              subst hjG
              go_wp2_with (fail)
              refine bodyPost_ret (results_tmp2 rfl _ _ _) rfl ?_
              first | exact ⟨g, U, rfl, HU.out, HS3.out.1, HGE.out, HS3.out.2⟩ | exact ⟨g, rfl, U, HU.out, HS3.out.1, HGE.out, HS3.out.2⟩ | exact ⟨g, rfl, ⟨U, HU.out, HS3.out.1⟩, HGE.out, HS3.out.2⟩
end Go.Proofs.Ytknmlikjmnhgkaa.P
