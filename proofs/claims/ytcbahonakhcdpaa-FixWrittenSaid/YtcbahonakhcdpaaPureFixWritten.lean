/- The plain statement of FixWritten: for every input the law's printed function returns true. No condition. -/
import Derived.Test.YtcbahonakhcdpaaPAllx6
import Derived.Test.YtcbahonakhcdpaaPAllx2
import Derived.Test.YtcbahonakhcdpaaPAllx5
import Derived.Test.YtcbahonakhcdpaaPAllx4
import Derived.Test.YtcbahonakhcdpaaQRead
namespace Go.Proofs.Ytcbahonakhcdpaa.Pure
open Go Go.RowKit Go.Proofs.Ytcbahonakhcdpaa.P Go.Proofs.Ytcbahonakhcdpaa.QText Go.Proofs.YtcbahonakhcdpaaW.PrintWords Go.Proofs.YtcbahonakhcdpaaW.PrintLast Go.Proofs.YtcbahonakhcdpaaW.PrintMore

theorem rd_drop (L R : List Int) (i : Nat) (c : Int) (h : L.drop i = c :: R) : rd L (i : Int) = c ∧ i < L.length ∧ L.drop (i + 1) = R := by
  have hi : i < L.length := by
    by_cases h2 : i < L.length
    · exact h2
    · rw [List.drop_eq_nil_of_le (by omega)] at h
      cases h
  rw [List.drop_eq_getElem_cons hi] at h
  obtain ⟨h1, h2⟩ := List.cons.inj h
  refine ⟨?_, hi, h2⟩
  unfold rd
  rw [Int.toNat_natCast, List.getD_eq_getElem?_getD, List.getElem?_eq_getElem hi]
  exact h1
/-- the digits in front of the point -/
theorem read0 (L : List Int) (hL : Codes L) (hl : L.length ≤ 100) (x0 : ByteArray) (D : List Int) : ∀ (R : List Int) (i k : Nat) (n : Int), L.drop i = D ++ R → Dig D → 0 ≤ n → acc n D ≤ 16777216 → fix_Read.l0 (k + 3 * D.length) x0 (strOfNums L) n (-1) (i : Int) = fix_Read.l0 k x0 (strOfNums L) (acc n D) (-1) ((i + D.length : Nat) : Int) := by
  induction D with
  | nil => intro R i k n _ _ _ _; rfl
  | cons c D ih =>
    intro R i k n h hd h0 ha
    obtain ⟨hr, hi, hR⟩ := rd_drop L (D ++ R) i c h
    have hc := hd c List.mem_cons_self
    have hd' : Dig D := fun y hy => hd y (List.mem_cons_of_mem _ hy)
    rw [acc_cons] at ha
    have hge := acc_ge D (n * 10 + (c - 48)) (by omega) hd'
    have hw : wrap64 ((i : Int) + 1) = ((i + 1 : Nat) : Int) := by rw [wrap64_in _ (by omega) (by omega)]; omega
    have hs : ((strOfNums L).size : Int) = L.length := by rw [strOfNums_size]
    have hb : bt (strOfNums L) (i : Int) = c := by rw [bt_str L hL, hr]
    have hm : mn (wrap64 (wrap64 (n * 10) + (c - 48) % 256)) 1073741824 = n * 10 + (c - 48) := by
      rw [wrap64_in (n * 10) (by omega) (by omega), wrap64_in _ (by omega) (by omega)]
      unfold mn
      split <;> omega
    rw [show k + 3 * (c :: D).length = (k + 3 * D.length) + 1 + 1 + 1 by simp; omega, fix_Read.l0, hs, if_pos (by omega), if_pos (by omega), hb, if_neg (by omega), fix_Read.j3, if_neg (by decide), if_neg (by omega), decide_eq_false (by omega), fix_Read.j4, if_neg (by decide), if_pos (by decide), hm, hw, ih R (i + 1) k _ hR hd' (by omega) ha, acc_cons]
    congr 1
    simp
    omega
/-- the digits behind it -/
theorem read1 (L : List Int) (hL : Codes L) (hl : L.length ≤ 100) (x0 : ByteArray) (n d : Int) (h0 : 0 ≤ d) (D : List Int) : ∀ (i k : Nat), L.drop i = D → Dig D → fix_Read.l0 (k + 3 * D.length + 1) x0 (strOfNums L) n d (i : Int) = fix_Read.j5 k x0 (strOfNums L) n d := by
  induction D with
  | nil =>
    intro i k h _
    have hs : ((strOfNums L).size : Int) = L.length := by rw [strOfNums_size]
    have : L.length ≤ i := List.drop_eq_nil_iff.1 h
    rw [fix_Read.l0, hs, if_neg (by omega), if_neg (by omega)]
    rfl
  | cons c D ih =>
    intro i k h hd
    obtain ⟨hr, hi, hR⟩ := rd_drop L D i c h
    have hc := hd c List.mem_cons_self
    have hd' : Dig D := fun y hy => hd y (List.mem_cons_of_mem _ hy)
    have hw : wrap64 ((i : Int) + 1) = ((i + 1 : Nat) : Int) := by rw [wrap64_in _ (by omega) (by omega)]; omega
    have hs : ((strOfNums L).size : Int) = L.length := by rw [strOfNums_size]
    have hb : bt (strOfNums L) (i : Int) = c := by rw [bt_str L hL, hr]
    rw [show k + 3 * (c :: D).length + 1 = (k + 3 * D.length + 1) + 1 + 1 + 1 by simp; omega, fix_Read.l0, hs, if_pos (by omega), if_pos (by omega), hb, if_neg (by omega), fix_Read.j3, if_neg (by decide), if_neg (by omega), decide_eq_false (by omega), fix_Read.j4, if_neg (by decide), if_neg (by omega), hw, ih (i + 1) k hR hd']
set_option maxHeartbeats 1000000 in
/-- what stands behind the sign, read -/
theorem read_rest (x0 : ByteArray) (s0 : 0 < x0.size) (D E : List Int) (F : Int) (hD : Dig D) (d1 : 1 ≤ D.length) (d2 : D.length ≤ 8) (hW : acc 0 D ≤ 16777216) (hE : Dig E) (e1 : E.length ≤ 16) (F0 : 0 ≤ F) (F1 : F < 65536) (hv : 65536 * acc 0 E = F * 10 ^ E.length) (hne : 0 < F → E ≠ []) (hz : F = 0 → E = []) (hM : acc 0 D * 65536 + F ≤ 1099511627776) (k : Nat) (hk : 1000 ≤ k) :
    fix_Read.j1 k x0 (strOfNums (D ++ tailOf F E)) = some (if bt x0 0 = 45 then -(acc 0 D * 65536 + F) else acc 0 D * 65536 + F, 0) := by
  have hW0 : 0 ≤ acc 0 D := acc_ge D 0 (by omega) hD
  have fin : ∀ (L : List Int) (dot : Nat) (k : Nat), 300 ≤ k → L.length ≤ 50 → 1 ≤ dot → dot ≤ L.length → dot + 1 ≠ L.length → (L.drop (dot + 1)) = E → fix_Read.j5 k x0 (strOfNums L) (acc 0 D) (dot : Int) = some (if bt x0 0 = 45 then -(acc 0 D * 65536 + F) else acc 0 D * 65536 + F, 0) := by
    intro L dot k hk hl h1 h2 h3 hd
    obtain ⟨k, rfl⟩ : ∃ m, k = m + 1 + 1 := ⟨k - 2, by omega⟩
    have hk' : 200 ≤ k := by omega
    have p0 : ¬ (dot : Int) = 0 := by omega
    have hne' : (dot : Int) ≠ (L.length : Int) - 1 := by omega
    have p1 : (0 : Int) ≤ ((min (dot + 1) L.length : Nat) : Int) := by omega
    have p2 : ((min (dot + 1) L.length : Nat) : Int) ≤ (L.length : Int) := by omega
    have p3 : ¬ acc 0 D * 65536 + F > 1099511627776 := by omega
    have p4 : (0 : Int) < (x0.size : Int) := by omega
    have hw1 : wrap64 ((L.length : Int) - 1) = (L.length : Int) - 1 := wrap64_in _ (by omega) (by omega)
    have hw2 : wrap64 ((dot : Int) + 1) = (dot : Int) + 1 := wrap64_in _ (by clear hw1; omega) (by clear hw1; omega)
    have hdr : L.drop (min (dot + 1) L.length) = E := by
      clear hw1 hw2
      by_cases h : dot + 1 ≤ L.length
      · rw [Nat.min_eq_left h, hd]
      · rw [Nat.min_eq_right (by omega), ← hd, List.drop_eq_nil_of_le (by omega), List.drop_eq_nil_of_le (by omega)]
    have hmn : mn ((dot : Int) + 1) (L.length : Int) = ((min (dot + 1) L.length : Nat) : Int) := by clear hw1 hw2; unfold mn; split <;> omega
    have hs : ((strOfNums L).size : Int) = L.length := by rw [strOfNums_size]
    have hb : ((dot : Int) == (L.length : Int) - 1) = false := beq_eq_false_iff_ne.2 hne'
    have hx : (strOfNums L).extract (min (dot + 1) L.length) (strOfNums L).size = strOfNums E := by rw [drop_str, hdr]
    have ha : wrap64 (wrap64 (acc 0 D * 65536) + F) = acc 0 D * 65536 + F := by clear hw1 hw2 hmn; rw [wrap64_in (acc 0 D * 65536) (by omega) (by omega), wrap64_in _ (by omega) (by omega)]
    have hn : wrap64 (-(acc 0 D * 65536 + F)) = -(acc 0 D * 65536 + F) := by clear hw1 hw2 hmn ha; exact wrap64_in _ (by omega) (by omega)
    rw [fix_Read.j5, if_neg p0, hs, hw1, hb, fix_Read.j6, if_neg (by decide), hs, hw2, hmn, if_pos p1, if_pos p2, Int.toNat_natCast, hx, fraction_f E F hE e1 hv k hk', Option.bind_some]
    dsimp only
    rw [if_pos rfl, ha, if_neg p3, if_pos p4, hn]
    split <;> rfl
  obtain ⟨j, rfl⟩ : ∃ j, k = (j + 500 + 3 * E.length) + 1 + 1 + 1 + 3 * D.length + 1 := ⟨k - (504 + 3 * E.length + 3 * D.length), by omega⟩
  rw [fix_Read.j1]
  by_cases hF : F > 0
  · have hEn : 1 ≤ E.length := by
      have := hne hF
      cases E with
      | nil => exact absurd rfl this
      | cons a b => simp
    have ht : tailOf F E = 46 :: E := if_pos hF
    rw [ht]
    have hL : Codes (D ++ 46 :: E) := by
      intro x hx
      rcases List.mem_append.1 hx with hx | hx
      · exact dig_codes hD x hx
      · rcases List.mem_cons.1 hx with rfl | hx
        · omega
        · exact dig_codes hE x hx
    have hl : (D ++ 46 :: E).length = D.length + E.length + 1 := by rw [List.length_append, List.length_cons]; omega
    have q1 : (D ++ 46 :: E).length ≤ 100 := by omega
    have q2 : (D ++ 46 :: E).length ≤ 50 := by omega
    have q3 : ((D.length : Nat) : Int) < ((D ++ 46 :: E).length : Int) := by omega
    have q4 : (0 : Int) ≤ ((D.length : Nat) : Int) := by omega
    have q5 : D.length ≤ (D ++ 46 :: E).length := by omega
    have q6 : D.length + 1 ≠ (D ++ 46 :: E).length := by omega
    have q7 : 300 ≤ j + 500 := by omega
    have h1 := read0 (D ++ 46 :: E) hL q1 x0 D (46 :: E) 0 ((j + 500 + 3 * E.length) + 1 + 1 + 1) 0 rfl hD (Int.le_refl _) hW
    rw [Nat.zero_add] at h1
    have h1' : fix_Read.l0 (j + 500 + 3 * E.length + 1 + 1 + 1 + 3 * D.length) x0 (strOfNums (D ++ 46 :: E)) 0 (-1) 0 = _ := h1
    rw [h1']
    obtain ⟨hr, hi, hR⟩ := rd_drop (D ++ 46 :: E) E D.length 46 List.drop_left
    have h2 := read1 (D ++ 46 :: E) hL q1 x0 (acc 0 D) ((D.length : Nat) : Int) q4 E (D.length + 1) (j + 500) hR hE
    have hw : wrap64 (((D.length : Nat) : Int) + 1) = ((D.length + 1 : Nat) : Int) := by rw [wrap64_in _ (by omega) (by omega)]; rfl
    have hs : ((strOfNums (D ++ 46 :: E)).size : Int) = (D ++ 46 :: E).length := by rw [strOfNums_size]
    have hb : bt (strOfNums (D ++ 46 :: E)) ((D.length : Nat) : Int) = 46 := by rw [bt_str _ hL, hr]
    rw [fix_Read.l0, hs, if_pos q3, if_pos q4, hb, if_pos rfl, decide_eq_true (show (-1 : Int) < 0 by decide), fix_Read.j3, if_pos rfl, hw, h2]
    exact fin (D ++ 46 :: E) D.length (j + 500) q7 q2 d1 q5 q6 hR
  · have hF0 : F = 0 := by omega
    have hE0 := hz hF0
    have ht : tailOf F E = [] := if_neg hF
    rw [ht, List.append_nil]
    have hL : Codes D := dig_codes hD
    have q1 : D.length ≤ 100 := by omega
    have q2 : D.length ≤ 50 := by omega
    have q3 : ¬ ((D.length : Nat) : Int) < (D.length : Int) := by omega
    have q6 : D.length + 1 ≠ D.length := by omega
    have q7 : 300 ≤ j + 500 + 3 * E.length + 1 + 1 := by omega
    have h1 := read0 D hL q1 x0 D [] 0 ((j + 500 + 3 * E.length) + 1 + 1 + 1) 0 (by simp) hD (Int.le_refl _) hW
    rw [Nat.zero_add] at h1
    have h1' : fix_Read.l0 (j + 500 + 3 * E.length + 1 + 1 + 1 + 3 * D.length) x0 (strOfNums D) 0 (-1) 0 = _ := h1
    have hs : ((strOfNums D).size : Int) = D.length := by rw [strOfNums_size]
    have hd : D.drop (D.length + 1) = E := by rw [List.drop_eq_nil_of_le (Nat.le_succ _), hE0]
    rw [h1', fix_Read.l0, hs, if_neg q3, if_pos (by decide)]
    exact fin D D.length _ q7 q2 d1 (Nat.le_refl _) q6 hd
theorem FixWritten : tourkeep1_FixWritten.Pure := by
  intro a0 _
  obtain ⟨k, hk, hb⟩ : ∃ k, 1100 ≤ k ∧ (∃ t, fix_Text.f (k + 1) (-98304) = some t ∧ t.toList = ([45, 49, 46, 53] : List UInt8)) := by
    refine ⟨1100, by omega, ?_⟩
    have h : (fix_Text.f (1100 + 1) (-98304)).map (fun t => decide (t.toList = ([45, 49, 46, 53] : List UInt8))) = some true := by decide +kernel
    obtain ⟨t, ht, hd⟩ := Option.map_eq_some_iff.1 h
    exact ⟨t, ht, of_decide_eq_true hd⟩
  refine ⟨k + 1, ?_⟩
  obtain ⟨t, ht, htl⟩ := hb
  obtain ⟨c, hc, c0, c1⟩ := clamp_f a0
  obtain ⟨D, E, hT, hD, hW, d1, d2, hE, hv, e1, hne, hz⟩ := text_f a0 c hc c0 c1 (k + 1) (by omega)
  unfold tourkeep1_FixWritten.f
  rw [ht, Option.bind_some, if_pos htl, hT, Option.bind_some]
  have m0 : 0 ≤ max c (-c) := by omega
  have m1 : max c (-c) ≤ 1099511627776 := by omega
  generalize hm : max c (-c) = m at *
  have hsum : acc 0 D * 65536 + m % 65536 = m := by rw [hW]; omega
  have tl : (tailOf (m % 65536) E).length ≤ 17 := by unfold tailOf; split <;> simp <;> omega
  have hDne : D ++ tailOf (m % 65536) E ≠ [] := by
    intro h
    have := congrArg List.length h
    rw [List.length_append, List.length_nil] at this
    omega
  have hcod : Codes (D ++ tailOf (m % 65536) E) := by
    intro x hx
    rcases List.mem_append.1 hx with hx | hx
    · exact dig_codes hD x hx
    · unfold tailOf at hx
      split at hx
      · rcases List.mem_cons.1 hx with rfl | hx
        · omega
        · exact dig_codes hE x hx
      · cases hx
  have hread : fix_Read.f (k + 1) (strOfNums (sgn c ++ (D ++ tailOf (m % 65536) E))) = some (c, 0) := by
    have rest := fun x0 s0 k' hk' => read_rest x0 s0 D E (m % 65536) hD d1 d2 (by rw [hW]; omega) hE e1 (by omega) (by omega) hv hne hz (by omega) k' hk'
    rw [hsum] at rest
    unfold fix_Read.f sgn
    by_cases hn : c < 0
    · rw [if_pos hn]
      have hlen : ((strOfNums ([45] ++ (D ++ tailOf (m % 65536) E))).size : Int) = ((1 + D.length + (tailOf (m % 65536) E).length : Nat) : Int) := by rw [strOfNums_size]; simp; omega
      have hcod' : Codes ([45] ++ (D ++ tailOf (m % 65536) E)) := by
        intro x hx
        rcases List.mem_append.1 hx with hx | hx
        · rw [List.mem_singleton.1 hx]; omega
        · exact hcod x hx
      have hb : bt (strOfNums ([45] ++ (D ++ tailOf (m % 65536) E))) 0 = 45 := by rw [bt_str _ hcod']; rfl
      have hx : (strOfNums ([45] ++ (D ++ tailOf (m % 65536) E))).extract 1 (strOfNums ([45] ++ (D ++ tailOf (m % 65536) E))).size = strOfNums (D ++ tailOf (m % 65536) E) := by rw [drop_str]; rfl
      rw [hlen, if_neg (by omega), if_neg (str_ne _ (by simp)), if_pos (by omega), hb, show ((45 : Int) == 45) = true from rfl, fix_Read.j0, if_pos rfl, hlen, if_pos (by omega), hx, rest _ (by omega) k (by omega), hb, if_pos rfl]
      congr 2
      omega
    · rw [if_neg hn, List.nil_append]
      have hlen : ((strOfNums (D ++ tailOf (m % 65536) E)).size : Int) = ((D.length + (tailOf (m % 65536) E).length : Nat) : Int) := by rw [strOfNums_size]; simp
      have hb : ¬ bt (strOfNums (D ++ tailOf (m % 65536) E)) 0 = 45 := by
        rw [bt_str _ hcod]
        cases D with
        | nil => simp at d1
        | cons x D =>
          have := hD x List.mem_cons_self
          show ¬ x = 45
          omega
      rw [hlen, if_neg (by omega), if_neg (str_ne _ hDne), if_pos (by omega), beq_eq_false_iff_ne.2 hb, fix_Read.j0, if_neg (by decide), rest _ (by omega) k (by omega), if_neg hb]
      congr 2
      omega
  rw [hread, Option.bind_some]
  dsimp only
  rw [if_pos rfl, hc, Option.bind_some]
  simp

end Go.Proofs.Ytcbahonakhcdpaa.Pure
