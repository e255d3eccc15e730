/- The law BitsOnly, walked. No condition. -/
import Derived.Test.YtggfiacnkbcjbaaQAny
import Derived.Test.YtggfiacnkbcjbaaPAllx5
import Derived.Test.YtggfiacnkbcjbaaPAllx3
import Derived.Test.YtggfiacnkbcjbaaPAllx6
import Derived.Test.YtggfiacnkbcjbaaPAllx8
namespace Go.Proofs.Ytggfiacnkbcjbaa.P
open Go.RowKit Go.Proofs.YtggfiacnkbcjbaaW.PrintWords Go.Proofs.YtggfiacnkbcjbaaW.PrintLast Go.Proofs.YtggfiacnkbcjbaaW.PrintMore Go.Proofs.Ytggfiacnkbcjbaa.Pure
attribute [local go_sem] max2_int min2_int max_two min_two max_three min_three max_four min_four   -- for this text's walks alone
set_option linter.unusedVariables false
set_option linter.unusedSimpArgs false

/-- a writer above block N -/
def IsWN (N : Nat) (W : World) (g : Nat) (b : ByteArray) (n : Int) : Prop := ∃ u0 : World, u0.heap.size = N ∧ IsS64 u0 W g b n
theorem IsWN.at_ {N : Nat} {W u0 : World} {g : Nat} {b : ByteArray} {n : Int} (h : IsWN N W g b n) (hu : u0.heap.size = N) : IsS64 u0 W g b n := by
  obtain ⟨v0, h1, h2⟩ := h
  exact IsW.base h2 (by rw [hu, h1])
theorem IsWN.size {N : Nat} {W : World} {g : Nat} {b : ByteArray} {n : Int} (h : IsWN N W g b n) : N ≤ g ∧ g < W.heap.size := by
  obtain ⟨v0, h1, h2⟩ := h
  exact ⟨by rw [← h1]; exact IsS64.ge h2, IsS64.lt h2⟩
theorem upTo_belowS (W : World) (N : Nat) (h : N ≤ W.heap.size) : Below (upTo W N).heap.size (upTo W N) W := by
  rw [upTo_size W N h]; exact upTo_below W N h
/-- what a call on the writer leaves of what lies below -/
theorem under {W W1 : World} {N B : Nat} {w : World} (hN : N ≤ W.heap.size) (hb : Below (upTo W N).heap.size (upTo W N) W1) (hB : Below B w W) (hBN : B ≤ N) (hs : W.heap.size ≤ W1.heap.size) : Below B w W1 ∧ ∀ i, i < N → W1.heap[i]? = W.heap[i]? := by
  rw [upTo_size W N hN] at hb
  have hk : ∀ i, i < N → W1.heap[i]? = W.heap[i]? := fun i hi => (hb.block i hi).trans (upTo_block W N i hi)
  exact ⟨⟨hb.os.trans hB.os, hb.tape.trans hB.tape, hb.output.trans hB.output, Nat.le_trans hB.size hs, fun i hi => (hk i (Nat.lt_of_lt_of_le hi hBN)).trans (hB.block i hi)⟩, hk⟩
theorem ne_rw {w W : World} {N gr gw : Nat} {B b : ByteArray} {nr n : Int} (hi : IsS91 w W gr B nr) (hw : IsWN N W gw b n) : gw ≠ gr := by
  obtain ⟨cs, hc⟩ := IsV.blk hi
  obtain ⟨u0, _, h2⟩ := hw
  exact IsS64.ne_blk h2 hc (by decide)
theorem rcall {w W W1 : World} {N gr gw : Nat} {B b : ByteArray} {nr n : Int} (hi : IsS91 w W gr B nr) (hw : IsWN N W gw b n) (hk : KeepBut W W1 gr none) : IsWN N W1 gw b n := by
  have hne := ne_rw hi hw
  obtain ⟨cs, hc⟩ := IsV.blk hi
  obtain ⟨u0, h1, h2⟩ := hw
  exact ⟨u0, h1, IsW.keepBut h2 hk hne hc (by decide)⟩
theorem wcall {w W W1 : World} {gr gw : Nat} {B b' : ByteArray} {nr n' : Int} (hi : IsS91 w W gr B nr) (hB : Below w.heap.size w W) (hi' : IsS64 (upTo W (gr + 1)) W1 gw b' n') (hb : Below (upTo W (gr + 1)).heap.size (upTo W (gr + 1)) W1) (hs : W.heap.size ≤ W1.heap.size) :
    IsS91 w W1 gr B nr ∧ Below w.heap.size w W1 ∧ IsWN (gr + 1) W1 gw b' n' := by
  have hlt : gr + 1 ≤ W.heap.size := IsV.lt hi
  have hge : w.heap.size ≤ gr := IsV.ge2 hi
  obtain ⟨h1, h2⟩ := under hlt hb hB (by omega) hs
  exact ⟨IsV.keep hi (fun i hi => h2 i (by omega)), h1, ⟨_, upTo_size _ _ hlt, hi'⟩⟩
theorem IsWN.below {N : Nat} {W W1 : World} {g : Nat} {b : ByteArray} {n : Int} (h : IsWN N W g b n) (hw : Below W.heap.size W W1) : IsWN N W1 g b n := by
  obtain ⟨v0, h1, h2⟩ := h
  exact ⟨v0, h1, IsS64.below h2 hw⟩
theorem IsWN.cell {N : Nat} {W : World} {g : Nat} {b : ByteArray} {n : Int} (h : IsWN N W g b n) : W.cell? ⟨g, 1, none⟩ = some (.int .i64 n) := by
  obtain ⟨v0, h1, v, hb, _⟩ := h
  exact cellS64_1 hb
theorem len_calls (g : Nat) (n : Int) (w : World) (h : w.cell? ⟨g, 1, none⟩ = some (.int .i64 n)) : Calls Try.prog 37 #[.pointer (some ⟨g, 0, none⟩)] w fun e w' => e = .returned (.int .i64 n) ∧ w = w' := by
  go_enter Try.func37, Try.ntmps37
  go_wp2
  go_ret
  exact ⟨rfl, rfl⟩
theorem vkeep {w W W1 : World} {g g2 : Nat} {B B2 : ByteArray} {n n2 : Int} (h : IsS91 w W g B n) (hne : g ≠ g2) (h2 : IsS91 w W g2 B2 n2) (hk : KeepBut W W1 g2 none) : IsS91 w W1 g B n := by
  obtain ⟨cs, hc⟩ := IsV.blk h2
  exact IsV.keepBut h hk hne hc (by decide)
theorem one_bit (x : Int) : ofBits [x] = x := by simp [ofBits]
theorem IsS91.le1 {w W : World} {g : Nat} {B : ByteArray} {n : Int} (h : IsS91 w W g B n) : g + 1 ≤ W.heap.size := IsV.lt h
theorem str_facts (l : List Int) (h : Codes l) : bytesOf (strOfNums l) = l ∧ (strOfNums l).size = l.length := by
  have := bytesOf_str l h
  refine ⟨this, ?_⟩
  rw [← bytesOf_length, this]
set_option maxHeartbeats 16000000 in
set_option maxRecDepth 100000 in
theorem tourkeep1_BitsOnly.calls (A0 : Option Addr) (c0 : Nat) (l0 : List Int) (w : World) (hr0 : Kd.C (Kd.int .u8) w A0 l0.length l0) (hcod : Codes l0) (hlen : l0.length ≤ 140737488351232) :
    Calls Try.prog 10 #[.slice A0 l0.length c0] w fun e w' => e = .returned (.bool true) ∧ Below w.heap.size w w' := by
  have hbeg : tourkeep1_bitsBegun.f 5 = some true := by decide +kernel
  obtain ⟨B, hB0⟩ : ∃ B, strOfNums l0 = B := ⟨_, rfl⟩
  obtain ⟨hB1, hB2⟩ := str_facts l0 hcod
  rw [hB0] at hB1 hB2
  have hnew : bits_New.f l0 = some (B, 0) := by unfold bits_New.f; rw [if_pos ⟨hcod, by omega⟩, hB0]
  obtain ⟨D, hD⟩ : ∃ D, seg (bytesOf B) 0 (8 * B.size) = D := ⟨_, rfl⟩
  have hDl : D.length = 8 * B.size := by rw [← hD, seg_length]
  have hR0 : Rdr B 0 D := ⟨0, rfl, by rw [hB1]; exact hcod, by omega, by omega, by rw [hDl]; exact hD⟩
  obtain ⟨ji, hji⟩ : ∃ j_ : Int, (if 200 < (l0.length : Int) then 200 else (l0.length : Int)) = j_ := ⟨_, rfl⟩
  have hj0 : 0 ≤ ji := by rw [← hji]; split <;> omega
  have hj1 : ji ≤ 200 := by rw [← hji]; split <;> omega
  have HBEG := Aside0.mk hbeg
  have HNEW := Aside0.mk hnew
  have HR0 := Aside0.mk hR0
  have HC := Aside0.mk hr0
  have HBS := Aside0.mk hB2
  have HDL := Aside0.mk hDl
  have HLEN := Aside0.mk hlen
  have HB := Aside0.mk (Below.refl w.heap.size w)
  clear hbeg hB0 hB1 hB2 hnew hD hDl hR0 hr0 hcod hlen
  go_enter Try.func10, Try.ntmps10
  go_upto_block 0 with (first
    | ((with_reducible refine gate_callee (f := 41) rfl ?_); refine goesL_ (some 13) rfl rfl Try.func41 (by kernel_rfl) rfl #[] rfl (by (try simp only [List.map_toArray, List.map_cons, List.map_nil]); first | done | rfl) ?_; (with_reducible refine (tourkeep1_bitsBegun.calls 5 true _ HBEG.out).mono ?_); rintro e w1 ⟨rfl, hb⟩; refine ⟨_, rfl, ?_⟩; have n1 := Aside0.mk (HB.out.trans (hb.mono HB.out.size)); clear HB hb; have HB := n1; clear n1)
    | ((with_reducible refine gate_callee (f := 38) rfl ?_); refine goesL_ (some 16) rfl rfl Try.func38 (by kernel_rfl) rfl #[.slice A0 l0.length c0] rfl (by (try simp only [List.map_toArray, List.map_cons, List.map_nil]); first | done | rfl) ?_; (with_reducible refine (bits_New.callsC A0 c0 l0 B 0 w _ HB.out (Kd.C_below HC.out HB.out) HNEW.out).mono ?_); rintro e w2 ⟨gr, rfl, hi, hb, hb2⟩; refine ⟨_, rfl, ?_⟩; clear HB; have HB := Aside0.mk hb; have HI := Aside0.mk hi; clear hb hb2 hi)
    | ((with_reducible refine gate_alloc (t := 64) rfl ?_); refine objnew_event (w0 := upTo w2 (gr + 1)) (b := ⟨#[]⟩) (n := 0) rfl rfl ?qrun ?side1 ?_; (case qrun => kernel_rfl); (case side1 => exact upTo_belowS _ _ (IsS91.le1 HI.out)); intro gw w3 hi hb hb2; have n1 := Aside0.mk (IsS91.below HI.out hb2); have n2 := Aside0.mk (HB.out.trans (hb2.mono HB.out.size)); have HW := Aside0.mk (show IsWN (gr + 1) w3 gw ⟨#[]⟩ 0 from ⟨_, upTo_size _ _ (IsS91.le1 HI.out), hi⟩); clear HB HI hi hb hb2; have HI := n1; have HB := n2; clear n1 n2))
  have HP0 := Aside0.mk (show ∃ (b : ByteArray) (n : Int) (S : List Int), b = ⟨#[]⟩ ∧ n = 0 ∧ Wr b n S ∧ S = [] from by
    obtain ⟨b, n, e, hw⟩ := Wr.new
    cases e
    exact ⟨_, _, [], rfl, rfl, hw, rfl⟩)
  go_cut [20] (fun v20 wc => ∃ (b : ByteArray) (n : Int) (S : List Int) (nr : Int) (R : List Int), Aside0 (Wr b n S ∧ Rdr B nr R ∧ S ++ R = D ∧ S.length ≤ 16000) ∧ Aside0 (IsS91 w wc gr B nr) ∧ Aside0 (IsWN (gr + 1) wc gw b n) ∧ Aside0 (Below w.heap.size w wc))
  case first =>
    go_wp2
    go_loopg [20] ji.toNat (fun kq v20 w' => ∃ (i : Int) (b : ByteArray) (n : Int) (S : List Int) (nr : Int) (R : List Int), v20 = .int .i64 i ∧ Aside0 (i + (kq : Int) = ji ∧ 0 ≤ i) ∧ Aside0 (Wr b n S ∧ Rdr B nr R ∧ S ++ R = D ∧ (S.length : Int) ≤ 80 * i) ∧ Aside0 (IsS91 w w' gr B nr) ∧ Aside0 (IsWN (gr + 1) w' gw b n) ∧ Aside0 (Below w.heap.size w w'))
    case atStart =>
      obtain ⟨b, n, S, rfl, rfl, hw, rfl⟩ := HP0.out
      exact ⟨0, _, _, [], 0, D, rfl, ⟨by omega⟩, ⟨hw, HR0.out, rfl, by simp⟩, HI, HW, HB⟩
    case round =>
      clear HI HW HB HP0
      obtain ⟨i, b, n, S, nr, R, rfl, HF, HP, HI, HW, HB⟩ := hrel
      have f0 : 0 ≤ i := HF.out.2
      have f1 : i ≤ 200 := by have := HF.out.1; omega
      cases gk with
      | zero =>
        have d1 : decide (i < ji) = false := decide_eq_false (by have := HF.out.1; omega)
        go_wp2
        go_meet
        case rel => exact ⟨b, n, S, nr, R, ⟨HP.out.1, HP.out.2.1, HP.out.2.2.1, by have := HP.out.2.2.2; omega⟩, HI, HW, HB⟩
      | succ k1 =>
        have d1 : decide (i < ji) = true := decide_eq_true (by have := HF.out.1; omega)
        rcases rint_any HP.out.2.1 60 (by omega) with ⟨e, he, hq⟩ | ⟨a, n', R', hq, ha, hR, hr'⟩
        · have HQ := Aside0.mk hq
          have c1 : (e == 0) = false := by simpa using he
          have c2 : (e != 0) = true := by simpa using he
          clear hq he
          go_wp2_with ((with_reducible refine gate_callee (f := 49) rfl ?_); refine goesL_ (some 24) rfl rfl Try.func49 (by kernel_rfl) rfl #[.pointer (some ⟨gr, 0, none⟩)] rfl (by (try simp only [List.map_toArray, List.map_cons, List.map_nil]); first | done | rfl) ?_; (with_reducible refine (bits_Reader_Int.calls 60 gr B nr 0 e B nr w _ HI.out HB.out HQ.out).mono ?_); rintro e5 w5 ⟨rfl, hi, hb, hk⟩; refine ⟨_, rfl, ?_⟩; have n1 := Aside0.mk (rcall HI.out HW.out hk); have n2 := Aside0.mk hi; have n3 := Aside0.mk hb; clear HI HW HB hi hb hk; have HI := n2; have HB := n3; have HW := n1; clear n1 n2 n3)
          go_meet
          case rel => exact ⟨b, n, S, nr, R, ⟨HP.out.1, HP.out.2.1, HP.out.2.2.1, by have := HP.out.2.2.2; omega⟩, HI, HW, HB⟩
        · have HQ := Aside0.mk hq
          obtain ⟨bq, nq, hq2, hw2⟩ := wint_ok HP.out.1 a ha (by have := HP.out.2.2.2; omega) 20 (by omega)
          have HQ2 := Aside0.mk hq2
          have HN := Aside0.mk (show Wr bq nq (S ++ encInt a) ∧ Rdr B n' R' ∧ (S ++ encInt a) ++ R' = D ∧ ((S ++ encInt a).length : Int) ≤ 80 * (i + 1) from ⟨hw2, hr', by rw [List.append_assoc, ← hR]; exact HP.out.2.2.1, by have := HP.out.2.2.2; have h3 := encNat_len (zig a); rw [List.length_append]; unfold encInt; omega⟩)
          clear hq hq2 hR ha hr' hw2
          go_wp2_with (first
            | ((with_reducible refine gate_callee (f := 49) rfl ?_); refine goesL_ (some 24) rfl rfl Try.func49 (by kernel_rfl) rfl #[.pointer (some ⟨gr, 0, none⟩)] rfl (by (try simp only [List.map_toArray, List.map_cons, List.map_nil]); first | done | rfl) ?_; (with_reducible refine (bits_Reader_Int.calls 60 gr B nr a 0 B n' w _ HI.out HB.out HQ.out).mono ?_); rintro e5 w5 ⟨rfl, hi, hb, hk⟩; refine ⟨_, rfl, ?_⟩; have n1 := Aside0.mk (rcall HI.out HW.out hk); have n2 := Aside0.mk hi; have n3 := Aside0.mk hb; clear HI HW HB hi hb hk; have HI := n2; have HB := n3; have HW := n1; clear n1 n2 n3)
            | ((with_reducible refine gate_callee (f := 46) rfl ?_); refine goesL_ (some 32) rfl rfl Try.func46 (by kernel_rfl) rfl #[.pointer (some ⟨gw, 0, none⟩), .int .i64 a] rfl (by (try simp only [List.map_toArray, List.map_cons, List.map_nil]); first | done | rfl) ?_; (with_reducible refine (bits_Writer_Int.calls 20 gw b n a 0 bq nq (upTo w5 (gr + 1)) w5 (HW.out.at_ (upTo_size _ _ (IsS91.le1 HI.out))) (upTo_belowS _ _ (IsS91.le1 HI.out)) HQ2.out).mono ?_); rintro e6 w6 ⟨rfl, hi, hb, hk⟩; refine ⟨_, rfl, ?_⟩; have n1 := Aside0.mk (wcall HI.out HB.out hi hb hk.1); clear HI HW HB hi hb hk; have HI := Aside0.mk n1.out.1; have HB := Aside0.mk n1.out.2.1; have HW := Aside0.mk n1.out.2.2; clear n1))
          go_roundg k1
          case rel => exact ⟨i + 1, bq, nq, S ++ encInt a, n', R', rfl, ⟨by have := HF.out.1; omega⟩, HN, HI, HW, HB⟩
          case measure => exact Nat.lt_succ_self _
  case rest =>
    clear HI HW HB HP0
    obtain ⟨b, n, S, nr, R, HP, HI, HW, HB⟩ := hcut
    obtain ⟨z, hz, q1, q2, rz⟩ := wr_read HP.out.1 (by have := HP.out.2.2.2; omega)
    have HQ1 := Aside0.mk q1
    have HQ2 := Aside0.mk q2
    have HRZ := Aside0.mk rz
    have HQL := Aside0.mk (left_ok HP.out.2.1)
    have HSZ := Aside0.mk (show n = (S.length : Int) ∧ (S.length : Int) + (R.length : Int) = 8 * (l0.length : Int) from ⟨HP.out.1.len, by have h1 := HDL.out; have h2 := HBS.out; rw [← HP.out.2.2.1, List.length_append] at h1; omega⟩)
    clear q1 q2 rz hji
    have e1 : 8 * (l0.length : Int) - (R.length : Int) = n := by have := HSZ.out; omega
    have e2 : wrap64 (8 * (l0.length : Int)) = 8 * (l0.length : Int) := by have := HLEN.out; unfold wrap64; omega
    have e3 : wrap64 n = n := by have := HSZ.out; have := HP.out.2.2.2; unfold wrap64; omega
    go_upto_block 2 with (first
      | ((with_reducible refine gate_callee (f := 38) rfl ?_); refine goesL_ (some 36) rfl rfl Try.func38 (by kernel_rfl) rfl #[.slice A0 l0.length c0] rfl (by (try simp only [List.map_toArray, List.map_cons, List.map_nil]); first | done | rfl) ?_; (with_reducible refine (bits_New.callsC A0 c0 l0 B 0 wc wc (Below.refl _ _) (Kd.C_below HC.out HB.out) HNEW.out).mono ?_); rintro e w7 ⟨ga, rfl, hi, hb, hb2⟩; refine ⟨_, rfl, ?_⟩; have HGA := Aside0.mk (show gr < ga from Nat.lt_of_lt_of_le (IsS91.lt HI.out) (IsS91.ge hi)); have HA := Aside0.mk (show IsS91 w w7 ga B 0 from IsV.lower hi HB.out.size); have n1 := Aside0.mk (IsS91.below HI.out hb2); have n2 := Aside0.mk (IsWN.below HW.out hb2); have n3 := Aside0.mk (HB.out.trans (hb2.mono HB.out.size)); clear HI HW HB hi hb hb2; have HI := n1; have HW := n2; have HB := n3; clear n1 n2 n3)
      | ((with_reducible refine gate_callee (f := 39) rfl ?_); refine goesL_ (some 37) rfl rfl Try.func39 (by kernel_rfl) rfl #[.pointer (some ⟨gw, 0, none⟩)] rfl (by (try simp only [List.map_toArray, List.map_cons, List.map_nil]); first | done | rfl) ?_; (with_reducible refine (bits_Writer_Bytes.callsB gw b n (bytesOf b) b n (upTo w7 (gr + 1)) w7 (HW.out.at_ (upTo_size _ _ (IsS91.le1 HI.out))) (upTo_belowS _ _ (IsS91.le1 HI.out)) HQ1.out).mono ?_); rintro e w8 ⟨v8, rfl, ho, _, _, hb2⟩; refine ⟨_, rfl, ?_⟩; obtain ⟨A8, c8, rfl, _, hC8⟩ := Kd.R_reads ho; have HC8 := Aside0.mk hC8; have n0 := Aside0.mk (IsS91.below HA.out hb2); have n1 := Aside0.mk (IsS91.below HI.out hb2); have n2 := Aside0.mk (IsWN.below HW.out hb2); have n3 := Aside0.mk (HB.out.trans (hb2.mono HB.out.size)); clear HA HI HW HB ho hb2 hC8; have HA := n0; have HI := n1; have HW := n2; have HB := n3; clear n0 n1 n2 n3)
      | ((with_reducible refine gate_callee (f := 38) rfl ?_); refine goesL_ (some 38) rfl rfl Try.func38 (by kernel_rfl) rfl #[.slice A8 (bytesOf b).length c8] rfl (by (try simp only [List.map_toArray, List.map_cons, List.map_nil]); first | done | rfl) ?_; (with_reducible refine (bits_New.callsC A8 c8 (bytesOf b) b 0 w8 w8 (Below.refl _ _) HC8.out HQ2.out).mono ?_); rintro e w9 ⟨gb, rfl, hi, hb, hb2⟩; refine ⟨_, rfl, ?_⟩; have HGB := Aside0.mk (show ga < gb from Nat.lt_of_lt_of_le (IsS91.lt HA.out) (IsS91.ge hi)); have HE := Aside0.mk (show IsS91 w w9 gb b 0 from IsV.lower hi HB.out.size); have n0 := Aside0.mk (IsS91.below HA.out hb2); have n1 := Aside0.mk (IsS91.below HI.out hb2); have n2 := Aside0.mk (IsWN.below HW.out hb2); have n3 := Aside0.mk (HB.out.trans (hb2.mono HB.out.size)); clear HA HI HW HB hi hb hb2; have HA := n0; have HI := n1; have HW := n2; have HB := n3; clear n0 n1 n2 n3)
      | ((with_reducible refine gate_callee (f := 37) rfl ?_); refine goesL_ (some 39) rfl rfl Try.func37 (by kernel_rfl) rfl #[.pointer (some ⟨gw, 0, none⟩)] rfl (by (try simp only [List.map_toArray, List.map_cons, List.map_nil]); first | done | rfl) ?_; (with_reducible refine (len_calls gw n _ HW.out.cell).mono ?_); rintro e w10 ⟨rfl, rfl⟩; refine ⟨_, rfl, ?_⟩)
      | ((with_reducible refine gate_callee (f := 50) rfl ?_); refine goesL_ (some 44) rfl rfl Try.func50 (by kernel_rfl) rfl #[.pointer (some ⟨gr, 0, none⟩)] rfl (by (try simp only [List.map_toArray, List.map_cons, List.map_nil]); first | done | rfl) ?_; (with_reducible refine (bits_Reader_Left.calls gr B nr (R.length : Int) B nr w _ HI.out HB.out HQL.out).mono ?_); rintro e w11 ⟨rfl, hi, hb, hk⟩; refine ⟨_, rfl, ?_⟩; have n0 := Aside0.mk (vkeep HA.out (Nat.ne_of_gt HGA.out) HI.out hk); have n1 := Aside0.mk (vkeep HE.out (Nat.ne_of_gt (Nat.lt_trans HGA.out HGB.out)) HI.out hk); have n2 := Aside0.mk (rcall HI.out HW.out hk); have n3 := Aside0.mk hb; clear HA HE HI HW HB hi hb hk; have HA := n0; have HE := n1; have HW := n2; have HB := n3; clear n0 n1 n2 n3)
      | ((with_reducible refine gate_callee (f := 37) rfl ?_); refine goesL_ (some 47) rfl rfl Try.func37 (by kernel_rfl) rfl #[.pointer (some ⟨gw, 0, none⟩)] rfl (by (try simp only [List.map_toArray, List.map_cons, List.map_nil]); first | done | rfl) ?_; (with_reducible refine (len_calls gw n _ HW.out.cell).mono ?_); rintro e w12 ⟨rfl, rfl⟩; refine ⟨_, rfl, ?_⟩))
    clear e1 e2
    go_wp2
    go_loopg [48] S.length (fun kq v48 w' => ∃ (i na nb : Int) (X Z : List Int), v48 = .int .i64 i ∧ Aside0 (i + (kq : Int) = n ∧ 0 ≤ i ∧ X.length = kq ∧ n ≤ 16000) ∧ Aside0 (Rdr B na (X ++ R) ∧ Rdr b nb (X ++ Z)) ∧ Aside0 (IsS91 w w' ga B na) ∧ Aside0 (IsS91 w w' gb b nb) ∧ Aside0 (Below w.heap.size w w'))
    case atStart => exact ⟨0, 0, 0, S, List.replicate z 0, rfl, ⟨by have := HSZ.out; have := HP.out.2.2.2; omega⟩, ⟨by rw [HP.out.2.2.1]; exact HR0.out, HRZ.out⟩, HA, HE, HB⟩
    case round =>
      clear HW HB HA HE
      obtain ⟨i, na, nb, X, Z, rfl, HF, HX, HA, HE, HB⟩ := hrel
      have f0 : 0 ≤ i := HF.out.2.1
      have f1 : i ≤ 16000 := by have := HF.out; omega
      cases gk with
      | zero =>
        have d1 : decide (i < n) = false := decide_eq_false (by have := HF.out; omega)
        go_wp2
        go_ret
        exact ⟨rfl, HB.out⟩
      | succ k1 =>
        have d1 : decide (i < n) = true := decide_eq_true (by have := HF.out; omega)
        obtain ⟨x, X', rfl⟩ : ∃ x X', X = x :: X' := by
          cases X with
          | nil => have := HF.out.2.2.1; simp at this
          | cons x X' => exact ⟨x, X', rfl⟩
        have hx1 : Rdr B na ([x] ++ (X' ++ R)) := HX.out.1
        have hx2 : Rdr b nb ([x] ++ (X' ++ Z)) := HX.out.2
        obtain ⟨g1, r1⟩ := get_ok hx1 (by simp)
        obtain ⟨g2, r2⟩ := get_ok hx2 (by simp)
        rw [one_bit, show (([x] : List Int).length : Int) = 1 from rfl] at g1 g2
        rw [show (([x] : List Int).length : Int) = 1 from rfl] at r1 r2
        have HG1 := Aside0.mk g1
        have HG2 := Aside0.mk g2
        have HN := Aside0.mk (And.intro r1 r2)
        clear g1 g2 r1 r2 hx1 hx2
        go_wp2_with (first
          | ((with_reducible refine gate_callee (f := 47) rfl ?_); refine goesL_ (some 52) rfl rfl Try.func47 (by kernel_rfl) rfl #[.pointer (some ⟨ga, 0, none⟩), .int .i64 1] rfl (by (try simp only [List.map_toArray, List.map_cons, List.map_nil]); first | done | rfl) ?_; (with_reducible refine (bits_Reader_Get.calls ga B na 1 x 0 B (na + 1) w _ HA.out HB.out HG1.out).mono ?_); rintro e5 w5 ⟨rfl, hi, hb, hk⟩; refine ⟨_, rfl, ?_⟩; have m1 := Aside0.mk (vkeep HE.out (Nat.ne_of_gt HGB.out) HA.out hk); have m2 := Aside0.mk hi; have m3 := Aside0.mk hb; clear HA HE HB hi hb hk; have HA := m2; have HB := m3; have HE := m1; clear m1 m2 m3)
          | ((with_reducible refine gate_callee (f := 47) rfl ?_); refine goesL_ (some 57) rfl rfl Try.func47 (by kernel_rfl) rfl #[.pointer (some ⟨gb, 0, none⟩), .int .i64 1] rfl (by (try simp only [List.map_toArray, List.map_cons, List.map_nil]); first | done | rfl) ?_; (with_reducible refine (bits_Reader_Get.calls gb b nb 1 x 0 b (nb + 1) w _ HE.out HB.out HG2.out).mono ?_); rintro e6 w6 ⟨rfl, hi, hb, hk⟩; refine ⟨_, rfl, ?_⟩; have m1 := Aside0.mk (vkeep HA.out (Nat.ne_of_lt HGB.out) HE.out hk); have m2 := Aside0.mk hi; have m3 := Aside0.mk hb; clear HA HE HB hi hb hk; have HA := m1; have HB := m3; have HE := m2; clear m1 m2 m3))
        go_roundg k1
        case rel => exact ⟨i + 1, na + 1, nb + 1, X', Z, rfl, ⟨by have := HF.out; simp at this; omega⟩, HN, HA, HE, HB⟩
        case measure => exact Nat.lt_succ_self _
/-- The row's arguments are such bytes. -/
theorem tourkeep1_BitsOnly.walk (a0 : Option Addr) (len0 cap0 : Nat) (z0 : List Int) (w : World) (w0 : (a0 = none ∧ len0 = 0 ∧ cap0 = 0 ∧ z0 = []) ∨ ∃ x, a0 = some x ∧ len0 ≤ cap0 ∧ cap0 ≤ maxLen ∧ z0.length = cap0 ∧ (∀ i, i < z0.length → w.cell? (x.add i) = some (.int .u8 (z0.getD i 0))) ∧ ∀ n ∈ z0, (Lit.int .u8 n).wf = true) (y0 : len0 * 1 ≤ 140737488351232) :
    Calls Try.prog 10 #[.slice a0 len0 cap0] w fun e w' => e = .returned (.bool true) ∧ Below w.heap.size w w' := by
  obtain ⟨l0, rfl, hr0, hm0, hw0, hc0⟩ := ReadsInt.ofRowC w0
  have hcod : Codes l0 := by
    intro x hx
    have h2 : IntKind.min .u8 ≤ x ∧ x ≤ IntKind.max .u8 := by simpa [Lit.wf] using hw0 x hx
    have e1 : IntKind.min .u8 = 0 := rfl
    have e2 : IntKind.max .u8 = 255 := rfl
    omega
  exact tourkeep1_BitsOnly.calls _ _ l0 w (Kd.C_of_reads (d := (0 : Int)) (h1 := fun _ => rfl) hr0) hcod (by omega)
end Go.Proofs.Ytggfiacnkbcjbaa.P
