/- bits.Reader.Left and bits.Reader.Get, walked. No condition. -/
import Derived.Test.YtggfiacnkbcjbaaQW
namespace Go.Proofs.Ytggfiacnkbcjbaa.P
open Go.RowKit Go.Proofs.YtggfiacnkbcjbaaW.PrintWords Go.Proofs.YtggfiacnkbcjbaaW.PrintLast Go.Proofs.YtggfiacnkbcjbaaW.PrintMore
attribute [local go_sem] max2_int min2_int max_two min_two max_three min_three max_four min_four   -- for this text's walks alone
set_option linter.unusedVariables false
set_option linter.unusedSimpArgs false

def bits_Reader_Left.f (b : ByteArray) (n : Int) : Option (Int × ByteArray × Int) :=
  if 0 ≤ n ∧ n ≤ 1125899906843000 ∧ b.size ≤ 140737488355328 then some (8 * (b.size : Int) - n, b, n) else none
set_option maxHeartbeats 8000000 in
set_option maxRecDepth 100000 in
theorem bits_Reader_Left.calls (g : Nat) (s0_0 : ByteArray) (s0_1 : Int) (r1 : Int) (r2 : ByteArray) (r3 : Int) (w0 w : World) (hI : IsS91 w0 w g s0_0 s0_1) (hB : Below w0.heap.size w0 w) (h : bits_Reader_Left.f s0_0 s0_1 = some (r1, r2, r3)) :
    Calls Try.prog 50 #[.pointer (some ⟨g, 0, none⟩)] w fun e w' => e = .returned (.int .i64 r1) ∧ IsS91 w0 w' g r2 r3 ∧ Below w0.heap.size w0 w' ∧ KeepBut w w' g none := by
  unfold bits_Reader_Left.f at h
  split at h
  case isFalse => cases h
  rename_i hc
  obtain ⟨h0, h1, h2⟩ := hc
  simp only [Option.some.injEq, Prod.mk.injEq] at h
  obtain ⟨rfl, rfl, rfl⟩ := h
  have HI := Aside0.mk hI
  have HB := Aside0.mk hB
  have HK := Aside0.mk (KeepBut.refl w g none)
  obtain ⟨v, HG, hge, HR, hcodes⟩ := hI
  obtain ⟨A, c, rfl, hlc, _⟩ := Kd.R_reads HR
  rw [bytesOf_length] at HG hlc
  have hcz_0 := cellS91_0 HG
  have hcz_1 := cellS91_1 HG
  have hq : IntKind.i64.wrap (8 * (s0_0.size : Int)) = 8 * (s0_0.size : Int) := IntWalk.i64_in _ (by omega)
  have hq2 : IntKind.i64.wrap (8 * (s0_0.size : Int) - s0_1) = 8 * (s0_0.size : Int) - s0_1 := IntWalk.i64_in _ (by clear hq; omega)
  clear HG hge HR hcodes hB hlc
  go_enter Try.func50, Try.ntmps50
  go_wp2
  repeat (go_quiet (fail); try go_wp2)
  go_ret
  exact ⟨rfl, by repeat (first | exact HI.out | apply IsS91.drewN | apply IsS91.drew), by repeat (first | exact HB.out | apply pw_below_drewN | apply below_drew1), by repeat (first | exact HK.out | apply KeepBut.drewN | apply KeepBut.drew)⟩

def get_v (l : List Int) (m i : Int) : Int := IntKind.u64.wrap (IntKind.u64.wrap (Go.bits .and .u8 (rd l (m / 8) / 2 ^ (m % 8).toNat) 1) * 2 ^ i.toNat)
def get_l : Nat → Int → Int → List Int → Int → Option (Int × Int)
  | 0, _, v, _, m => some (v, m)
  | d + 1, i, v, l, m => if m / 8 < (l.length : Int) then get_l d (i + 1) (Go.bits .or .u64 v (get_v l m i)) l (m + 1) else none
def bits_Reader_Get.f (b : ByteArray) (n m : Int) : Option (Int × Int × ByteArray × Int) :=
  if m < 0 ∨ 64 < m then some (0, 1, b, n)
  else if 0 ≤ n ∧ n ≤ 1125899906843000 ∧ b.size ≤ 140737488355328 then
    if 8 * (b.size : Int) - n < m then some (0, 14, b, n)
    else (get_l m.toNat 0 0 (bytesOf b) n).bind fun t => some (t.1, 0, b, t.2)
  else none
set_option maxHeartbeats 8000000 in
set_option maxRecDepth 100000 in
theorem bits_Reader_Get.calls (g : Nat) (s0_0 : ByteArray) (s0_1 : Int) (a1 : Int) (r1 : Int) (r2 : Int) (r3 : ByteArray) (r4 : Int) (w0 w : World) (hI : IsS91 w0 w g s0_0 s0_1) (hB : Below w0.heap.size w0 w) (h : bits_Reader_Get.f s0_0 s0_1 a1 = some (r1, r2, r3, r4)) :
    Calls Try.prog 47 #[.pointer (some ⟨g, 0, none⟩), .int .i64 a1] w fun e w' => e = .returned (.tuple #[.int .u64 r1, .int .i64 r2]) ∧ IsS91 w0 w' g r3 r4 ∧ Below w0.heap.size w0 w' ∧ KeepBut w w' g none := by
  unfold bits_Reader_Get.f at h
  have HB := Aside0.mk hB
  have HK := Aside0.mk (KeepBut.refl w g none)
  by_cases c1 : a1 < 0 ∨ 64 < a1
  · rw [if_pos c1] at h
    simp only [Option.some.injEq, Prod.mk.injEq] at h
    obtain ⟨rfl, rfl, rfl, rfl⟩ := h
    have HI := Aside0.mk hI
    clear hI hB
    by_cases c2 : a1 < 0
    · clear c1
      go_enter Try.func47, Try.ntmps47
      go_wp2
      go_ret2
      exact ⟨rfl, HI.out, HB.out, HK.out⟩
    · have c3 : 64 < a1 := by omega
      clear c1
      go_enter Try.func47, Try.ntmps47
      go_wp2
      go_ret2
      exact ⟨rfl, HI.out, HB.out, HK.out⟩
  rw [if_neg c1] at h
  have c2 : 0 ≤ a1 := by omega
  have c3 : a1 ≤ 64 := by omega
  clear c1
  split at h
  case isFalse => cases h
  rename_i hc
  have HL : bits_Reader_Left.f s0_0 s0_1 = some (8 * (s0_0.size : Int) - s0_1, s0_0, s0_1) := by unfold bits_Reader_Left.f; rw [if_pos hc]
  have HLA := Aside0.mk HL
  have HCA := Aside0.mk hc
  have HI := Aside0.mk hI
  clear HL hI hB hc
  by_cases c4 : 8 * (s0_0.size : Int) - s0_1 < a1
  · rw [if_pos c4] at h
    simp only [Option.some.injEq, Prod.mk.injEq] at h
    obtain ⟨rfl, rfl, rfl, rfl⟩ := h
    go_enter Try.func47, Try.ntmps47
    go_wp2_with (go_at_call 50; (with_reducible refine (bits_Reader_Left.calls g s0_0 s0_1 _ _ _ w0 _ HI.out HB.out HLA.out).mono ?_); rintro e w' ⟨rfl, hi1, hb1, hk1⟩; have n1 := Aside0.mk hi1; have n2 := Aside0.mk hb1; have n3 := Aside0.mk (KeepBut.trans HK.out hk1 (.inl rfl)); clear HI HB HK hi1 hb1 hk1; have HI := n1; have HB := n2; have HK := n3; clear n1 n2 n3)
    go_ret2
    exact ⟨rfl, HI.out, HB.out, HK.out⟩
  rw [if_neg c4] at h
  obtain ⟨⟨v', n'⟩, H, hr⟩ := Option.bind_eq_some_iff.1 h
  simp only [Option.some.injEq, Prod.mk.injEq] at hr
  obtain ⟨rfl, rfl, rfl, rfl⟩ := hr
  clear h
  have HH := Aside0.mk H
  have c5 : decide (8 * (s0_0.size : Int) - s0_1 < a1) = false := decide_eq_false c4
  clear H c4
  go_enter Try.func47, Try.ntmps47
  go_wp2_with (go_at_call 50; (with_reducible refine (bits_Reader_Left.calls g s0_0 s0_1 _ _ _ w0 _ HI.out HB.out HLA.out).mono ?_); rintro e w' ⟨rfl, hi1, hb1, hk1⟩; have n1 := Aside0.mk hi1; have n2 := Aside0.mk hb1; have n3 := Aside0.mk (KeepBut.trans HK.out hk1 (.inl rfl)); clear HI HB HK hi1 hb1 hk1; have HI := n1; have HB := n2; have HK := n3; clear n1 n2 n3)
  go_loopg [6, 19] a1.toNat (fun kq v6 v19 w' => ∃ (i v n : Int), v6 = .int .u64 v ∧ v19 = .int .i64 i ∧ Aside0 (get_l kq i v (bytesOf s0_0) n = some (v', n')) ∧ Aside0 (i + (kq : Int) = a1 ∧ 0 ≤ i ∧ 0 ≤ n ∧ n + (kq : Int) ≤ 8 * (s0_0.size : Int)) ∧ Aside0 (IsV w0 w' g (bytesOf s0_0) n) ∧ Aside0 (KeepBut w w' g none) ∧ Aside0 (Below w0.heap.size w0 w'))
  case atStart => exact ⟨0, 0, s0_1, rfl, rfl, HH, ⟨by have := HCA.out; have := of_decide_eq_false c5; omega⟩, ⟨HI.out⟩, HK, HB⟩
  case round =>
    clear HI HK HB HH
    obtain ⟨i, v, n, rfl, rfl, HA, HF, HI, HK, HB⟩ := hrel
    have f1 : 0 ≤ n := HF.out.2.2.1
    have f2 : 0 ≤ i := HF.out.2.1
    have f3 : n ≤ 1125899906843000 := by have := HF.out; have := HCA.out; omega
    have f4 : i ≤ 64 := by have := HF.out; omega
    cases gk with
    | zero =>
      have d1 : decide (i < a1) = false := decide_eq_false (by have := HF.out; omega)
      have H := HA.out
      simp only [get_l, Option.some.injEq, Prod.mk.injEq] at H
      obtain ⟨rfl, rfl⟩ := H
      go_wp2
      go_ret2
      exact ⟨rfl, HI.out, HB.out, HK.out⟩
    | succ k1 =>
      have d1 : decide (i < a1) = true := decide_eq_true (by have := HF.out; omega)
      have H := HA.out
      unfold get_l at H
      have h9 : n / 8 < ((bytesOf s0_0).length : Int) := by
        by_cases h9 : n / 8 < ((bytesOf s0_0).length : Int)
        · exact h9
        · rw [if_neg h9] at H; cases H
      rw [if_pos h9] at H
      have H2 := Aside0.mk H
      clear H HA
      obtain ⟨v0, HG, hge, HR, hcodes⟩ := HI.out
      obtain ⟨b, cap, rfl, hbb, hbs, cells, hcells⟩ := Kd.R_form HR (by omega)
      have hcz_0 := cellS91_0 HG
      have hcz_1 := cellS91_1 HG
      obtain ⟨hx0, hx1⟩ := Kd.R_celln 0 HR (n / 8) (by omega) h9
      have HGA := Aside0.mk HG
      have hfz := blk_frozen HG 1
      clear HG HR hcodes hcells hbs hbb hge hx1
      have d2 : 0 ≤ n / 8 := by omega
      have hq2 : n.tmod 8 = n % 8 := Int.tmod_eq_emod_of_nonneg f1
      have d3 : 0 ≤ n % 8 := by clear hq2; omega
      have d4 : n % 8 < 8 := by clear hq2; omega
      have hq1 : IntKind.i64.wrap (n.tdiv 8) = n / 8 := by rw [Int.tdiv_eq_ediv_of_nonneg f1]; exact IntWalk.i64_in _ (by clear hq2; omega)
      go_upto_region 9 with (fail)
      go_quiet (fail)
      clear hq1 hq2
      go_wp2
      go_roundg k1
      case rel =>
        refine ⟨i + 1, _, n + 1, rfl, rfl, H2, ⟨?_⟩, ⟨?_⟩, ⟨?_⟩, ⟨?_⟩⟩
        · have := HF.out; omega
        · repeat (first | exact IsV.set_1 HI.out (n + 1) | apply IsV.drewN | apply IsV.drew)
        · repeat (first | exact KeepBut.set_ HK.out 1 _ | apply KeepBut.drewN | apply KeepBut.drew)
        · exact below_setCell_ (pw_below_drewN HB.out _) (IsV.ge2 HI.out) 1 _
      case measure => exact Nat.lt_succ_self _
end Go.Proofs.Ytggfiacnkbcjbaa.P
