/- bits.Writer.Bytes and bits.New, walked. No condition. -/
import Derived.Test.YtggfiacnkbcjbaaQW
namespace Go.Proofs.Ytggfiacnkbcjbaa.P
open Go.RowKit Go.Proofs.YtggfiacnkbcjbaaW.PrintWords Go.Proofs.YtggfiacnkbcjbaaW.PrintLast Go.Proofs.YtggfiacnkbcjbaaW.PrintMore
attribute [local go_sem] max2_int min2_int max_two min_two max_three min_three max_four min_four   -- for this text's walks alone
set_option linter.unusedVariables false
set_option linter.unusedSimpArgs false

def bits_Writer_Bytes.f (b : ByteArray) (n : Int) : Option (List Int × ByteArray × Int) := if b.size ≤ 140737488355328 then some (bytesOf b, b, n) else none
set_option maxHeartbeats 8000000 in
set_option maxRecDepth 100000 in
theorem bits_Writer_Bytes.callsB (g : Nat) (s0_0 : ByteArray) (s0_1 : Int) (r1 : List Int) (r2 : ByteArray) (r3 : Int) (w0 w : World) (hI : IsS64 w0 w g s0_0 s0_1) (hB : Below w0.heap.size w0 w) (h : bits_Writer_Bytes.f s0_0 s0_1 = some (r1, r2, r3)) :
    Calls Try.prog 39 #[.pointer (some ⟨g, 0, none⟩)] w fun e w' => ∃ v0_ : Value, e = .returned v0_ ∧ Kd.R (Kd.int .u8) 5 w' w.heap.size (fun _ => True) v0_ r1 ∧ IsS64 w0 w' g r2 r3 ∧ Below w0.heap.size w0 w' ∧ Below w.heap.size w w' := by
  unfold bits_Writer_Bytes.f at h
  split at h
  case isFalse => cases h
  rename_i hc
  simp only [Option.some.injEq, Prod.mk.injEq] at h
  obtain ⟨rfl, rfl, rfl⟩ := h
  have HI := Aside0.mk hI
  have HB := Aside0.mk hB
  obtain ⟨v, HG, hge, HR, hcodes⟩ := hI
  obtain ⟨A, c, rfl, hlc, hC⟩ := Kd.R_reads HR
  have hcz_0 := cellS64_0 HG
  have HCA := Aside0.mk hC
  have hlen := Aside0.mk (show (bytesOf s0_0).length ≤ 140737488355328 by rw [bytesOf_length]; exact hc)
  clear HG hge HR hcodes hB hlc hC hc
  go_enter Try.func39, Try.ntmps39
  go_wp2_with ((with_reducible refine gate_builtin (b := .append) (xs := #[.const (.slice none 0 0), .tmp 6]) rfl ?_); at_builtin; refine Kd.R_append_row (Value.int .u8) 0 (w0 := w) w.heap.size rfl (.const (.slice none 0 0)) (.tmp 6) 44 5 (.int .u8 0) 1 rfl Try.underlying44 info5 rfl (by omega) (.slice none 0 0) [] (bytesOf s0_0) A (bytesOf s0_0).length c (fun _ => True) rfl rfl (fun _ _ => trivial) (Kd.R_nil _ _ _ _ _) HCA.out (Below.refl _ _) (Nat.le_refl _) ?aL ?_; (case aL => have := hlen.out; simp; omega); intro v1 w1 ho hb hg hat; have ho1 := Aside0.mk ho; have hb1 := Aside0.mk hb; clear ho hb hg hat)
  go_ret
  refine ⟨_, rfl, ?_, HI.out.below hb1.out, HB.out.trans (hb1.out.mono HB.out.size), hb1.out⟩
  exact ho1.out

theorem bits_Writer_Bytes.calls (g : Nat) (s0_0 : ByteArray) (s0_1 : Int) (r1 : List Int) (r2 : ByteArray) (r3 : Int) (w0 w : World) (hI : IsS64 w0 w g s0_0 s0_1) (hB : Below w0.heap.size w0 w) (h : bits_Writer_Bytes.f s0_0 s0_1 = some (r1, r2, r3)) :
    Calls Try.prog 39 #[.pointer (some ⟨g, 0, none⟩)] w fun e w' => ∃ v0_ : Value, e = .returned v0_ ∧ Kd.R (Kd.int .u8) 5 w' w.heap.size (fun _ => True) v0_ r1 ∧ IsS64 w0 w' g r2 r3 ∧ Below w0.heap.size w0 w' ∧ KeepW w w' g none :=
  (bits_Writer_Bytes.callsB g s0_0 s0_1 r1 r2 r3 w0 w hI hB h).mono fun e w' ⟨v, h1, h2, h3, h4, h5⟩ => ⟨v, h1, h2, h3, h4, KeepW.of_below h5 g none⟩
instance : DecidablePred Codes := fun l => by unfold Codes; infer_instance
def bits_New.f (l : List Int) : Option (ByteArray × Int) := if Codes l ∧ l.length ≤ 140737488355328 then some (strOfNums l, 0) else none
set_option maxHeartbeats 8000000 in
set_option maxRecDepth 100000 in
theorem bits_New.callsC (A0 : Option Addr) (c0 : Nat) (l0 : List Int) (r1 : ByteArray) (r2 : Int) (w0 w : World) (hB : Below w0.heap.size w0 w) (hr0 : Kd.C (Kd.int .u8) w A0 l0.length l0) (h : bits_New.f l0 = some (r1, r2)) :
    Calls Try.prog 38 #[.slice A0 l0.length c0] w fun e w' => ∃ g, e = .returned (.pointer (some ⟨g, 0, none⟩)) ∧ IsS91 w0 w' g r1 r2 ∧ Below w0.heap.size w0 w' ∧ Below w.heap.size w w' := by
  unfold bits_New.f at h
  split at h
  case isFalse => cases h
  rename_i hc
  obtain ⟨hc1, hc2⟩ := hc
  simp only [Option.some.injEq, Prod.mk.injEq] at h
  obtain ⟨rfl, rfl⟩ := h
  have HB := Aside0.mk hB
  have HCA := Aside0.mk hr0
  have H1 := Aside0.mk hc1
  have H2 := Aside0.mk hc2
  clear hB hr0 hc1 hc2
  go_enter Try.func38, Try.ntmps38
  go_wp2_with ((with_reducible refine gate_builtin (b := .append) (xs := #[.const (.slice none 0 0), .tmp 3]) rfl ?_); at_builtin; refine Kd.R_append_row (Value.int .u8) 0 (w0 := w) w.heap.size rfl (.const (.slice none 0 0)) (.tmp 3) 44 5 (.int .u8 0) 1 rfl Try.underlying44 info5 rfl (by omega) (.slice none 0 0) [] l0 A0 l0.length c0 (fun _ => True) rfl rfl (fun _ _ => trivial) (Kd.R_nil _ _ _ _ _) HCA.out (Below.refl _ _) (Nat.le_refl _) ?aL ?_; (case aL => have := H2.out; simp; omega); intro v1 w1 ho hb hg hat; obtain ⟨A1, c1, rfl, hlc, _⟩ := Kd.R_reads ho; have ho1 := Aside0.mk ho; have hb1 := Aside0.mk hb; clear ho hb hg hat hlc)
  go_ret
  have hR : Kd.R (Kd.int .u8) 5 w1 w.heap.size (fun _ => True) (.slice A1 l0.length c1) l0 := ho1.out
  have hb0 := HB.out.trans (hb1.out.mono HB.out.size)
  refine ⟨w1.heap.size, rfl, IsV.to91 ⟨.slice A1 l0.length c1, blk_new w1 _, hb0.size, Kd.R_lower (Kd.R_alloc (Kd.R_mono (Kd.R_bound hR) (fun _ h => h.2.2.1)) _) HB.out.size, H1.out⟩, below_alloc hb0 _, below_alloc hb1.out _⟩
theorem bits_New.calls (A0 : Option Addr) (c0 : Nat) (l0 : List Int) (r1 : ByteArray) (r2 : Int) (w0 w : World) (hB : Below w0.heap.size w0 w) (hr0 : Kd.R (Kd.int .u8) 5 w w0.heap.size (fun _ => True) (.slice A0 l0.length c0) l0) (hc0 : l0.length ≤ c0) (h : bits_New.f l0 = some (r1, r2)) :
    Calls Try.prog 38 #[.slice A0 l0.length c0] w fun e w' => ∃ g, e = .returned (.pointer (some ⟨g, 0, none⟩)) ∧ IsS91 w0 w' g r1 r2 ∧ Below w0.heap.size w0 w' ∧ Below w.heap.size w w' := by
  obtain ⟨A, c, he, _, hC⟩ := Kd.R_reads hr0
  cases he
  exact bits_New.callsC A0 c0 l0 r1 r2 w0 w hB hC h
end Go.Proofs.Ytggfiacnkbcjbaa.P
