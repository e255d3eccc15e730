/- Package sets: All: walked. No condition. -/
import Derived.Test.YtknmlikjmnhgkaaQLen
namespace Go.Proofs.Ytknmlikjmnhgkaa.P
open Go.RowKit Go.Proofs.YtknmlikjmnhgkaaW.PrintWords Go.Proofs.YtknmlikjmnhgkaaW.PrintLast Go.Proofs.YtknmlikjmnhgkaaW.PrintMore
set_option linter.unusedVariables false
set_option linter.unusedSimpArgs false

theorem sets_All_1.calls (x y : Int) (w : World) : Calls Try.prog 57 #[.int .u64 x, .int .u64 y] w fun e w' => e = .returned (.int .u64 ((fun a _ => a) x y)) ∧ w = w' := by
  go_enter Try.func57, Try.ntmps57
  go_wp2
  go_ret
  exact ⟨rfl, rfl⟩
/-- the words that a walk over a set goes through -/
def sets_walked (l : List Int) : List Int := sets_join.f (fun a _ => a) l []
set_option maxHeartbeats 2000000 in
set_option maxRecDepth 100000 in
theorem sets_Set_All.calls (A0 : Option Addr) (c0 : Nat) (l0 : List Int) (w : World) (hr0 : Kd.C (Kd.int .u64) w A0 l0.length l0) (hc0 : l0.length ≤ c0) :
    Calls Try.prog 27 #[.slice A0 l0.length c0] w fun e w' => e = .returned (.func (.func 58) #[] #[.pointer (some ⟨w.heap.size, 0, none⟩)]) ∧
      ∃ v : Value, w'.cell? ⟨w.heap.size, 0, none⟩ = some v ∧ Kd.R (Kd.int .u64) 37 w' (w.heap.size + 1) (fun _ => True) v (sets_walked l0) ∧ w.heap.size < w'.heap.size ∧ Below w.heap.size w w' := by
  have H0 := Aside0.mk hr0
  have HC0 := Aside0.mk hc0
  obtain ⟨A1, c1, e1, h1, hC1⟩ := Kd.R_reads (Kd.R_nil (Kd.int .u64) 37 w 0 (fun _ => True))
  injection e1 with e1 en e2
  subst e1 e2
  clear en
  have HN := Aside0.mk hC1
  clear hr0 hc0 hC1 h1
  have HB0 := Aside0.mk ((Below.refl w.heap.size w).alloc (Nat.le_refl _) (.cells #[.slice A0 l0.length c0] 36))
  go_enter Try.func27, Try.ntmps27
  have bx := Boxed.new w 36 (.slice A0 l0.length c0)
  obtain ⟨W1, hW1⟩ : ∃ W1, w.alloc (.cells #[.slice A0 l0.length c0] 36) = W1 := ⟨_, rfl⟩
  have hs : W1.heap.size = w.heap.size + 1 := by rw [← hW1]; simp
  rw [hW1] at bx HB0
  have cl1 := bx.cell
  have HS := Aside0.mk hs
  have HBX := Aside0.mk bx
  clear hs bx
  go_wp2_with (fail "at the call")
  refine (sets_join.calls (fun a _ => a) 57 Try.f57 Try.func57 (by kernel_rfl) rfl sets_All_1.calls A0 c0 l0 none 0 [] _ (Kd.C_below H0.out HB0.out) HC0.out (Kd.C_below HN.out HB0.out) (Nat.le_refl _)).mono ?_
  rintro e w5 ⟨v5, rfl, ho, hb⟩
  obtain ⟨A5, c5, rfl⟩ := Kd.R_slice ho
  have b5 : Boxed w5 w.heap.size 36 (.slice A0 l0.length c0) := (hb.block _ HBX.out.lt).trans HBX.out
  have cl := b5.cell
  have fz := b5.frozen
  have HO := Aside0.mk ho
  have HB := Aside0.mk hb
  clear ho hb b5
  go_wp2
  go_ret
  refine ⟨rfl, _, World.cell?_setCell_same' _ _ _ (by rw [cl]; rfl), ?_, ?_, ?_⟩
  · exact Kd.R_mono (Kd.R_far (p := ⟨w.heap.size, 0, none⟩) (by have h := Kd.R_bound HO.out; rw [HS.out] at h; exact h) (fun k hk => by have := hk.2.1; show k ≠ w.heap.size; omega) _) (fun _ _ => trivial)
  · have := HB.out.size; have := HS.out; rw [World.size_setCell]; omega
  · exact (HB0.out.trans (HB.out.mono (by have := HS.out; omega))).setCell (p := ⟨w.heap.size, 0, none⟩) (Nat.le_refl _) _
end Go.Proofs.Ytknmlikjmnhgkaa.P
