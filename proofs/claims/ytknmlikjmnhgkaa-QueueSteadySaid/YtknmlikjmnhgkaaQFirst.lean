/- Package queue: First. No condition. -/
import Derived.Test.YtknmlikjmnhgkaaQQueue
namespace Go.Proofs.Ytknmlikjmnhgkaa.P
open Go.RowKit Go.Proofs.YtknmlikjmnhgkaaW.PrintWords Go.Proofs.YtknmlikjmnhgkaaW.PrintLast Go.Proofs.YtknmlikjmnhgkaaW.PrintMore
set_option linter.unusedVariables false
set_option linter.unusedSimpArgs false

set_option maxHeartbeats 4000000 in
set_option maxRecDepth 100000 in
theorem Q_first (w : World) (w0 : World) (g : Nat) (l : List (It Int)) (n : Int) (h : IsQ w0 w g l n) : Calls Try.prog 16 #[.pointer (some ⟨g, 0, none⟩)] w fun e w' => e = .returned (.tuple #[.int .i64 (l.getD 0 (default, 0, 0)).1, .int .i64 (l.getD 0 (default, 0, 0)).2.1, .int .i64 (if l.length = 0 then 4 else 0)]) ∧ Below w.heap.size w w' := by
  by_cases hl : l.length = 0
  · obtain rfl := List.eq_nil_of_length_eq_zero hl
    obtain ⟨v, hb, _, hR⟩ := h
    obtain ⟨A, c, rfl⟩ := Kd.R_slice hR
    have h0 : w.cell? ⟨g, 0, none⟩ = some (.slice A 0 c) := by simp [World.cell?, hb]
    clear hR hb hl
    go_enter Try.func16, Try.ntmps16
    go_wp2
    refine bodyPost_ret (results_tmp3 rfl _ _ _) rfl ?_
    exact ⟨rfl, Below.refl _ _⟩
  · obtain ⟨gb, cap, hb, _, _, _, _, hc⟩ := h.cells (by omega)
    have h0 : w.cell? ⟨g, 0, none⟩ = some (.slice (some ⟨gb, 0, none⟩) l.length cap) := by simp [World.cell?, hb]
    obtain ⟨c0, c1, _⟩ := hc 0 (by omega)
    rw [Nat.zero_mul] at c0 c1
    have f0 : (0 : Int) < (l.length : Int) := by omega
    have f1 : ((l.length : Int) == 0) = false := by
      have : (l.length : Int) ≠ 0 := by omega
      simpa using this
    rw [if_neg hl]
    generalize l.getD 0 (default, 0, 0) = x at c0 c1
    clear hb hc h
    go_enter Try.func16, Try.ntmps16
    go_wp2
    go_quiet (fail)
    go_wp2
    refine bodyPost_ret (results_tmp3 rfl _ _ _) rfl ?_
    exact ⟨rfl, pw_below_drewN (Below.refl _ _) _⟩
end Go.Proofs.Ytknmlikjmnhgkaa.P
