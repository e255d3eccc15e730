/- Package slots: New, Gens; slotsBegun. Under way. No condition. -/
import Derived.Test.YtknmlikjmnhgkaaQSlotsP
namespace Go.Proofs.Ytknmlikjmnhgkaa.P
open Go.RowKit Go.Shelf Go.Proofs.YtknmlikjmnhgkaaW.PrintWords Go.Proofs.YtknmlikjmnhgkaaW.PrintLast Go.Proofs.YtknmlikjmnhgkaaW.PrintMore Go.Proofs.Ytknmlikjmnhgkaa.Pure
set_option linter.unusedVariables false
set_option linter.unusedSimpArgs false

set_option maxHeartbeats 4000000 in
set_option maxRecDepth 100000 in
theorem T_new (w w0 : World) (hB : Below w0.heap.size w0 w) : Calls Try.prog 38 #[] w fun e w' => ∃ g, e = .returned (.pointer (some ⟨g, 0, none⟩)) ∧ IsT w0 w' g [] [] [] ∧ w.heap.size ≤ g ∧ Below w.heap.size w w' := by
  have hs := hB.size
  clear hB
  have hu94 := Try.underlying94
  go_enter Try.func38, Try.ntmps38
  go_wp2
  go_ret
  refine ⟨w.heap.size, rfl, ⟨.slice none 0 0, .slice none 0 0, .slice none 0 0, Array.getElem?_push_size, hs, Kd.R_nil _ _ _ _ _, Kd.R_nil _ _ _ _ _, Kd.R_nil _ _ _ _ _⟩, Nat.le_refl _, below_alloc (Below.refl _ _) _⟩
set_option maxHeartbeats 4000000 in
set_option maxRecDepth 100000 in
theorem T_gens (w w0 : World) (g : Nat) (gens used free : List Int) (h : IsT w0 w g gens used free) (hl : gens.length ≤ 4096) : Calls Try.prog 44 #[.pointer (some ⟨g, 0, none⟩)] w fun e w' => ∃ v0_ : Value, e = .returned v0_ ∧ Kd.R (Kd.int .i64) 3 w' w.heap.size (fun _ => True) v0_ gens ∧ Below w.heap.size w w' := by
  obtain ⟨vg, vu, vf, b1, b2, b3, b4, b5⟩ := h
  obtain ⟨Ag, cg, rfl⟩ := Kd.R_slice b3
  have c0 := cell3_0 b1
  have HR := Aside0.mk b3
  clear b1 b3 b4 b5
  go_enter Try.func44, Try.ntmps44
  go_wp2_with (((with_reducible refine gate_builtin (b := .append) (xs := #[.const (.slice none 0 0), .tmp 6]) rfl ?_); at_builtin; refine Kd.R_append_rows (Kd.int .i64) (Rr := (Kd.int .i64).K w) (w0 := w) w.heap.size rfl (.const (.slice none 0 0)) (.tmp 6) 22 3 (.int .i64 0) 8 rfl Try.underlying22 infoI3 rfl (by decide) (by omega) (.slice none 0 0) [] gens Ag gens.length cg (fun _ => True) (fun _ => False) rfl rfl (Kd.R_nil _ _ _ _ _) (Kd.R_reads' HR.out).2.2 (fun _ _ hk => hk) (fun _ hk => hk.elim) (fun _ _ => trivial) (Below.refl _ _) (Nat.le_refl _) (by simp; omega) ?_; intro v8 w8 ho hb hg hat; have HO := Aside0.mk (show Kd.R (Kd.int .i64) 3 w8 w.heap.size (fun _ => True) v8 gens from ho); have HB := Aside0.mk hb; clear ho hb hg hat))
  go_ret
  exact ⟨_, rfl, HO.out, HB.out⟩
set_option maxHeartbeats 4000000 in
set_option maxRecDepth 100000 in
theorem slotsBegun.calls (w : World) : Calls Try.prog 37 #[] w fun e w' => e = .returned (.bool true) ∧ Below w.heap.size w w' := by
  go_enter Try.func37, Try.ntmps37
  go_wp2_with (fail)
  refine (T_new w w (Below.refl _ _)).mono ?_
  rintro e w1 ⟨g, rfl, hT, hg, hb⟩
  have hn1 : nextN [] [] = 0 := rfl
  have hT1 := Aside0.mk hT
  have HB1 := Aside0.mk hb
  clear hT hb
  go_wp2_with (fail)
  have he : ∀ x ∈ elems 0 [], 0 ≤ x ∧ x < ((([] : List Int).length : Nat) : Int) := fun x hx => by cases hx
  refine (T_take w1 w g [] [] [] 0 [0] hn1 rfl hT1.out HB1.out goodS_nil goodS_nil (by decide) (by decide) he).mono ?_
  rintro e w2 ⟨rfl, hT2, hB2, _⟩
  have HB2 := Aside0.mk hB2
  have hd : dif [] (oneL ((0 : Nat) : Int)) = [] := by decide +kernel
  rw [hd] at hT2
  have he2 : ∀ x ∈ elems 0 [], 0 ≤ x ∧ x < ((([0] : List Int).length : Nat) : Int) := fun x hx => by cases hx
  rw [show rd [0] ((0 : Nat) : Int) = 0 from rfl, show ((0 : Nat) : Int) = 0 from rfl]
  have b3 := below_alloc (Below.refl w2.heap.size w2) (.cells #[.int .i64 0, .int .i64 0] 64)
  have hE : (w2.alloc (.cells #[.int .i64 0, .int .i64 0] 64)).heap[w2.heap.size]? = some (.cells #[.int .i64 0, .int .i64 0] 64 (0, 0)) := Array.getElem?_push_size
  have hT3 := hT2.below b3
  have hB3 := HB2.out.trans (b3.mono HB2.out.size)
  have hkg : w2.heap.size ≠ g := by
    obtain ⟨_, _, _, h1, _⟩ := hT2
    have := blk_lt h1
    omega
  have HE := Aside0.mk hE
  have HT3 := Aside0.mk hT3
  clear hn1 he hT2 b3 hE hT3
  go_wp2_with (fail)
  obtain ⟨w3, hw3⟩ : ∃ W, w2.alloc (.cells #[.int .i64 0, .int .i64 0] 64) = W := ⟨_, rfl⟩
  have hE := HE.out
  have hT3 := HT3.out
  clear HE HT3
  rw [hw3] at hE hT3 hB3 ⊢
  obtain ⟨k, hk⟩ : ∃ k, w2.heap.size = k := ⟨_, rfl⟩
  rw [hk] at hE hkg ⊢
  clear hw3 hk
  refine (T_take w3 w g [0] (uni [] (oneL ((0 : Nat) : Int))) [] 1 [0, 0] rfl rfl hT3 hB3 (good_uni _ _) goodS_nil (by decide) (by decide) he2).mono ?_
  rintro e w4 ⟨rfl, _, hB4, hF4⟩
  have hE4 := (hF4.same k _ _ hE (by decide) hkg).trans hE
  rw [show rd [0, 0] ((1 : Nat) : Int) = 0 from rfl, show ((1 : Nat) : Int) = 1 from rfl]
  have b5 := below_alloc (Below.refl w4.heap.size w4) (.cells #[.int .i64 1, .int .i64 0] 64)
  have hE5 : (w4.alloc (.cells #[.int .i64 1, .int .i64 0] 64)).heap[w4.heap.size]? = some (.cells #[.int .i64 1, .int .i64 0] 64 (0, 0)) := Array.getElem?_push_size
  have hE6 := (b5.block k (blk_lt hE4)).trans hE4
  have HB6 := Aside0.mk (hB4.trans (b5.mono hB4.size))
  have a0 := cell2_0 hE6
  have a1 := cell2_1 hE6
  have a2 := cell2_0 hE5
  have a3 := cell2_1 hE5
  clear hE hT3 hB3 hB4 hF4 hE4 b5 hE5 hE6
  go_wp2_with (fail)
  go_ret
  exact ⟨rfl, HB6.out⟩
end Go.Proofs.Ytknmlikjmnhgkaa.P
