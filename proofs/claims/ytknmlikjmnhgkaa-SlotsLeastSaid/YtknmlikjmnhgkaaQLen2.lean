/- Package sets: Len: walked. No condition. -/
import Derived.Test.YtknmlikjmnhgkaaQAll
namespace Go.Proofs.Ytknmlikjmnhgkaa.P
open Go.RowKit Go.Shelf Go.Proofs.YtknmlikjmnhgkaaW.PrintWords Go.Proofs.YtknmlikjmnhgkaaW.PrintLast Go.Proofs.YtknmlikjmnhgkaaW.PrintMore
attribute [local go_sem] Oper.semAt_some
set_option linter.unusedVariables false
set_option linter.unusedSimpArgs false

theorem strip_length (l : List Int) : (strip l).length ≤ l.length := by
  induction l with
  | nil => simp [strip]
  | cons x l ih => simp only [strip]; split <;> simp <;> omega
theorem join_length (F : Int → Int → Int) (a b : List Int) : (sets_join.f F a b).length ≤ 64 := by
  have h1 := strip_length (joinW F a b (joinN a b))
  rw [joinW_length] at h1
  unfold sets_join.f joinN at *
  omega
instance (l : List Int) : Decidable (Words l) := inferInstanceAs (Decidable (∀ x ∈ l, 0 ≤ x ∧ x < 18446744073709551616))
def sets_Set_Len.f (l0 : List Int) : Option Int := if Words (sets_walked l0) then some ((elems 0 (sets_walked l0)).length : Int) else none
theorem putObj_keepV {v : Value} {w0 : World} (hv : ∀ b, v.ownBlock = some b → b < w0.heap.size) (W : World) (l : Nat) (o o' : Obj) (hl : w0.heap.size ≤ l) (h : W.heap[l]? = some o) (_ : o.isCells = false) (_ : o.isWalk = false) : KeepV v W (W.putObj l o') :=
  fun b e => World.putObj_heap_other (by have := hv b e; omega)
set_option maxHeartbeats 4000000 in
set_option maxRecDepth 100000 in
theorem sets_Set_Len.calls (A0 : Option Addr) (c0 : Nat) (l0 : List Int) (r : Int) (w : World) (hr0 : Kd.C (Kd.int .u64) w A0 l0.length l0) (hc0 : l0.length ≤ c0) (h : sets_Set_Len.f l0 = some r) :
    Calls Try.prog 24 #[.slice A0 l0.length c0] w fun e w' => e = .returned (.int .i64 r) ∧ Below w.heap.size w w' := by
  unfold sets_Set_Len.f at h
  split at h
  case isFalse => cases h
  rename_i hw
  obtain rfl := Option.some.inj h
  clear h
  have hL := join_length (fun a _ => a) l0 []
  change (sets_walked l0).length ≤ 64 at hL
  have hE := elems_length (sets_walked l0) 0 hw
  have H0 := Aside0.mk hr0
  have HC0 := Aside0.mk hc0
  clear hr0 hc0
  refine (callsIn_wide (n := 9)).1 ?_
  refine callsIn_of_wp_marks Try.func24 rfl trivial ?_ rfl
  simp only [Try.ntmps24, List.size_toArray, List.length_cons, List.length_nil, Nat.reduceAdd, Nat.reduceSub, Array.replicate_succ, Array.replicate_zero, List.push_toArray, List.append_toArray, List.nil_append, List.cons_append]
  have HB0 := Aside0.mk ((Below.refl w.heap.size w).alloc (Nat.le_refl _) (.cells #[.int .i64 0] 3))
  have HBX := Aside0.mk (Boxed.new w 3 (.int .i64 0))
  obtain ⟨W1, hW1⟩ : ∃ W1, w.alloc (.cells #[.int .i64 0] 3) = W1 := ⟨_, rfl⟩
  have HS := Aside0.mk (show W1.heap.size = w.heap.size + 1 by rw [← hW1]; simp)
  rw [hW1] at HB0 HBX
  have cl1 := HBX.out.cell
  have fz1 := HBX.out.frozen
  gi_wp2_with (fail "at the call")
  refine ⟨trivial, ?_⟩
  have bs := HBX.out.set (.int .i64 0)
  have HB2 := Aside0.mk (HB0.out.setCell (p := ⟨w.heap.size, 0, none⟩) (Nat.le_refl _) (.int .i64 0))
  have hs2 : (W1.setCell ⟨w.heap.size, 0, none⟩ (.int .i64 0)).heap.size = w.heap.size + 1 := by rw [World.size_setCell, HS.out]
  obtain ⟨W2, hW2⟩ : ∃ W2, W1.setCell ⟨w.heap.size, 0, none⟩ (.int .i64 0) = W2 := ⟨_, rfl⟩
  rw [hW2] at bs HB2 hs2 ⊢
  clear cl1 fz1 HBX HB0 HS hW1 hW2
  refine (callsIn_wide.2 (sets_Set_All.calls A0 c0 l0 _ (Kd.C_below H0.out HB2.out) HC0.out)).mono ?_
  rintro e w5 ⟨rfl, v5, hcl5, hR5, hlt5, hB5⟩
  rw [hs2] at hcl5 hR5 hlt5 hB5
  have b5 : Boxed w5 w.heap.size 3 (.int .i64 0) := (hB5.block _ (by omega)).trans bs
  have hB : Below w.heap.size w w5 := HB2.out.trans (hB5.mono (by omega))
  have hv5 : ∀ b, v5.ownBlock = some b → w.heap.size < b ∧ b < w5.heap.size := fun b e => by
    have := (Kd.R_bound hR5).1 b e
    omega
  clear hB5 bs
  gi_wp2
  refine wpIn_rangeFunc_ownG rfl (by omega) (gf := 58) (lb := #[.pointer (some ⟨w.heap.size + 1, 0, none⟩)]) rfl trivial (enters_of Try.func58 (by kernel_rfl) rfl)
    (sets_walk_stops Fence.wide (9 - 1) trivial rfl (by omega) (fun _ => True) (w.heap.size + 1) (w.heap.size + 1 + 1) (fun _ => True) v5 (sets_walked l0) hL hw (fun _ _ => trivial) w5 (by omega) hcl5 hR5) keepV_t (putObj_keepV (fun b e => (hv5 b e).2)) (Below.refl _ _) (fun _ => rfl)
    (fun pre W => Boxed W w.heap.size 3 (.int .i64 (pre.length : Int)) ∧ Below w.heap.size w W)
    (fun _ _ _ => False)
    (OwnFrom.and (Own.from (boxed_own w.heap.size 3 (fun (pre : List {x : Int // True}) => .int .i64 ((pre.length : Nat) : Int))) _) (ownFrom_below (Nat.le_refl _) (by omega)))
    (fun _ _ _ _ _ hs _ _ => hs)
    ⟨b5, hB⟩
    (fun x => { tmps := #[.slice A0 l0.length c0, undef, .int .i64 0, .pointer (some ⟨w.heap.size, 0, none⟩), .slice A0 l0.length c0, .func (.func 58) #[] #[.pointer (some ⟨w.heap.size + 1, 0, none⟩)], .int .i64 x.1, undef, undef, undef], defers := [] }) ?assign ?body ?done ?stop
  case assign =>
    intro l x W K hK
    gi_wp2
    first | exact hK | simpa using hK
  case body =>
    rintro l pre x W ⟨hbx, hB⟩ hlen
    have cl := hbx.cell
    have fz := hbx.frozen
    gi_wp2
    refine ⟨(KeepsOthers.setCell _ _ _).from _, fun b e => ?_, ?_, hB.setCell (p := ⟨w.heap.size, 0, none⟩) (Nat.le_refl _) _⟩
    · exact Below.heap_setCell _ _ _ _ (by have := (hv5 b e).1; show b ≠ w.heap.size; omega)
    · have := hbx.set (.int .i64 ((pre ++ [x]).length : Int))
      simpa using this
  case done =>
    rintro D ys W hD hys ⟨hbx, hB⟩ hK
    have cl := hbx.cell
    gi_wp2
    refine ⟨by simp, .inl ⟨_, _, rfl, run_takeDeferred hK, ?_⟩⟩
    exact ⟨_, results_tmp rfl _ _ _, by rw [← hys]; simp, hB.trans (belowK_b (w := w) (Nat.le_refl _) W D _ _ (by omega) hK rfl rfl)⟩
  case stop =>
    rintro D c pre W _ _ h _
    exact h.elim
end Go.Proofs.Ytknmlikjmnhgkaa.P
