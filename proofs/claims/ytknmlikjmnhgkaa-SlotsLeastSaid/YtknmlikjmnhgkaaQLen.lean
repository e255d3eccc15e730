/- Package sets: All, Len: walked. No condition. -/
import Derived.Test.YtknmlikjmnhgkaaQIter
namespace Go.Proofs.Ytknmlikjmnhgkaa.P
open Go.RowKit Go.Shelf Go.Proofs.YtknmlikjmnhgkaaW.PrintWords Go.Proofs.YtknmlikjmnhgkaaW.PrintLast Go.Proofs.YtknmlikjmnhgkaaW.PrintMore
attribute [local go_sem] Oper.semAt_some
set_option linter.unusedVariables false
set_option linter.unusedSimpArgs false

/-- the row that a slice value names lies as it lay -/
def KeepV (v : Value) (W W' : World) : Prop := ∀ b, v.ownBlock = some b → W'.heap[b]? = W.heap[b]?
theorem keepV_t {v : Value} {A B C : World} (h : KeepV v A B) (k : KeepV v B C) : KeepV v A C := fun b e => (k b e).trans (h b e)
theorem KeepV.refl (v : Value) (W : World) : KeepV v W W := fun _ _ => rfl

theorem wbits_length (k : Nat) : ∀ (m i x : Nat), i + m = 64 → x < 2 ^ m → (wbits k i x).length ≤ m := by
  intro m
  induction m with
  | zero => intro i x h hx; obtain rfl : x = 0 := by simpa using hx
            rw [wbits_zero]; simp
  | succ m ih =>
    intro i x h hx
    rw [Nat.pow_succ] at hx
    have h1 := ih (i + 1) (x / 2) (by omega) (by omega)
    by_cases h0 : x = 0
    · subst h0; rw [wbits_zero]; simp
    · by_cases h2 : x % 2 = 1
      · rw [wbits_odd k i x h2]; simp; omega
      · rw [wbits_even k i x (by omega) h0]; omega
/-- words of 64 bits -/
def Words (l : List Int) : Prop := ∀ x ∈ l, 0 ≤ x ∧ x < 18446744073709551616
theorem elems_length : ∀ (l : List Int) (k : Nat), Words l → (elems k l).length ≤ 64 * l.length := by
  intro l
  induction l with
  | nil => intro k _; simp [elems]
  | cons x l ih =>
    intro k hw
    have h1 := ih (k + 1) (fun y hy => hw y (List.mem_cons_of_mem _ hy))
    have h2 := hw x List.mem_cons_self
    have h3 := wbits_length k 64 0 x.toNat rfl (by omega)
    simp only [elems, List.length_append, List.length_cons]
    omega

set_option maxHeartbeats 1000000 in
set_option maxRecDepth 100000 in
theorem sets_walk_nil_in (F : Fence) (n : Nat) (h58 : F.fn 58) (hro : F.round = none) {α : Type} (l Bs : Nat) (J : List α → World → Prop)
    (W : World) (hBs : W.cell? ⟨Bs, 0, none⟩ = some (.slice none 0 0)) (h0 : J [] W) :
    CallsIn F n Try.prog 58 #[.func (.yield l) #[] #[], .pointer (some ⟨Bs, 0, none⟩)] W fun e W' => (∃ v, e = .returned v) ∧ J [] W' := by
  refine callsIn_of_wp Try.func58 rfl h58 ?_ hro
  simp only [Try.ntmps58, List.size_toArray, List.length_cons, List.length_nil, Nat.reduceAdd, Nat.reduceSub, Array.replicate_succ, Array.replicate_zero, List.push_toArray, List.append_toArray, List.nil_append, List.cons_append]
  gi_wp2
  gi_loopw [8] (fun i wr => i = .int .i64 0 ∧ J [] wr) (fun _ _ => 0)
  case atStart => exact ⟨rfl, h0⟩
  case round =>
    obtain ⟨rfl, hJs⟩ := hrel
    gi_wp2
    go_end0
    exact ⟨⟨_, rfl⟩, hJs⟩

theorem sets_walk_stops (F : Fence) (n : Nat) (h58 : F.fn 58) (hro : F.round = none) (hn : 1 ≤ n) (P : Int → Prop) (Bs base : Nat) (ok : Nat → Prop) (v : Value) (L : List Int) (hL : L.length ≤ 64) (hw : Words L) (hP : ∀ x ∈ elems 0 L, P x)
    (w : World) (hBs : Bs < w.heap.size) (hcell : w.cell? ⟨Bs, 0, none⟩ = some v) (hR : Kd.R (Kd.int .u64) 37 w base ok v L) :
    SeqStopsK F n Try.prog 58 #[.pointer (some ⟨Bs, 0, none⟩)] (fun x : {x : Int // P x} => #[Value.int .i64 x.1]) (KeepV v) (fun ys => ys.map (·.1) = elems 0 L) (fun pre => pre.map (·.1) <+: elems 0 L) (elems 0 L).length w := fun l J Jx W hW _ _ hY h0 => by
  have hc' := (hW.cell (p := ⟨Bs, 0, none⟩) hBs).trans hcell
  have hR' := Kd.R_below hR hW
  obtain ⟨inner, ho⟩ := Kd.R_own hR'
  rcases ho.2 with ⟨rfl, hnil⟩ | ⟨g, cap, cur, rfl, hg, _⟩
  · obtain rfl : L = [] := List.eq_nil_of_length_eq_zero hnil
    exact (sets_walk_nil_in F n h58 hro l Bs J W hc' h0).mono fun e W' ⟨he, hj⟩ => ⟨he, .inl ⟨[], rfl, hj⟩⟩
  · exact sets_walk_in F n h58 hro hn P l Bs g cap L hL hw hP J Jx (fun pre x W1 h1 h2 => (hY pre x W1 h1 h2).mono (fun e W' h => by
        rcases h with ⟨a, b, c⟩ | h
        · exact .inl ⟨a, b, c g (by simp [Value.ownBlock])⟩
        · exact .inr h)) W hc' (fun j hj => by
      have := (Kd.R_celln 0 hR' (j : Int) (by omega) (by omega)).1
      simp only [Int.toNat_natCast] at this
      rw [this]
      rfl) h0
end Go.Proofs.Ytknmlikjmnhgkaa.P
