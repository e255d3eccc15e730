/- A writer of bits in memory: its block, its own row of bytes, and what calls keep. No condition. -/
import Derived.Test.YtggfiacnkbcjbaaPAllx0
namespace Go.Proofs.Ytggfiacnkbcjbaa.P
open Go Go.RowKit Go.Proofs.YtggfiacnkbcjbaaW.PrintWords Go.Proofs.YtggfiacnkbcjbaaW.PrintLast Go.Proofs.YtggfiacnkbcjbaaW.PrintMore
set_option linter.unusedVariables false

def Codes (L : List Int) : Prop := ∀ x ∈ L, 0 ≤ x ∧ x < 256
theorem bytesOf_str (L : List Int) (h : Codes L) : bytesOf (strOfNums L) = L := by
  unfold bytesOf
  rw [strOfNums_data, List.map_map]
  induction L with
  | nil => rfl
  | cons x L ih =>
    have hx := h x List.mem_cons_self
    rw [List.map_cons, ih (fun y hy => h y (List.mem_cons_of_mem _ hy))]
    congr 1
    show ((UInt8.ofNat x.toNat).toNat : Int) = x
    rw [UInt8.toNat_ofNat']
    omega
theorem codes_bytes (b : ByteArray) : Codes (bytesOf b) := by
  intro x hx
  unfold bytesOf at hx
  obtain ⟨y, _, rfl⟩ := List.mem_map.1 hx
  have := y.toNat_lt
  omega
theorem codes_snoc {L : List Int} (h : Codes L) : Codes (L ++ [0]) := by
  intro x hx
  rcases List.mem_append.1 hx with hx | hx
  · exact h x hx
  · rw [List.mem_singleton.1 hx]; decide
theorem codes_set {L : List Int} (h : Codes L) (i : Nat) (y : Int) (hy : 0 ≤ y ∧ y < 256) : Codes (L.set i y) := by
  intro x hx
  rcases List.mem_or_eq_of_mem_set hx with hx | rfl
  · exact h x hx
  · exact hy
/-- A writer at block g of W: its row is its own (from w0 on), its bytes are l, it has n bits. -/
def IsW (w0 W : World) (g : Nat) (l : List Int) (n : Int) : Prop :=
  ∃ v, W.heap[g]? = some (.cells #[v, .int .i64 n] 64 (0, 0)) ∧ w0.heap.size ≤ g ∧ Kd.R (Kd.int .u8) 5 W w0.heap.size (fun _ => True) v l ∧ Codes l
def IsS64 (w0 W : World) (g : Nat) (f0 : ByteArray) (f1 : Int) : Prop := IsW w0 W g (bytesOf f0) f1
def KeepW (w w' : World) (g : Nat) (row : Option Nat) : Prop := w.heap.size ≤ w'.heap.size ∧ ∀ i, i < w.heap.size → i ≠ g → some i ≠ row → (∀ cs fr, w.heap[i]? ≠ some (.cells cs 5 fr)) → w'.heap[i]? = w.heap[i]?
section
variable {w0 W W1 w w1 w2 : World} {g : Nat} {l : List Int} {n : Int} {f0 : ByteArray} {f1 : Int} {row row1 : Option Nat} {v : Value}
theorem IsW.below (h : IsW w0 W g l n) (hw : Below W.heap.size W W1) : IsW w0 W1 g l n := by
  obtain ⟨v, hb, hg, hr, hc⟩ := h
  exact ⟨v, by rw [hw.block g (blk_lt hb)]; exact hb, hg, Kd.R_below hr hw, hc⟩
theorem IsW.alloc (h : IsW w0 W g l n) (o : Obj) : IsW w0 (W.alloc o) g l n := h.below (below_alloc (Below.refl _ _) o)
theorem IsW.drewN (h : IsW w0 W g l n) (m : Nat) : IsW w0 (W.drewN m) g l n := h.below (pw_below_drewN (Below.refl _ _) m)
theorem IsW.drew (h : IsW w0 W g l n) : IsW w0 W.drew g l n := h.below (below_drew (Below.refl _ _))
theorem IsW.set_1 (h : IsW w0 W g l n) (x : Int) : IsW w0 (W.setCell ⟨g, 1, none⟩ (.int .i64 x)) g l x := by
  obtain ⟨v, hb, hg, hr, hc⟩ := h
  exact ⟨v, by simpa using blk_set hb 1 (.int .i64 x), hg, Kd.R_set hr hb (by decide) 1 _, hc⟩
theorem IsW.grew {v1 : Value} {L : List Int} (h : IsW w0 W g l n) (ho : Kd.R (Kd.int .u8) 5 W1 w0.heap.size (fun _ => True) v1 L) (hb : W1.heap[g]? = some (.cells #[v, .int .i64 n] 64 (0, 0))) (hc : Codes L) : IsW w0 (W1.setCell ⟨g, 0, none⟩ v1) g L n := by
  obtain ⟨_, _, hg, _, _⟩ := h
  exact ⟨v1, by simpa using blk_set hb 0 v1, hg, Kd.R_set ho hb (by decide) 0 _, hc⟩
theorem IsW.to64 (h : IsW w0 W g l n) : IsS64 w0 W g (strOfNums l) n := by
  have hc : Codes l := by obtain ⟨_, _, _, _, hc⟩ := h; exact hc
  show IsW _ _ _ (bytesOf (strOfNums l)) _
  rw [bytesOf_str _ hc]
  exact h
theorem IsW.ge2 (h : IsW w0 W g l n) : w0.heap.size ≤ g := by obtain ⟨_, _, hg, _⟩ := h; exact hg
theorem below_setCell_ {B : Nat} (h : Below B w0 W) (hg : B ≤ g) (j : Nat) (u : Value) : Below B w0 (W.setCell ⟨g, j, none⟩ u) := h.setCell hg _
theorem u8_or_range (a b : Int) : 0 ≤ Go.bits .or .u8 a b ∧ Go.bits .or .u8 a b < 256 := by
  have h : ∃ z, Go.bits .or .u8 a b = IntKind.u8.wrap z := ⟨_, rfl⟩
  obtain ⟨z, h⟩ := h
  rw [h, IntKind.wrap_u8]
  omega
theorem IsW.put {b cap : Nat} {L : List Int} (h : IsW w0 W g l n) (hb : W.heap[g]? = some (.cells #[.slice (some ⟨b, 0, none⟩) L.length cap, .int .i64 n] 64 (0, 0))) (hr : Kd.R (Kd.int .u8) 5 W w0.heap.size (fun _ => True) (.slice (some ⟨b, 0, none⟩) L.length cap) L) (hne : g ≠ b) (hc : Codes L) (i y : Int) (hy : 0 ≤ y ∧ y < 256) : IsW w0 (W.setCell ⟨b, i.toNat, none⟩ (.int .u8 y)) g (L.set i.toNat y) n := by
  obtain ⟨_, _, hg, _, _⟩ := h
  exact ⟨_, blk_far hb hne _, hg, Kd.R_putn hr i y, codes_set hc _ _ hy⟩
theorem IsS64.below (h : IsS64 w0 W g f0 f1) (hw : Below W.heap.size W W1) : IsS64 w0 W1 g f0 f1 := IsW.below h hw
theorem IsS64.alloc (h : IsS64 w0 W g f0 f1) (o : Obj) : IsS64 w0 (W.alloc o) g f0 f1 := IsW.alloc h o
theorem IsS64.drewN (h : IsS64 w0 W g f0 f1) (m : Nat) : IsS64 w0 (W.drewN m) g f0 f1 := IsW.drewN h m
theorem IsS64.drew (h : IsS64 w0 W g f0 f1) : IsS64 w0 W.drew g f0 f1 := IsW.drew h
theorem IsS64.set_1 (h : IsS64 w0 W g f0 f1) (x : Int) : IsS64 w0 (W.setCell ⟨g, 1, none⟩ (.int .i64 x)) g f0 x := IsW.set_1 h x
theorem IsW.apart {α : Type} {d : Kd α} {e : Nat} {base : Nat} {ok : Nat → Prop} {u : Value} {xs : List α} (h : IsW w0 W g l n) (ho : d.R e W base ok u xs) (ht : ∀ q, q ∈ e :: d.E → q ≠ 64) : d.R e W base (fun k => ok k ∧ k ≠ g) u xs := by
  obtain ⟨_, hb, _⟩ := h
  exact Kd.R_types ho hb ht
theorem IsS64.apart {α : Type} {d : Kd α} {e : Nat} {base : Nat} {ok : Nat → Prop} {u : Value} {xs : List α} (h : IsS64 w0 W g f0 f1) (ho : d.R e W base ok u xs) (ht : ∀ q, q ∈ e :: d.E → q ≠ 64) : d.R e W base (fun k => ok k ∧ k ≠ g) u xs := IsW.apart h ho ht
theorem IsS64.lt (h : IsS64 w0 W g f0 f1) : g < W.heap.size := by obtain ⟨v, hb, _⟩ := h; exact blk_lt hb
theorem IsS64.ge (h : IsS64 w0 W g f0 f1) : w0.heap.size ≤ g := by obtain ⟨v, hb, hg, _⟩ := h; exact hg
theorem IsS64.ne_blk {a : Nat} {cs : Array Value} {t : TypeId} {fr : Nat × Nat} (h : IsS64 w0 W g f0 f1) (hb2 : W.heap[a]? = some (.cells cs t fr)) (ht : t ≠ 64) : g ≠ a := by
  obtain ⟨v, hb, _⟩ := h
  intro e
  rw [e, hb2] at hb
  injection hb with hb
  injection hb with _ h2 _
  exact ht h2
theorem cellS64_1 (h : W.heap[g]? = some (.cells #[v, .int .i64 f1] 64 (0, 0))) : W.cell? ⟨g, 1, none⟩ = some (.int .i64 f1) := (blk_cell h 1).trans rfl
theorem cellS64_0 (h : W.heap[g]? = some (.cells #[v, .int .i64 f1] 64 (0, 0))) : W.cell? ⟨g, 0, none⟩ = some v := (blk_cell h 0).trans rfl
theorem KeepW.refl (w : World) (g : Nat) (row : Option Nat) : KeepW w w g row := ⟨Nat.le_refl _, fun _ _ _ _ _ => rfl⟩
theorem KeepW.of_keep (h : KeepBut w w1 g row) : KeepW w w1 g row := ⟨h.1, fun i hi hg hr _ => h.2 i hi hg hr⟩
theorem KeepW.of_below (h : Below w.heap.size w w1) (g : Nat) (row : Option Nat) : KeepW w w1 g row := KeepW.of_keep (KeepBut.of_below h g row)
theorem KeepW.trans (h : KeepW w w1 g row) (k : KeepW w1 w2 g row1) (hr : row1 = row ∨ ∃ b, row1 = some b ∧ w.heap.size ≤ b) : KeepW w w2 g row := by
  refine ⟨Nat.le_trans h.1 k.1, fun i hi hg hrow ht => ?_⟩
  have e := h.2 i hi hg hrow ht
  refine (k.2 i (Nat.lt_of_lt_of_le hi h.1) hg (fun e2 => ?_) (fun cs fr => by rw [e]; exact ht cs fr)).trans e
  rcases hr with h2 | ⟨b, h2, h3⟩
  · exact hrow (e2.trans h2)
  · rw [h2] at e2
    have := Option.some.inj e2
    omega
theorem KeepW.blk {g' : Nat} {o : Obj} (h : KeepW w w1 g row) (hb : w.heap[g']? = some o) (hg : g' ≠ g) (hr : some g' ≠ row) (ht : ∀ cs fr, o ≠ .cells cs 5 fr := by intro cs fr h_; injection h_ with _ h2_ _; exact absurd h2_ (by decide)) : w1.heap[g']? = some o :=
  (h.2 g' (blk_lt hb) hg hr (fun cs2 fr2 e => by rw [hb] at e; injection e with e; exact ht cs2 fr2 e)).trans hb
theorem KeepW.keep_far (h : KeepW w W g row) {p : Addr} (hp : w.heap.size ≤ p.block) (u : Value) : KeepW w (W.setCell p u) g row :=
  ⟨by have := h.1; simpa [World.setCell] using this, fun i hi hg hr ht => (Below.heap_setCell _ _ _ _ (by omega)).trans (h.2 i hi hg hr ht)⟩
theorem KeepW.set_ (h : KeepW w W g row) (j : Nat) (u : Value) : KeepW w (W.setCell ⟨g, j, none⟩ u) g row :=
  ⟨by have := h.1; simpa [World.setCell] using this, fun i hi hg hr ht => (Below.heap_setCell _ _ _ _ hg).trans (h.2 i hi hg hr ht)⟩
theorem KeepW.drewN (h : KeepW w W g row) (m : Nat) : KeepW w (W.drewN m) g row := h
theorem KeepW.drew (h : KeepW w W g row) : KeepW w W.drew g row := h
theorem KeepW.alloc (h : KeepW w W g none) (o : Obj) : KeepW w (W.alloc o) g none := h.trans (KeepW.of_below (below_alloc (Below.refl _ _) o) g none) (.inl rfl)
theorem keepW_drewN (h : KeepW w W g row) (m : Nat) : KeepW w (W.drewN m) g row := h
theorem keepW_drew (h : KeepW w W g row) : KeepW w W.drew g row := h
theorem keepW_alloc (h : KeepW w W g none) (o : Obj) : KeepW w (W.alloc o) g none := h.alloc o
theorem keepW_far (h : KeepW w W g row) {p : Addr} (hp : w.heap.size ≤ p.block) (u : Value) : KeepW w (W.setCell p u) g row := h.keep_far hp u
theorem keepW_size (h : KeepW w W g row) : w.heap.size ≤ W.heap.size := h.1
theorem KeepW.size (h : KeepW w W g row) : w.heap.size ≤ W.heap.size := h.1
/-- a byte row has been written -/
theorem KeepW.grown (h : KeepW w W g none) {r : Option Nat} (hg : W.grownBy w1 r) (hr : ∀ k, r = some k → ∃ cs fr, W.heap[k]? = some (.cells cs 5 fr)) : KeepW w w1 g none := by
  refine ⟨Nat.le_trans h.1 hg.size, fun i hi hne hrow ht => ?_⟩
  have e := h.2 i hi hne hrow ht
  refine (hg.block i (Nat.lt_of_lt_of_le hi h.1) (fun e2 => ?_)).trans e
  obtain ⟨cs, fr, hc⟩ := hr i e2.symm
  rw [e] at hc
  exact ht cs fr hc
end
def objnew64.f : Option (ByteArray × Int) := some (⟨#[]⟩, 0)
section
variable {P : Program} {ops : Array Oper} {rest : List Oper} {o : Oper} {a : Act} {Q : Exit → Act → World → Prop} {w0 W : World}
theorem gate_alloc {t : TypeId} (_ho : o.op = .alloc t) (h : wpList P ops Q (o :: rest) a W) : wpList P ops Q (o :: rest) a W := h
theorem objnew_event {b : ByteArray} {n : Int} (hf : objnew64.f = some (b, n)) (hgd : o.guard = none)
    (hrun : (execOp a.eval o).run P W = .ok (.value (.pointer (some ⟨W.heap.size, 0, none⟩))) (W.alloc (.cells #[.slice none 0 0, .int .i64 0] 64 (0, 0)))) (HB : Below w0.heap.size w0 W)
    (h : ∀ g w1, IsS64 w0 w1 g b n → Below w0.heap.size w0 w1 → Below W.heap.size W w1 → wpList P ops Q rest (a.put o.dst (.pointer (some ⟨g, 0, none⟩))) w1) : wpList P ops Q (o :: rest) a W := by
  simp only [objnew64.f, Option.some.injEq, Prod.mk.injEq] at hf
  obtain ⟨rfl, rfl⟩ := hf
  refine Kd.event_run hgd hrun (h _ _ ⟨.slice none 0 0, blk_new W _, HB.size, Kd.R_nil _ _ _ _ _, fun _ hx => by cases hx⟩ (below_alloc HB _) (below_alloc (Below.refl _ _) _))
end
-- BEGIN READER (as the writer's)
def IsV (w0 W : World) (g : Nat) (l : List Int) (n : Int) : Prop :=
  ∃ v, W.heap[g]? = some (.cells #[v, .int .i64 n] 91 (0, 0)) ∧ w0.heap.size ≤ g ∧ Kd.R (Kd.int .u8) 5 W w0.heap.size (fun k => k < g) v l ∧ Codes l
def IsS91 (w0 W : World) (g : Nat) (f0 : ByteArray) (f1 : Int) : Prop := IsV w0 W g (bytesOf f0) f1
section
variable {w0 W W1 w w1 w2 : World} {g : Nat} {l : List Int} {n : Int} {f0 : ByteArray} {f1 : Int} {row row1 : Option Nat} {v : Value}
theorem IsV.below (h : IsV w0 W g l n) (hw : Below W.heap.size W W1) : IsV w0 W1 g l n := by
  obtain ⟨v, hb, hg, hr, hc⟩ := h
  exact ⟨v, by rw [hw.block g (blk_lt hb)]; exact hb, hg, Kd.R_below hr hw, hc⟩
theorem IsV.alloc (h : IsV w0 W g l n) (o : Obj) : IsV w0 (W.alloc o) g l n := h.below (below_alloc (Below.refl _ _) o)
theorem IsV.drewN (h : IsV w0 W g l n) (m : Nat) : IsV w0 (W.drewN m) g l n := h.below (pw_below_drewN (Below.refl _ _) m)
theorem IsV.drew (h : IsV w0 W g l n) : IsV w0 W.drew g l n := h.below (below_drew (Below.refl _ _))
theorem IsV.set_1 (h : IsV w0 W g l n) (x : Int) : IsV w0 (W.setCell ⟨g, 1, none⟩ (.int .i64 x)) g l x := by
  obtain ⟨v, hb, hg, hr, hc⟩ := h
  exact ⟨v, by simpa using blk_set hb 1 (.int .i64 x), hg, Kd.R_set hr hb (by decide) 1 _, hc⟩
theorem IsV.grew {v1 : Value} {L : List Int} (h : IsV w0 W g l n) (ho : Kd.R (Kd.int .u8) 5 W1 w0.heap.size (fun k => k < g) v1 L) (hb : W1.heap[g]? = some (.cells #[v, .int .i64 n] 91 (0, 0))) (hc : Codes L) : IsV w0 (W1.setCell ⟨g, 0, none⟩ v1) g L n := by
  obtain ⟨_, _, hg, _, _⟩ := h
  exact ⟨v1, by simpa using blk_set hb 0 v1, hg, Kd.R_set ho hb (by decide) 0 _, hc⟩
theorem IsV.to91 (h : IsV w0 W g l n) : IsS91 w0 W g (strOfNums l) n := by
  have hc : Codes l := by obtain ⟨_, _, _, _, hc⟩ := h; exact hc
  show IsV _ _ _ (bytesOf (strOfNums l)) _
  rw [bytesOf_str _ hc]
  exact h
theorem IsV.ge2 (h : IsV w0 W g l n) : w0.heap.size ≤ g := by obtain ⟨_, _, hg, _⟩ := h; exact hg
theorem IsV.put {b cap : Nat} {L : List Int} (h : IsV w0 W g l n) (hb : W.heap[g]? = some (.cells #[.slice (some ⟨b, 0, none⟩) L.length cap, .int .i64 n] 91 (0, 0))) (hr : Kd.R (Kd.int .u8) 5 W w0.heap.size (fun k => k < g) (.slice (some ⟨b, 0, none⟩) L.length cap) L) (hne : g ≠ b) (hc : Codes L) (i y : Int) (hy : 0 ≤ y ∧ y < 256) : IsV w0 (W.setCell ⟨b, i.toNat, none⟩ (.int .u8 y)) g (L.set i.toNat y) n := by
  obtain ⟨_, _, hg, _, _⟩ := h
  exact ⟨_, blk_far hb hne _, hg, Kd.R_putn hr i y, codes_set hc _ _ hy⟩
theorem IsS91.below (h : IsS91 w0 W g f0 f1) (hw : Below W.heap.size W W1) : IsS91 w0 W1 g f0 f1 := IsV.below h hw
theorem IsS91.alloc (h : IsS91 w0 W g f0 f1) (o : Obj) : IsS91 w0 (W.alloc o) g f0 f1 := IsV.alloc h o
theorem IsS91.drewN (h : IsS91 w0 W g f0 f1) (m : Nat) : IsS91 w0 (W.drewN m) g f0 f1 := IsV.drewN h m
theorem IsS91.drew (h : IsS91 w0 W g f0 f1) : IsS91 w0 W.drew g f0 f1 := IsV.drew h
theorem IsS91.set_1 (h : IsS91 w0 W g f0 f1) (x : Int) : IsS91 w0 (W.setCell ⟨g, 1, none⟩ (.int .i64 x)) g f0 x := IsV.set_1 h x
theorem IsV.apart {α : Type} {d : Kd α} {e : Nat} {base : Nat} {ok : Nat → Prop} {u : Value} {xs : List α} (h : IsV w0 W g l n) (ho : d.R e W base ok u xs) (ht : ∀ q, q ∈ e :: d.E → q ≠ 91) : d.R e W base (fun k => ok k ∧ k ≠ g) u xs := by
  obtain ⟨_, hb, _⟩ := h
  exact Kd.R_types ho hb ht
theorem IsS91.apart {α : Type} {d : Kd α} {e : Nat} {base : Nat} {ok : Nat → Prop} {u : Value} {xs : List α} (h : IsS91 w0 W g f0 f1) (ho : d.R e W base ok u xs) (ht : ∀ q, q ∈ e :: d.E → q ≠ 91) : d.R e W base (fun k => ok k ∧ k ≠ g) u xs := IsV.apart h ho ht
theorem IsS91.lt (h : IsS91 w0 W g f0 f1) : g < W.heap.size := by obtain ⟨v, hb, _⟩ := h; exact blk_lt hb
theorem IsS91.ge (h : IsS91 w0 W g f0 f1) : w0.heap.size ≤ g := by obtain ⟨v, hb, hg, _⟩ := h; exact hg
theorem IsS91.ne_blk {a : Nat} {cs : Array Value} {t : TypeId} {fr : Nat × Nat} (h : IsS91 w0 W g f0 f1) (hb2 : W.heap[a]? = some (.cells cs t fr)) (ht : t ≠ 91) : g ≠ a := by
  obtain ⟨v, hb, _⟩ := h
  intro e
  rw [e, hb2] at hb
  injection hb with hb
  injection hb with _ h2 _
  exact ht h2
theorem cellS91_1 (h : W.heap[g]? = some (.cells #[v, .int .i64 f1] 91 (0, 0))) : W.cell? ⟨g, 1, none⟩ = some (.int .i64 f1) := (blk_cell h 1).trans rfl
theorem cellS91_0 (h : W.heap[g]? = some (.cells #[v, .int .i64 f1] 91 (0, 0))) : W.cell? ⟨g, 0, none⟩ = some v := (blk_cell h 0).trans rfl
theorem IsV.keep (h : IsV w0 W g l n) (hs : ∀ i, i ≤ g → W1.heap[i]? = W.heap[i]?) : IsV w0 W1 g l n := by
  obtain ⟨v, hb, hg, hr, hc⟩ := h
  exact ⟨v, by rw [hs g (Nat.le_refl _)]; exact hb, hg, Kd.R_move hr (fun k hk => hs k (Nat.le_of_lt hk)), hc⟩
theorem IsV.keepBut {g2 : Nat} {cs : Array Value} {t : TypeId} (h : IsV w0 W g l n) (hk : KeepBut W W1 g2 none) (hne : g ≠ g2) (hb2 : W.heap[g2]? = some (.cells cs t (0, 0))) (ht : t ≠ 5) : IsV w0 W1 g l n := by
  obtain ⟨v, hb, hg, hr, hc⟩ := h
  refine ⟨v, hk.blk hb hne (by simp), hg, ?_, hc⟩
  exact Kd.R_mono (Kd.R_keep (Kd.R_types hr hb2 (by intro q hq; simp [Kd.int, Kd.scalar] at hq; subst hq; exact fun e => ht e.symm)) hk (fun _ h => h.2)) (fun _ h => h.1)
theorem IsV.blk (h : IsV w0 W g l n) : ∃ cs, W.heap[g]? = some (.cells cs 91 (0, 0)) := by obtain ⟨v, hb, _⟩ := h; exact ⟨_, hb⟩
theorem IsV.base {u0 : World} (h : IsV w0 W g l n) (hs : u0.heap.size = w0.heap.size) : IsV u0 W g l n := by
  obtain ⟨v, hb, hg, hr, hc⟩ := h
  exact ⟨v, hb, by rw [hs]; exact hg, by rw [hs]; exact hr, hc⟩
theorem IsV.lower {u0 : World} (h : IsV w0 W g l n) (hs : u0.heap.size ≤ w0.heap.size) : IsV u0 W g l n := by
  obtain ⟨v, hb, hg, hr, hc⟩ := h
  exact ⟨v, hb, Nat.le_trans hs hg, Kd.R_lower hr hs, hc⟩
theorem IsV.lt (h : IsV w0 W g l n) : g < W.heap.size := by obtain ⟨v, hb, _⟩ := h; exact blk_lt hb
theorem IsW.base {u0 : World} (h : IsW w0 W g l n) (hs : u0.heap.size = w0.heap.size) : IsW u0 W g l n := by
  obtain ⟨v, hb, hg, hr, hc⟩ := h
  exact ⟨v, hb, by rw [hs]; exact hg, by rw [hs]; exact hr, hc⟩
theorem IsW.keepBut {g2 : Nat} {cs : Array Value} {t : TypeId} (h : IsW w0 W g l n) (hk : KeepBut W W1 g2 none) (hne : g ≠ g2) (hb2 : W.heap[g2]? = some (.cells cs t (0, 0))) (ht : t ≠ 5) : IsW w0 W1 g l n := by
  obtain ⟨v, hb, hg, hr, hc⟩ := h
  refine ⟨v, hk.blk hb hne (by simp), hg, ?_, hc⟩
  exact Kd.R_mono (Kd.R_keep (Kd.R_types hr hb2 (by intro q hq; simp [Kd.int, Kd.scalar] at hq; subst hq; exact fun e => ht e.symm)) hk (fun _ h => h.2)) (fun _ h => h.1)
theorem IsW.blk (h : IsW w0 W g l n) : ∃ cs, W.heap[g]? = some (.cells cs 64 (0, 0)) := by obtain ⟨v, hb, _⟩ := h; exact ⟨_, hb⟩
/-- the world as far as block N -/
def upTo (W : World) (N : Nat) : World := { W with heap := W.heap.extract 0 N }
theorem upTo_size (W : World) (N : Nat) (h : N ≤ W.heap.size) : (upTo W N).heap.size = N := by simp [upTo]; omega
theorem upTo_below (W : World) (N : Nat) (h : N ≤ W.heap.size) : Below N (upTo W N) W := by
  refine ⟨rfl, rfl, rfl, by rw [upTo_size W N h]; exact h, fun k hk => ?_⟩
  show W.heap[k]? = (W.heap.extract 0 N)[k]?
  rw [Array.getElem?_extract]
  simp
  omega
theorem upTo_block (W : World) (N : Nat) (i : Nat) (hi : i < N) : (upTo W N).heap[i]? = W.heap[i]? := by
  show (W.heap.extract 0 N)[i]? = _
  rw [Array.getElem?_extract]
  simp
  omega
end
-- END READER
end Go.Proofs.Ytggfiacnkbcjbaa.P
