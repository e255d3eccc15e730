/- Package graph: a scene's rows, and the steps that append to them. Package graph: at and At. Condition: the place of what a node belongs to is known. Package graph: cells of a scene. TopPictures: the state of its loops, and what keeps it. -/
import Derived.BigRegion
import Derived.Deep.QuietTactic
import Derived.BigQuiet
import Derived.Deep.RegionHeld3
import Derived.Test.YtffbonfgbmohdaaPAllx13
import Derived.Test.YtffbonfgbmohdaaPAllx10
import Derived.Test.YtffbonfgbmohdaaPAllx22
import Derived.Test.YtffbonfgbmohdaaMA
import Derived.Test.YtffbonfgbmohdaaWLast
import Derived.Test.YtffbonfgbmohdaaMB
import Derived.Test.YtffbonfgbmohdaaPAllx11
namespace Go.Proofs.Ytffbonfgbmohdaa.P
open Go.RowKit Go.Proofs.YtffbonfgbmohdaaW.PrintWords Go.Proofs.YtffbonfgbmohdaaW.PrintLast Go.Proofs.YtffbonfgbmohdaaW.PrintMore
set_option linter.unusedVariables false
set_option linter.unusedSimpArgs false

theorem info45' : (Try.prog.info? 45).map (fun i => (i.zero, i.size, i.bytes)) = some (some (.agg #[.int .i64 0, .int .i64 0, .int .i64 0, .int .i64 0]), 4, 32) := by kernel_rfl
theorem info4' : (Try.prog.info? 4).map (fun i => (i.zero, i.size, i.bytes)) = some (some (.bool false), 1, 1) := by kernel_rfl
/-- blocks of another type are as they were -/
abbrev Keeps (W w1 : World) (e : Nat) : Prop := ∀ (k t : Nat) (cs : Array Value), t ≠ e → W.heap[k]? = some (.cells cs t (0, 0)) → w1.heap[k]? = some (.cells cs t (0, 0))
theorem keeps_of {α : Type} {d : Kd α} {e : Nat} {W w1 : World} {base : Nat} {ok : Nat → Prop} {v : Value} {xs : List α} (HR : d.R e W base ok v xs) (hg : W.grownBy w1 v.ownBlock) : Keeps W w1 e := fun k t cs ht hk =>
  (hg.block k (blk_lt hk) (fun he => by
    obtain ⟨cs', hc⟩ := Kd.R_typed HR k he.symm
    rw [hk] at hc
    injection hc with hc
    injection hc with _ hc
    exact ht hc)).trans hk
/-- blocks of types that a scene doesn't write are as they were -/
def KT (wS W : World) : Prop := ∀ (k t : Nat) (cs : Array Value), t ≠ 67 → t ≠ 3 → t ≠ 45 → t ≠ 4 → wS.heap[k]? = some (.cells cs t (0, 0)) → W.heap[k]? = some (.cells cs t (0, 0))
theorem KT.refl (W : World) : KT W W := fun _ _ _ _ _ _ _ h => h
theorem KT.below {wS W W' : World} (h : KT wS W) (hb : Below W.heap.size W W') : KT wS W' := fun k t cs h1 h2 h3 h4 hk => blk_below (h k t cs h1 h2 h3 h4 hk) hb
theorem KT.keeps {wS W W' : World} {e : Nat} (h : KT wS W) (he : e = 67 ∨ e = 3 ∨ e = 45 ∨ e = 4) (hb : Keeps W W' e) : KT wS W' := fun k t cs h1 h2 h3 h4 hk => hb k t cs (by rintro rfl; rcases he with he | he | he | he <;> contradiction) (h k t cs h1 h2 h3 h4 hk)
theorem KT.set {wS W : World} {e g : Nat} {o : Array Value} (h : KT wS W) (he : e = 67 ∨ e = 3 ∨ e = 45 ∨ e = 4) (hg : W.heap[g]? = some (.cells o e (0, 0))) (j : Nat) (u : Value) : KT wS (W.setCell ⟨g, j, none⟩ u) := fun k t cs h1 h2 h3 h4 hk =>
  blk_far (h k t cs h1 h2 h3 h4 hk) (p := ⟨g, j, none⟩) (by
    rintro rfl
    have h5 := h k t cs h1 h2 h3 h4 hk
    rw [hg] at h5
    injection h5 with h5
    injection h5 with _ h5
    subst h5
    rcases he with he | he | he | he <;> contradiction) u
/-- a scene's variables -/
structure Mid (w0 wS W : World) (g : Nat) (o : Array Value) (vU vO vK vW : Value) (ups : List Int) (own : List S45) (kn : List Bool) (who : List S45) : Prop where
  bel : Below w0.heap.size w0 W
  kp : KT wS W
  gb : w0.heap.size ≤ g
  obj : W.heap[g]? = some (.cells o 67 (0, 0))
  rU : (Kd.int .i64).R 3 W w0.heap.size (fun _ => True) vU ups
  rO : k45.R 45 W w0.heap.size (fun k => True ∧ some k ≠ vW.ownBlock) vO own
  rK : Kd.bool.R 4 W w0.heap.size (fun _ => True) vK kn
  rW : k45.R 45 W w0.heap.size (fun k => True ∧ some k ≠ vO.ownBlock) vW who
section
variable {w0 wS W : World} {g : Nat} {ob : Array Value} {vU vO vK vW : Value} {ups : List Int} {own : List S45} {kn : List Bool} {who : List S45}
theorem Mid.below {W' : World} (h : Mid w0 wS W g ob vU vO vK vW ups own kn who) (hb : Below W.heap.size W W') : Mid w0 wS W' g ob vU vO vK vW ups own kn who :=
  ⟨below_step h.bel hb, h.kp.below hb, h.gb, blk_below h.obj hb, Kd.R_below h.rU hb, Kd.R_below h.rO hb, Kd.R_below h.rK hb, Kd.R_below h.rW hb⟩
theorem Mid.alloc (h : Mid w0 wS W g ob vU vO vK vW ups own kn who) (x : Obj) : Mid w0 wS (W.alloc x) g ob vU vO vK vW ups own kn who := h.below (below_alloc (Below.refl _ _) x)
theorem Mid.drew (h : Mid w0 wS W g ob vU vO vK vW ups own kn who) : Mid w0 wS W.drew g ob vU vO vK vW ups own kn who := h.below (below_drew1 (Below.refl _ _))
theorem Mid.drewN (h : Mid w0 wS W g ob vU vO vK vW ups own kn who) (m : Nat) : Mid w0 wS (W.drewN m) g ob vU vO vK vW ups own kn who := h.below (pw_below_drewN (Below.refl _ _) m)
theorem Mid.set (h : Mid w0 wS W g ob vU vO vK vW ups own kn who) (j : Nat) (u : Value) : Mid w0 wS (W.setCell ⟨g, j, none⟩ u) g (ob.setIfInBounds j u) vU vO vK vW ups own kn who :=
  ⟨h.bel.setCell (p := ⟨g, j, none⟩) h.gb u, h.kp.set (.inl rfl) h.obj j u, h.gb, blk_set h.obj j u, Kd.R_set h.rU h.obj (fun q hq => by rw [show q = 3 by simpa [Kd.int, Kd.scalar] using hq]; decide) j u,
    Kd.R_set h.rO h.obj (fun q hq => by rw [show q = 45 by simpa [k45, k43, Kd.iso, Kd.pair, Kd.int, Kd.scalar] using hq]; decide) j u, Kd.R_set h.rK h.obj (fun q hq => by rw [show q = 4 by simpa [Kd.bool, Kd.scalar] using hq]; decide) j u,
    Kd.R_set h.rW h.obj (fun q hq => by rw [show q = 45 by simpa [k45, k43, Kd.iso, Kd.pair, Kd.int, Kd.scalar] using hq]; decide) j u⟩
end
section
variable {ops : Array Oper} {o : Oper} {a : Act} {Q : Exit → Act → World → Prop} {Kc : Act → World → Prop} {α : Type}
theorem lit_reads (d : Kd α) {W : World} {l e : Nat} {cs : List Value} {p : α} (hl : cs.length = d.sz) (HL : W.heap[l]? = some (.cells cs.toArray e (0, 0))) : ReadsRow (fun x c => x = p ∧ c = cs) d.sz W (some ⟨l, 0, none⟩) 1 [p] := by
  refine ⟨rfl, by decide, fun _ => ⟨_, rfl, fun j q hj => ?_⟩⟩
  have h0 : j = 0 := by
    rcases j with _ | j
    · rfl
    · simp at hj
  subst h0
  simp only [List.getElem?_cons_zero, Option.some.injEq] at hj
  subst hj
  refine ⟨cs, hl, ⟨rfl, rfl⟩, fun i u hi => ?_⟩
  rw [add_at, Nat.zero_mul, Nat.zero_add, Nat.zero_add]
  refine (blk_cell HL i).trans ?_
  simpa using hi
/-- one element, made elsewhere, is appended -/
theorem ap1 (d : Kd α) {w0 W : World} (hw : Region.wanted o (yielded ops a.tmps) = true) (s x : Operand) (t e : TypeId) (z : Value) (bytes : Nat)
    (ho : o.op = .call { callee := .builtin .append, args := #[s, x], argTypes := #[t, t] })
    (ht : Try.prog.underlying t = some (.slice e)) (hinfo : (Try.prog.info? e).map (fun i => (i.zero, i.size, i.bytes)) = some (some z, d.sz, bytes)) (hz : z.cells.size = d.sz) (hs0 : 0 < d.sz) (hb0 : 0 < bytes) (hb1 : bytes ≤ 100)
    (v : Value) (xs : List α) (p : α) (cs : List Value) (ok : Nat → Prop) {l : Nat} (hs : a.eval s = v) (hx : a.eval x = .slice (some ⟨l, 0, none⟩) 1 1)
    (HO : d.R e W w0.heap.size ok v xs) (hcl : cs.length = d.sz) (HL : W.heap[l]? = some (.cells cs.toArray e (0, 0))) (hM : d.M W w0.heap.size (fun _ => False) p cs) (hfresh : ∀ k, W.heap.size ≤ k → ok k)
    (HB : Below w0.heap.size w0 W) (hl : xs.length ≤ 1000)
    (h : ∀ A n c w1, d.R e w1 w0.heap.size ok (.slice A n c) (xs ++ [p]) → Below w0.heap.size w0 w1 → W.grownBy w1 v.ownBlock → ((Value.slice A n c).ownBlock = v.ownBlock ∨ ∃ b, (Value.slice A n c).ownBlock = some b ∧ W.heap.size ≤ b) → Kc (a.put o.dst (.slice A n c)) w1) :
    if Region.wanted o (yielded ops a.tmps) = true then Oper.wp Try.prog o a W Kc Q else Kc (a.put o.dst undef) W := by
  refine Kd.R_append_rows_step d (Rr := fun x c => x = p ∧ c = cs) (w0 := w0) w0.heap.size hw s x t e z bytes ho ht hinfo hz hs0 hb0 v xs [p] (some ⟨l, 0, none⟩) 1 1 ok (fun _ => False) hs hx HO (lit_reads d hcl HL) (fun y c hy => by obtain ⟨rfl, rfl⟩ := hy; exact hM) (fun _ hk => hk.elim) hfresh HB HB.size ?_ ?_
  · have : (xs.length + 1) * bytes ≤ 1001 * 100 := Nat.mul_le_mul (by omega) hb1
    omega
  · intro v1 w1 ho hb hg hat
    obtain ⟨A, c, e⟩ := Kd.R_slice ho
    subst e
    exact h A _ c w1 ho hb hg hat
variable {w0 wS W : World} {g : Nat} {ob : Array Value} {vU vO vK vW : Value} {ups : List Int} {own : List S45} {kn : List Bool} {who : List S45}
theorem stepU (HM : Mid w0 wS W g ob vU vO vK vW ups own kn who) {l : Nat} {p : Int} (HL : W.heap[l]? = some (.cells #[.int .i64 p] 3 (0, 0))) (hn : ups.length ≤ 1000) (hw : Region.wanted o (yielded ops a.tmps) = true) (s x : Operand)
    (ho : o.op = .call { callee := .builtin .append, args := #[s, x], argTypes := #[22, 22] }) (hs : a.eval s = vU) (hx : a.eval x = .slice (some ⟨l, 0, none⟩) 1 1)
    (h : ∀ A n c w1, Mid w0 wS w1 g ob (.slice A n c) vO vK vW (ups ++ [p]) own kn who → Keeps W w1 3 ∧ W.grownBy w1 vU.ownBlock → Kc (a.put o.dst (.slice A n c)) w1) :
    if Region.wanted o (yielded ops a.tmps) = true then Oper.wp Try.prog o a W Kc Q else Kc (a.put o.dst undef) W := by
  refine ap1 (Kd.int .i64) (w0 := w0) hw s x 22 3 (.int .i64 0) 8 ho Try.underlying22 info3 rfl (by decide) (by decide) (by decide) vU ups p [.int .i64 p] (fun _ => True) hs hx HM.rU rfl HL rfl (fun _ _ => trivial) HM.bel hn ?_
  intro A n c w1 hr hb hg hat
  have hk := keeps_of HM.rU hg
  refine h A n c w1 ⟨hb, HM.kp.keeps (.inr (.inl rfl)) hk, HM.gb, hk _ _ _ (by decide) HM.obj, hr, Kd.R_over' HM.rO (Kd.R_typed HM.rU) (fun q hq => by rw [show q = 45 by simpa [k45, k43, Kd.iso, Kd.pair, Kd.int, Kd.scalar] using hq]; decide) hg, Kd.R_over' HM.rK (Kd.R_typed HM.rU) (fun q hq => by rw [show q = 4 by simpa [Kd.bool, Kd.scalar] using hq]; decide) hg, Kd.R_over' HM.rW (Kd.R_typed HM.rU) (fun q hq => by rw [show q = 45 by simpa [k45, k43, Kd.iso, Kd.pair, Kd.int, Kd.scalar] using hq]; decide) hg⟩ ⟨hk, hg⟩
theorem stepK (HM : Mid w0 wS W g ob vU vO vK vW ups own kn who) {l : Nat} {p : Bool} (HL : W.heap[l]? = some (.cells #[.bool p] 4 (0, 0))) (hn : kn.length ≤ 1000) (hw : Region.wanted o (yielded ops a.tmps) = true) (s x : Operand)
    (ho : o.op = .call { callee := .builtin .append, args := #[s, x], argTypes := #[65, 65] }) (hs : a.eval s = vK) (hx : a.eval x = .slice (some ⟨l, 0, none⟩) 1 1)
    (h : ∀ A n c w1, Mid w0 wS w1 g ob vU vO (.slice A n c) vW ups own (kn ++ [p]) who → Keeps W w1 4 ∧ W.grownBy w1 vK.ownBlock → Kc (a.put o.dst (.slice A n c)) w1) :
    if Region.wanted o (yielded ops a.tmps) = true then Oper.wp Try.prog o a W Kc Q else Kc (a.put o.dst undef) W := by
  refine ap1 Kd.bool (w0 := w0) hw s x 65 4 (.bool false) 1 ho Try.underlying65 info4' rfl (by decide) (by decide) (by decide) vK kn p [.bool p] (fun _ => True) hs hx HM.rK rfl HL rfl (fun _ _ => trivial) HM.bel hn ?_
  intro A n c w1 hr hb hg hat
  have hk := keeps_of HM.rK hg
  refine h A n c w1 ⟨hb, HM.kp.keeps (.inr (.inr (.inr rfl))) hk, HM.gb, hk _ _ _ (by decide) HM.obj, Kd.R_over' HM.rU (Kd.R_typed HM.rK) (fun q hq => by rw [show q = 3 by simpa [Kd.int, Kd.scalar] using hq]; decide) hg, Kd.R_over' HM.rO (Kd.R_typed HM.rK) (fun q hq => by rw [show q = 45 by simpa [k45, k43, Kd.iso, Kd.pair, Kd.int, Kd.scalar] using hq]; decide) hg, hr, Kd.R_over' HM.rW (Kd.R_typed HM.rK) (fun q hq => by rw [show q = 45 by simpa [k45, k43, Kd.iso, Kd.pair, Kd.int, Kd.scalar] using hq]; decide) hg⟩ ⟨hk, hg⟩
theorem stepO (HM : Mid w0 wS W g ob vU vO vK vW ups own kn who) {l : Nat} {p : S45} (HL : W.heap[l]? = some (.cells #[.int .i64 p.f0.f0, .int .i64 p.f0.f1, .int .i64 p.f1, .int .i64 p.f2] 45 (0, 0))) (hn : own.length ≤ 1000) (hw : Region.wanted o (yielded ops a.tmps) = true) (s x : Operand)
    (ho : o.op = .call { callee := .builtin .append, args := #[s, x], argTypes := #[64, 64] }) (hs : a.eval s = vO) (hx : a.eval x = .slice (some ⟨l, 0, none⟩) 1 1)
    (h : ∀ A n c w1, Mid w0 wS w1 g ob vU (.slice A n c) vK vW ups (own ++ [p]) kn who → Keeps W w1 45 ∧ W.grownBy w1 vO.ownBlock → Kc (a.put o.dst (.slice A n c)) w1) :
    if Region.wanted o (yielded ops a.tmps) = true then Oper.wp Try.prog o a W Kc Q else Kc (a.put o.dst undef) W := by
  refine ap1 k45 (w0 := w0) hw s x 64 45 (.agg #[.int .i64 0, .int .i64 0, .int .i64 0, .int .i64 0]) 32 ho Try.underlying64 info45' rfl (by decide) (by decide) (by decide) vO own p [.int .i64 p.f0.f0, .int .i64 p.f0.f1, .int .i64 p.f1, .int .i64 p.f2] _ hs hx HM.rO rfl HL (k45_mkM _ _ _ p) (fun k hk => ⟨trivial, fun he => by have := Kd.R_lt HM.rW k he.symm; omega⟩) HM.bel hn ?_
  intro A n c w1 hr hb hg hat
  have hk := keeps_of HM.rO hg
  refine h A n c w1 ⟨hb, HM.kp.keeps (.inr (.inr (.inl rfl))) hk, HM.gb, hk _ _ _ (by decide) HM.obj, Kd.R_over' HM.rU (Kd.R_typed HM.rO) (fun q hq => by rw [show q = 3 by simpa [Kd.int, Kd.scalar] using hq]; decide) hg, hr, Kd.R_over' HM.rK (Kd.R_typed HM.rO) (fun q hq => by rw [show q = 4 by simpa [Kd.bool, Kd.scalar] using hq]; decide) hg, Kd.R_after HM.rW hg hat⟩ ⟨hk, hg⟩
theorem stepW (HM : Mid w0 wS W g ob vU vO vK vW ups own kn who) {l : Nat} {p : S45} (HL : W.heap[l]? = some (.cells #[.int .i64 p.f0.f0, .int .i64 p.f0.f1, .int .i64 p.f1, .int .i64 p.f2] 45 (0, 0))) (hn : who.length ≤ 1000) (hw : Region.wanted o (yielded ops a.tmps) = true) (s x : Operand)
    (ho : o.op = .call { callee := .builtin .append, args := #[s, x], argTypes := #[64, 64] }) (hs : a.eval s = vW) (hx : a.eval x = .slice (some ⟨l, 0, none⟩) 1 1)
    (h : ∀ A n c w1, Mid w0 wS w1 g ob vU vO vK (.slice A n c) ups own kn (who ++ [p]) → Keeps W w1 45 ∧ W.grownBy w1 vW.ownBlock → Kc (a.put o.dst (.slice A n c)) w1) :
    if Region.wanted o (yielded ops a.tmps) = true then Oper.wp Try.prog o a W Kc Q else Kc (a.put o.dst undef) W := by
  refine ap1 k45 (w0 := w0) hw s x 64 45 (.agg #[.int .i64 0, .int .i64 0, .int .i64 0, .int .i64 0]) 32 ho Try.underlying64 info45' rfl (by decide) (by decide) (by decide) vW who p [.int .i64 p.f0.f0, .int .i64 p.f0.f1, .int .i64 p.f1, .int .i64 p.f2] _ hs hx HM.rW rfl HL (k45_mkM _ _ _ p) (fun k hk => ⟨trivial, fun he => by have := Kd.R_lt HM.rO k he.symm; omega⟩) HM.bel hn ?_
  intro A n c w1 hr hb hg hat
  have hk := keeps_of HM.rW hg
  refine h A n c w1 ⟨hb, HM.kp.keeps (.inr (.inr (.inl rfl))) hk, HM.gb, hk _ _ _ (by decide) HM.obj, Kd.R_over' HM.rU (Kd.R_typed HM.rW) (fun q hq => by rw [show q = 3 by simpa [Kd.int, Kd.scalar] using hq]; decide) hg, Kd.R_after HM.rO hg hat, Kd.R_over' HM.rK (Kd.R_typed HM.rW) (fun q hq => by rw [show q = 4 by simpa [Kd.bool, Kd.scalar] using hq]; decide) hg, hr⟩ ⟨hk, hg⟩
end
end Go.Proofs.Ytffbonfgbmohdaa.P
namespace Go.Proofs.Ytffbonfgbmohdaa.P
open Go.RowKit Go.Proofs.YtffbonfgbmohdaaW.PrintWords Go.Proofs.YtffbonfgbmohdaaW.PrintLast Go.Proofs.YtffbonfgbmohdaaW.PrintMore
set_option linter.unusedVariables false
set_option linter.unusedSimpArgs false

theorem d5 {w : World} {g : Nat} {a b c d e : Value} {t : TypeId} (h : w.heap[g]? = some (.cells #[a, b, c, d, e] t (0, 0))) : w.cell? ⟨g, 0, none⟩ = some a ∧ w.cell? ⟨g, 1, none⟩ = some b ∧ w.cell? ⟨g, 2, none⟩ = some c ∧ w.cell? ⟨g, 3, none⟩ = some d ∧ w.cell? ⟨g, 4, none⟩ = some e ∧ w.frozen? ⟨g, 4, none⟩ = false :=
  ⟨(blk_cell h 0).trans rfl, (blk_cell h 1).trans rfl, (blk_cell h 2).trans rfl, (blk_cell h 3).trans rfl, (blk_cell h 4).trans rfl, blk_frozen h 4⟩
set_option maxHeartbeats 8000000 in
set_option maxRecDepth 100000 in
/-- where it is known, it is read -/
theorem T_at1 (w0 wS w : World) (g : Nat) (AU AO AK AW : Option Addr) (cU cO cK cW n : Nat) (cnt : Int) (ups : List Int) (own : List S45) (kn : List Bool) (who : List S45)
    (HM : Mid w0 wS w g #[.slice AU n cU, .slice AO n cO, .slice AK n cK, .slice AW n cW, .int .i64 cnt] (.slice AU n cU) (.slice AO n cO) (.slice AK n cK) (.slice AW n cW) ups own kn who)
    (i : Nat) (hi : i < n) (hk : kn.getD i false = true) :
    Calls Try.prog 23 #[.pointer (some ⟨g, 0, none⟩), .int .i64 (i : Int)] w fun e w' => ∃ q : S45, e = .returned (.agg #[.int .i64 q.f0.f0, .int .i64 q.f0.f1, .int .i64 q.f1, .int .i64 q.f2]) ∧ Below w.heap.size w w' := by
  have hi' : (i : Int) < (n : Int) := by omega
  obtain ⟨x0, x1, x2, x3, x4, _⟩ := d5 HM.obj
  have l0 := blk_lt HM.obj
  have hcK := (Kd.R_reads' HM.rK).2.2
  have hcW := (Kd.R_reads' HM.rW).2.2
  have hnK := (Kd.R_reads' HM.rK).1
  have hnW := (Kd.R_reads' HM.rW).1
  obtain ⟨ad, e1, k1⟩ := Kd.at_bool hcK (i : Int) (by omega) (by omega)
  obtain ⟨ad2, e2, m0, m1, m2, m3⟩ := at_T45 hcW (i : Int) (by omega) (by omega)
  subst e1 e2
  have hkv : rdOf false kn (i : Int) = true := hk
  rw [hkv] at k1
  simp only [Int.toNat_natCast] at k1 m0 m1 m2 m3
  generalize rd_T45 who (i : Int) = q at m0 m1 m2 m3
  have lk := World.block_lt_of_cell? w _ k1
  have lm := World.block_lt_of_cell? w _ m0
  have bn := below_alloc (Below.refl w.heap.size w) (.cells #[.int .i64 0, .int .i64 0, .int .i64 0, .int .i64 0] 45)
  have HB := Aside0.mk bn
  clear HM hcK hcW hnK hnW hk hkv
  clear bn
  go_enter Try.func23, Try.ntmps23
  go_wp2_with (fail)
  refine bodyPost_ret (results_cell_row rfl _ _ w.heap.size 45 #[.int .i64 q.f0.f0, .int .i64 q.f0.f1, .int .i64 q.f1, .int .i64 q.f2] (0, 0) _ rfl (blk_new _ _) Try.underlying45 rfl (by kernel_rfl)) rfl ?_
  exact ⟨q, rfl, below_alloc (Below.refl _ _) _⟩
/-- a place in a scene is written -/
theorem Mid.setW {w0 wS W : World} {g : Nat} {ob : Array Value} {vU vO vK : Value} {b n cW : Nat} {ups : List Int} {own : List S45} {kn : List Bool} {who : List S45} (h : Mid w0 wS W g ob vU vO vK (.slice (some ⟨b, 0, none⟩) n cW) ups own kn who) (i : Nat) (hi : i < n) (x : S45) :
    Mid w0 wS ((((W.setCell ⟨b, i * 4, none⟩ (.int .i64 x.f0.f0)).setCell ⟨b, i * 4 + 1, none⟩ (.int .i64 x.f0.f1)).setCell ⟨b, i * 4 + 2, none⟩ (.int .i64 x.f1)).setCell ⟨b, i * 4 + 3, none⟩ (.int .i64 x.f2)) g ob vU vO vK (.slice (some ⟨b, 0, none⟩) n cW) ups own kn (who.set i x) := by
  obtain ⟨c, hcl, hM, hcc, _⟩ := Kd.R_elem h.rW z45 (i : Int) (by omega) (by omega)
  have h3 := Kd.R_seg h.rW (i : Int) (by omega) (by omega) (j := 0) (seg := [.int .i64 x.f0.f0, .int .i64 x.f0.f1, .int .i64 x.f1, .int .i64 x.f2]) (x' := x) (okp := fun _ => False) hcl hcc (by show 4 ≤ 4; omega) (by
    have : c.length = 4 := hcl
    have e : c.take 0 ++ [.int .i64 x.f0.f0, .int .i64 x.f0.f1, .int .i64 x.f1, .int .i64 x.f2] ++ c.drop (0 + [Value.int .i64 x.f0.f0, .int .i64 x.f0.f1, .int .i64 x.f1, .int .i64 x.f2].length) = [.int .i64 x.f0.f0, .int .i64 x.f0.f1, .int .i64 x.f1, .int .i64 x.f2] := by simp [this]
    rw [e]
    exact k45_mkM _ _ _ x) (fun _ hk => hk.elim)
  have hg : W.grownBy _ (Value.slice (some ⟨b, 0, none⟩) n cW).ownBlock := h3.2
  have hb : w0.heap.size ≤ b := Kd.R_base h.rW b rfl
  exact ⟨(((h.bel.setCell (p := ⟨b, i * 4, none⟩) hb _).setCell (p := ⟨b, i * 4 + 1, none⟩) hb _).setCell (p := ⟨b, i * 4 + 2, none⟩) hb _).setCell (p := ⟨b, i * 4 + 3, none⟩) hb _, h.kp.keeps (.inr (.inr (.inl rfl))) (keeps_of h.rW hg), h.gb, keeps_of h.rW hg _ _ _ (by decide) h.obj,
    Kd.R_over' h.rU (Kd.R_typed h.rW) (fun q hq => by rw [show q = 3 by simpa [Kd.int, Kd.scalar] using hq]; decide) hg, Kd.R_grown h.rO hg (fun k hk => hk.2), Kd.R_over' h.rK (Kd.R_typed h.rW) (fun q hq => by rw [show q = 4 by simpa [Kd.bool, Kd.scalar] using hq]; decide) hg, h3.1⟩
theorem Mid.setK {w0 wS W : World} {g : Nat} {ob : Array Value} {vU vO vW : Value} {b n cK : Nat} {ups : List Int} {own : List S45} {kn : List Bool} {who : List S45} (h : Mid w0 wS W g ob vU vO (.slice (some ⟨b, 0, none⟩) n cK) vW ups own kn who) (i : Nat) (hi : i < n) (x : Bool) :
    Mid w0 wS (W.setCell ⟨b, i, none⟩ (.bool x)) g ob vU vO (.slice (some ⟨b, 0, none⟩) n cK) vW ups own (kn.set i x) who := by
  obtain ⟨hr, hg⟩ := Kd.R_putg h.rK (i : Int) x
  have hb : w0.heap.size ≤ b := Kd.R_base h.rK b rfl
  have hg : W.grownBy _ (Value.slice (some ⟨b, 0, none⟩) n cK).ownBlock := hg
  exact ⟨h.bel.setCell (p := ⟨b, i, none⟩) hb _, h.kp.keeps (.inr (.inr (.inr rfl))) (keeps_of h.rK hg), h.gb, keeps_of h.rK hg _ _ _ (by decide) h.obj,
    Kd.R_over' h.rU (Kd.R_typed h.rK) (fun q hq => by rw [show q = 3 by simpa [Kd.int, Kd.scalar] using hq]; decide) hg, Kd.R_over' h.rO (Kd.R_typed h.rK) (fun q hq => by rw [show q = 45 by simpa [k45, k43, Kd.iso, Kd.pair, Kd.int, Kd.scalar] using hq]; decide) hg, hr, Kd.R_over' h.rW (Kd.R_typed h.rK) (fun q hq => by rw [show q = 45 by simpa [k45, k43, Kd.iso, Kd.pair, Kd.int, Kd.scalar] using hq]; decide) hg⟩
/-- a variable that is no row's is written -/
theorem Mid.box {w0 wS W : World} {g : Nat} {ob : Array Value} {vU vO vK vW : Value} {ups : List Int} {own : List S45} {kn : List Bool} {who : List S45} (h : Mid w0 wS W g ob vU vO vK vW ups own kn who) {b : Nat} {cs : Array Value} (hb : w0.heap.size ≤ b) (hc : W.heap[b]? = some (.cells cs 45 (0, 0))) (hg : g ≠ b) (hO : some b ≠ vO.ownBlock) (hW : some b ≠ vW.ownBlock) (j : Nat) (u : Value) :
    Mid w0 wS (W.setCell ⟨b, j, none⟩ u) g ob vU vO vK vW ups own kn who :=
  ⟨h.bel.setCell (p := ⟨b, j, none⟩) hb u, h.kp.set (.inr (.inr (.inl rfl))) hc j u, h.gb, blk_far h.obj (p := ⟨b, j, none⟩) hg u, Kd.R_set h.rU hc (fun q hq => by rw [show q = 3 by simpa [Kd.int, Kd.scalar] using hq]; decide) j u,
    Kd.R_mono (Kd.R_far (Kd.R_tight rfl h.rO) (p := ⟨b, j, none⟩) (fun k hk e => hO (by rw [← hk]; exact congrArg some e.symm)) u) (fun k hk => h.rO.1 k hk.symm),
    Kd.R_set h.rK hc (fun q hq => by rw [show q = 4 by simpa [Kd.bool, Kd.scalar] using hq]; decide) j u,
    Kd.R_mono (Kd.R_far (Kd.R_tight rfl h.rW) (p := ⟨b, j, none⟩) (fun k hk e => hW (by rw [← hk]; exact congrArg some e.symm)) u) (fun k hk => h.rW.1 k hk.symm)⟩
theorem f4 {w : World} {g : Nat} {x y z u : Value} {t : TypeId} (h : w.heap[g]? = some (.cells #[x, y, z, u] t (0, 0))) : w.cell? ⟨g, 0, none⟩ = some x ∧ w.cell? ⟨g, 1, none⟩ = some y ∧ w.cell? ⟨g, 2, none⟩ = some z ∧ w.cell? ⟨g, 3, none⟩ = some u ∧ w.frozen? ⟨g, 0, none⟩ = false ∧ w.frozen? ⟨g, 1, none⟩ = false ∧ w.frozen? ⟨g, 2, none⟩ = false ∧ w.frozen? ⟨g, 3, none⟩ = false :=
  ⟨(blk_cell h 0).trans rfl, (blk_cell h 1).trans rfl, (blk_cell h 2).trans rfl, (blk_cell h 3).trans rfl, blk_frozen h 0, blk_frozen h 1, blk_frozen h 2, blk_frozen h 3⟩
theorem up_at {W : World} {A : Option Addr} {n : Nat} {l : List Int} (h : Kd.C (Kd.int .i64) W A n l) (i : Nat) (hi : i < n) : ∃ ad, A = some ad ∧ W.cell? (ad.add i) = some (.int .i64 (l.getD i 0)) := by
  obtain ⟨ad, e, h1⟩ := Kd.at_int h (i : Int) (by omega) (by omega)
  exact ⟨ad, e, h1⟩
theorem put4 {w : World} {g : Nat} {a b c d : Value} {t : TypeId} (h : w.heap[g]? = some (.cells #[a, b, c, d] t (0, 0))) (x y z u : Value) : ((((w.setCell ⟨g, 0, none⟩ x).setCell ⟨g, 1, none⟩ y).setCell ⟨g, 2, none⟩ z).setCell ⟨g, 3, none⟩ u).heap[g]? = some (.cells #[x, y, z, u] t (0, 0)) :=
  blk_put (cs := #[x, y, z, d]) (blk_put (cs := #[x, y, c, d]) (blk_put (cs := #[x, b, c, d]) (blk_put (cs := #[a, b, c, d]) h 0 x rfl) 1 y rfl) 2 z rfl) 3 u rfl
theorem far4 {W : World} {g r : Nat} {o : Obj} (h : W.heap[r]? = some o) (hne : r ≠ g) (i j k l : Nat) (x y z u : Value) : ((((W.setCell ⟨g, i, none⟩ x).setCell ⟨g, j, none⟩ y).setCell ⟨g, k, none⟩ z).setCell ⟨g, l, none⟩ u).heap[r]? = some o :=
  (Below.heap_setCell _ ⟨g, l, none⟩ u r hne).trans ((Below.heap_setCell _ ⟨g, k, none⟩ z r hne).trans ((Below.heap_setCell _ ⟨g, j, none⟩ y r hne).trans ((Below.heap_setCell _ ⟨g, i, none⟩ x r hne).trans h)))
theorem far4e {W : World} {g r : Nat} (hne : r ≠ g) (i j k l : Nat) (x y z u : Value) : ((((W.setCell ⟨g, i, none⟩ x).setCell ⟨g, j, none⟩ y).setCell ⟨g, k, none⟩ z).setCell ⟨g, l, none⟩ u).heap[r]? = W.heap[r]? :=
  (Below.heap_setCell _ ⟨g, l, none⟩ u r hne).trans ((Below.heap_setCell _ ⟨g, k, none⟩ z r hne).trans ((Below.heap_setCell _ ⟨g, j, none⟩ y r hne).trans (Below.heap_setCell _ ⟨g, i, none⟩ x r hne)))
theorem below4 {B : Nat} {w W : World} (h : Below B w W) {g : Nat} (hg : B ≤ g) (i j k l : Nat) (x y z u : Value) : Below B w ((((W.setCell ⟨g, i, none⟩ x).setCell ⟨g, j, none⟩ y).setCell ⟨g, k, none⟩ z).setCell ⟨g, l, none⟩ u) :=
  (((h.setCell (p := ⟨g, i, none⟩) hg x).setCell (p := ⟨g, j, none⟩) hg y).setCell (p := ⟨g, k, none⟩) hg z).setCell (p := ⟨g, l, none⟩) hg u
set_option maxHeartbeats 16000000 in
set_option maxRecDepth 100000 in
/-- a new node: its place is computed -/
theorem T_at2 (w0 wS w : World) (g : Nat) (AU AO : Option Addr) (bK bW : Nat) (cU cO cK cW n : Nat) (cnt : Int) (ups : List Int) (own : List S45) (kn : List Bool) (who : List S45)
    (HM : Mid w0 wS w g #[.slice AU n cU, .slice AO n cO, .slice (some ⟨bK, 0, none⟩) n cK, .slice (some ⟨bW, 0, none⟩) n cW, .int .i64 cnt] (.slice AU n cU) (.slice AO n cO) (.slice (some ⟨bK, 0, none⟩) n cK) (.slice (some ⟨bW, 0, none⟩) n cW) ups own kn who)
    (i : Nat) (hi : i < n) (hk : kn.getD i false = false) (up : Int) (hup : ups.getD i 0 = up) (hu : up = -1 ∨ ∃ j : Nat, up = (j : Int) ∧ j < n ∧ kn.getD j false = true) :
    Calls Try.prog 23 #[.pointer (some ⟨g, 0, none⟩), .int .i64 (i : Int)] w fun e w' => ∃ q : S45, e = .returned (.agg #[.int .i64 q.f0.f0, .int .i64 q.f0.f1, .int .i64 q.f1, .int .i64 q.f2]) ∧
      ∃ cnt', Mid w0 wS w' g #[.slice AU n cU, .slice AO n cO, .slice (some ⟨bK, 0, none⟩) n cK, .slice (some ⟨bW, 0, none⟩) n cW, .int .i64 cnt'] (.slice AU n cU) (.slice AO n cO) (.slice (some ⟨bK, 0, none⟩) n cK) (.slice (some ⟨bW, 0, none⟩) n cW) ups own (kn.set i true) (who.set i q) ∧ ∀ k, k < w.heap.size → k ≠ g → k ≠ bK → k ≠ bW → w'.heap[k]? = w.heap[k]? := by
  have hi' : (i : Int) < (n : Int) := by omega
  obtain ⟨x0, x1, x2, x3, x4, _⟩ := d5 HM.obj
  have l0 := blk_lt HM.obj
  obtain ⟨k1, _⟩ := Kd.R_celln false HM.rK (i : Int) (by omega) (by omega)
  obtain ⟨adO, e2, m0, m1, m2, m3⟩ := at_T45 (Kd.R_reads' HM.rO).2.2 (i : Int) (by omega) (by have := (Kd.R_reads' HM.rO).1; omega)
  obtain ⟨adU, e3, u0⟩ := up_at (Kd.R_reads' HM.rU).2.2 i (by have := (Kd.R_reads' HM.rU).1; omega)
  subst e2 e3
  have hkv : rdOf false kn (i : Int) = false := hk
  rw [hkv] at k1
  rw [hup] at u0
  simp only [Int.toNat_natCast] at k1 m0 m1 m2 m3
  generalize rd_T45 own (i : Int) = q0 at m0 m1 m2 m3
  have lk := World.block_lt_of_cell? w _ k1
  have lm := World.block_lt_of_cell? w _ m0
  have lu := World.block_lt_of_cell? w _ u0
  have HM := Aside0.mk HM
  have HU := Aside0.mk hu
  have HUP := Aside0.mk hup
  clear hk hkv hup hu
  go_enter Try.func23, Try.ntmps23
  go_upto_region 4 with (fail)
  have HZ := Aside0.mk (show (((w.alloc (.cells #[.int .i64 0, .int .i64 0, .int .i64 0, .int .i64 0] 45)).alloc (.cells #[.int .i64 q0.f0.f0, .int .i64 q0.f0.f1, .int .i64 q0.f1, .int .i64 q0.f2] 45)).heap[w.heap.size]? = some (.cells #[.int .i64 0, .int .i64 0, .int .i64 0, .int .i64 0] 45 (0, 0))) ∧
    (((w.alloc (.cells #[.int .i64 0, .int .i64 0, .int .i64 0, .int .i64 0] 45)).alloc (.cells #[.int .i64 q0.f0.f0, .int .i64 q0.f0.f1, .int .i64 q0.f1, .int .i64 q0.f2] 45)).heap[w.heap.size + 1]? = some (.cells #[.int .i64 q0.f0.f0, .int .i64 q0.f0.f1, .int .i64 q0.f1, .int .i64 q0.f2] 45 (0, 0))) from
    ⟨blk_alloc (blk_new _ _) _, by
      have h := blk_new (w.alloc (.cells #[.int .i64 0, .int .i64 0, .int .i64 0, .int .i64 0] 45)) (.cells #[.int .i64 q0.f0.f0, .int .i64 q0.f0.f1, .int .i64 q0.f1, .int .i64 q0.f2] 45)
      rwa [show (w.alloc (.cells #[.int .i64 0, .int .i64 0, .int .i64 0, .int .i64 0] 45)).heap.size = w.heap.size + 1 from Array.size_push _] at h⟩)
  have HB := Aside0.mk (below_alloc (below_alloc (Below.refl w.heap.size w) (.cells #[.int .i64 0, .int .i64 0, .int .i64 0, .int .i64 0] 45)) (.cells #[.int .i64 q0.f0.f0, .int .i64 q0.f0.f1, .int .i64 q0.f1, .int .i64 q0.f2] 45))
  have HG := Aside0.mk (show g ≠ w.heap.size ∧ g ≠ w.heap.size + 1 ∧ bK ≠ w.heap.size ∧ bK ≠ w.heap.size + 1 ∧ bW ≠ w.heap.size ∧ bW ≠ w.heap.size + 1 ∧ w.heap.size ≠ w.heap.size + 1 ∧ w.heap.size ≤ w.heap.size ∧ w.heap.size ≤ w.heap.size + 1 from by
    have hW := Kd.R_lt HM.out.rW bW rfl
    have hK := Kd.R_lt HM.out.rK bK rfl
    have := HM.out.bel.size
    omega)
  change Code.wp _ _ _ _ ((w.alloc (.cells #[.int .i64 0, .int .i64 0, .int .i64 0, .int .i64 0] 45)).alloc (.cells #[.int .i64 q0.f0.f0, .int .i64 q0.f0.f1, .int .i64 q0.f1, .int .i64 q0.f2] 45))
  have HUC := Aside0.mk u0
  clear x0 x1 x2 x3 x4 l0 k1 m0 m1 m2 m3 lm lu u0
  generalize (w.alloc (.cells #[.int .i64 0, .int .i64 0, .int .i64 0, .int .i64 0] 45)).alloc (.cells #[.int .i64 q0.f0.f0, .int .i64 q0.f0.f1, .int .i64 q0.f1, .int .i64 q0.f2] 45) = w1 at HZ HB ⊢
  obtain ⟨b5, hb5⟩ : ∃ b5, w.heap.size + 1 = b5 := ⟨_, rfl⟩
  obtain ⟨b4, hb4⟩ : ∃ b4, w.heap.size = b4 := ⟨_, rfl⟩
  rw [hb5] at HZ HG ⊢
  rw [hb4] at HZ HG HB ⊢
  have HS4 := Aside0.mk hb4
  clear hb4 hb5
  obtain ⟨p0, p1, p2, p3, p4, p5, p6, p7⟩ := f4 HZ.out.2
  go_upto_region 5 with (fail)
  have HB5 := Aside0.mk (show (w1.setCell ⟨b5, 2, none⟩ (.int .i64 (bits BinOp.and .i64 q0.f1 65535))).heap[b5]? = some (.cells #[.int .i64 q0.f0.f0, .int .i64 q0.f0.f1, .int .i64 (bits BinOp.and .i64 q0.f1 65535), .int .i64 q0.f2] 45 (0, 0)) ∧ (w1.setCell ⟨b5, 2, none⟩ (.int .i64 (bits BinOp.and .i64 q0.f1 65535))).heap[b4]? = some (.cells #[.int .i64 0, .int .i64 0, .int .i64 0, .int .i64 0] 45 (0, 0)) ∧ Below w.heap.size w (w1.setCell ⟨b5, 2, none⟩ (.int .i64 (bits BinOp.and .i64 q0.f1 65535))) from
    ⟨blk_put HZ.out.2 2 _ rfl, blk_far HZ.out.1 (p := ⟨b5, 2, none⟩) HG.out.2.2.2.2.2.2.1 _, by
      have hb := HB.out
      rw [← HS4.out] at hb
      exact hb.setCell (p := ⟨b5, 2, none⟩) (by have h1 := HG.out.2.2.2.2.2.2.2.2; have h2 := HS4.out; show w.heap.size ≤ b5; omega) _⟩)
  generalize w1.setCell ⟨b5, 2, none⟩ (.int .i64 (bits BinOp.and .i64 q0.f1 65535)) = w2 at HB5 ⊢
  generalize bits BinOp.and .i64 q0.f1 65535 = an at HB5
  clear HZ HB p0 p1 p2 p3 p4 p5 p6 p7
  have HM2 := Aside0.mk (HM.out.below HB5.out.2.2)
  obtain ⟨p0, p1, p2, p3, p4, p5, p6, p7⟩ := f4 HB5.out.1
  obtain ⟨x0, x1, x2, x3, x4, _⟩ := d5 HM2.out.obj
  obtain ⟨adU', e3, u0⟩ := up_at (Kd.R_reads' HM2.out.rU).2.2 i (by have := (Kd.R_reads' HM2.out.rU).1; omega)
  injection e3 with e3
  subst e3
  rw [HUP.out] at u0
  go_upto_if 38 with (fail)
  go_cut [] (fun wc => ∃ q : S45, Aside0 (wc.heap[b5]? = some (.cells #[.int .i64 q.f0.f0, .int .i64 q.f0.f1, .int .i64 q.f1, .int .i64 q.f2] 45 (0, 0)) ∧ wc.heap[b4]? = some (.cells #[.int .i64 0, .int .i64 0, .int .i64 0, .int .i64 0] 45 (0, 0)) ∧ Below w.heap.size w wc))
  case first =>
    rcases HU.out with h | ⟨j, h, hj, hkj⟩
    · subst h
      go_wp2
      go_meet
      case rel => exact ⟨⟨q0.f0, an, q0.f2⟩, HB5⟩
    · subst h
      have hj0 : (0 : Int) ≤ (j : Int) := by omega
      have HJ := Aside0.mk (T_at1 w0 wS w2 g _ _ _ _ _ _ _ _ _ _ _ _ _ _ HM2.out j hj hkj)
      have HJ' := Aside0.mk (show ∀ W, Below w2.heap.size w2 W → Calls Try.prog 23 #[.pointer (some ⟨g, 0, none⟩), .int .i64 (j : Int)] W fun e w' => ∃ q : S45, e = .returned (.agg #[.int .i64 q.f0.f0, .int .i64 q.f0.f1, .int .i64 q.f1, .int .i64 q.f2]) ∧ Below W.heap.size W w' from fun W h => T_at1 w0 wS W g _ _ _ _ _ _ _ _ _ _ _ _ _ _ (HM2.out.below h) j hj hkj)
      go_upto_region 6 with (fail)
      obtain ⟨q1, hq1⟩ : ∃ q1 : S45, q1 = ⟨q0.f0, an, q0.f2⟩ := ⟨_, rfl⟩
      have HQ1 := Aside0.mk hq1
      have HWI := Aside0.mk (fun q6 : S45 => within_some q6 ⟨q0.f0, an, q0.f2⟩)
      have HK := Aside0.mk (show ∀ W, Below w2.heap.size w2 W → W.cell? ⟨g, 0, none⟩ = some (.slice (some adU) n cU) ∧ W.cell? (adU.add i) = some (.int .i64 (j : Int)) from fun W h => ⟨(h.cell (p := ⟨g, 0, none⟩) (blk_lt HM2.out.obj)).trans x0, (h.cell (World.block_lt_of_cell? w2 _ u0)).trans u0⟩)
      have g5 : g ≠ b5 := HG.out.2.1
      have a5 : (adU.add i).block ≠ b5 := by
        have h1 := World.block_lt_of_cell? w _ HUC.out
        have h2 := HG.out.2.2.2.2.2.2.2.2
        have h3 := HS4.out
        omega
      have HK6 := Aside0.mk (show ∀ W, Below w2.heap.size w2 W → W.cell? ⟨g, 0, none⟩ = some (.slice (some adU) n cU) ∧ W.cell? (adU.add i) = some (.int .i64 (j : Int)) ∧ W.cell? ⟨b5, 0, none⟩ = some (.int .i64 q0.f0.f0) ∧ W.cell? ⟨b5, 1, none⟩ = some (.int .i64 q0.f0.f1) ∧ W.cell? ⟨b5, 2, none⟩ = some (.int .i64 an) ∧ W.cell? ⟨b5, 3, none⟩ = some (.int .i64 q0.f2) from fun W h => by
        obtain ⟨k1, k2⟩ := HK.out W h
        obtain ⟨r0, r1, r2, r3, _⟩ := f4 (blk_below HB5.out.1 h)
        exact ⟨k1, k2, r0, r1, r2, r3⟩)
      have hW0 := below_drew1 (Below.refl w2.heap.size w2)
      refine start_ (n := 12) (S := fun W => W.cell? ⟨g, 0, none⟩ = some (.slice (some adU) n cU) ∧ W.cell? (adU.add i) = some (.int .i64 (j : Int)) ∧ W.cell? ⟨b5, 0, none⟩ = some (.int .i64 q0.f0.f0) ∧ W.cell? ⟨b5, 1, none⟩ = some (.int .i64 q0.f0.f1) ∧ W.cell? ⟨b5, 2, none⟩ = some (.int .i64 an) ∧ W.cell? ⟨b5, 3, none⟩ = some (.int .i64 q0.f2)) (ds := [11]) #[false, false, false, false, false, false, false, false, false, false, false, false] (by kernel_rfl) rfl rfl (HK6.out _ hW0) (fun hHeld => ?_)
      generalize w2.drew = W0 at hW0 hHeld ⊢
      refine pure_ (i := 0) (N := some 39) (v := ?_) (a' := ?_) #[true, false, false, false, false, false, false, false, false, false, false, false] rfl rfl (by kernel_rfl) (fun _ _ _ h => h) (Or.inl ⟨by rfl, ?_⟩) ?_ ?_
      rotate_left
      · intro w'; go_simp; with_reducible rfl
      rotate_left
      · simp only [Act.put, List.setIfInBounds_toArray, List.set_cons_zero, List.set_cons_succ]; rfl
      refine pure_ (i := 1) (N := some 40) (v := ?_) (a' := ?_) #[true, true, false, false, false, false, false, false, false, false, false, false] rfl rfl (by kernel_rfl) (fun _ _ _ h => h) (Or.inl ⟨by rfl, ?_⟩) ?_ ?_
      rotate_left
      · intro w'; go_simp; with_reducible rfl
      rotate_left
      · simp only [Act.put, List.setIfInBounds_toArray, List.set_cons_zero, List.set_cons_succ]; rfl
      refine pure_ (i := 2) (N := some 41) (v := ?_) (a' := ?_) #[true, true, true, false, false, false, false, false, false, false, false, false] rfl rfl (by kernel_rfl) (fun _ _ _ h => h) (Or.inl ⟨by rfl, ?_⟩) ?_ ?_
      rotate_left
      · intro w'; go_simp; with_reducible rfl
      rotate_left
      · simp only [Act.put, List.setIfInBounds_toArray, List.set_cons_zero, List.set_cons_succ]; rfl
      refine pure_ (i := 3) (N := some 42) (v := ?_) (a' := ?_) #[true, true, true, true, false, false, false, false, false, false, false, false] rfl rfl (by kernel_rfl) (fun _ _ _ h => h) (Or.inl ⟨by rfl, ?_⟩) ?_ ?_
      rotate_left
      · intro w'; go_simp; with_reducible rfl
      rotate_left
      · simp only [Act.put, List.setIfInBounds_toArray, List.set_cons_zero, List.set_cons_succ]; rfl
      refine pure_ (i := 5) (N := some 44) (v := ?_) (a' := ?_) #[true, true, true, true, false, true, false, false, false, false, false, false] rfl rfl (by kernel_rfl) (fun _ _ _ h => h) (Or.inl ⟨by rfl, ?_⟩) ?_ ?_
      rotate_left
      · intro w'; go_simp; with_reducible rfl
      rotate_left
      · simp only [Act.put, List.setIfInBounds_toArray, List.set_cons_zero, List.set_cons_succ]; rfl
      refine take_ (i := 4) (N := some 43) (v := ?_) (a' := ?_) #[true, true, true, true, true, true, false, false, false, false, false, false] rfl rfl (by kernel_rfl) (fun _ _ _ h => h) (Or.inl ⟨by rfl, ?_⟩) hHeld ?_ ?_
      rotate_left
      · rintro w' ⟨s0, s1, s2, s3, s4, s5⟩; go_simp; with_reducible rfl
      rotate_left
      · simp only [Act.put, List.setIfInBounds_toArray, List.set_cons_zero, List.set_cons_succ]; rfl
      refine pure_ (i := 6) (N := some 45) (v := ?_) (a' := ?_) #[true, true, true, true, true, true, true, false, false, false, false, false] rfl rfl (by kernel_rfl) (fun _ _ _ h => h) (Or.inl ⟨by rfl, ?_⟩) ?_ ?_
      rotate_left
      · intro w'; go_simp; with_reducible rfl
      rotate_left
      · simp only [Act.put, List.setIfInBounds_toArray, List.set_cons_zero, List.set_cons_succ]; rfl
      refine take_ (i := 7) (N := some 46) (v := ?_) (a' := ?_) #[true, true, true, true, true, true, true, true, false, false, false, false] rfl rfl (by kernel_rfl) (fun _ _ _ h => h) (Or.inl ⟨by rfl, ?_⟩) hHeld ?_ ?_
      rotate_left
      · rintro w' ⟨s0, s1, s2, s3, s4, s5⟩; go_simp; with_reducible rfl
      rotate_left
      · simp only [Act.put, List.setIfInBounds_toArray, List.set_cons_zero, List.set_cons_succ]; rfl
      refine take_ (i := 9) (N := some 48) (v := ?_) (a' := ?_) #[true, true, true, true, true, true, true, true, false, true, false, false] rfl rfl (by kernel_rfl) (fun _ _ _ h => h) (Or.inl ⟨by rfl, ?_⟩) hHeld ?_ ?_
      rotate_left
      · rintro w' ⟨s0, s1, s2, s3, s4, s5⟩; go_simp; with_reducible rfl
      rotate_left
      · simp only [Act.put, List.setIfInBounds_toArray, List.set_cons_zero, List.set_cons_succ]; rfl
      refine one_ (i := 8) (N := some 47) #[true, true, true, true, true, true, true, true, true, true, false, false] rfl rfl (by kernel_rfl) (by decide) (fun K hK => ?_)
      refine goes_ Try.func23 (by kernel_rfl) rfl #[.pointer (some ⟨g, 0, none⟩), .int .i64 (j : Int)] (by rfl) rfl rfl (by (try simp only [List.map_toArray, List.map_cons, List.map_nil]); first | done | rfl) ?_
      refine (HJ'.out _ hW0).mono ?_
      rintro e w6 ⟨q6, rfl, h6⟩
      refine ⟨_, rfl, ?_⟩
      have hW6 := below_step hW0 h6
      obtain ⟨t1, t2, t3, t4, hwi⟩ := HWI.out q6
      refine hK.out _ _ (HK6.out _ hW6) (fun hHeld => ?_)
      clear hK K
      refine norm_ (a' := ?_) ?_ ?_
      rotate_left
      · show Act.put _ (some 47) _ = _
        simp only [Act.put, List.setIfInBounds_toArray, List.set_cons_zero, List.set_cons_succ]; rfl
      refine one_ (i := 10) (N := some 49) #[true, true, true, true, true, true, true, true, true, true, true, false] rfl rfl (by kernel_rfl) (by decide) (fun K hK => ?_)
      refine goes_ Try.func33 (by kernel_rfl) rfl #[.agg #[.int .i64 q6.f0.f0, .int .i64 q6.f0.f1, .int .i64 q6.f1, .int .i64 q6.f2], .agg #[.int .i64 q0.f0.f0, .int .i64 q0.f0.f1, .int .i64 an, .int .i64 q0.f2]] (by rfl) rfl rfl (by (try simp only [List.map_toArray, List.map_cons, List.map_nil]); first | done | rfl) ?_
      refine (graph_Within.calls 50 q6.f0.f0 q6.f0.f1 q6.f1 q6.f2 q0.f0.f0 q0.f0.f1 an q0.f2 t1 t2 t3 t4 _ hwi).mono ?_
      rintro e w7 ⟨rfl, h7⟩
      refine ⟨_, rfl, ?_⟩
      have hW7 := below_step hW6 h7
      refine hK.out _ _ (HK6.out _ hW7) (fun hHeld => ?_)
      clear hK K
      refine norm_ (a' := ?_) ?_ ?_
      rotate_left
      · show Act.put _ (some 49) _ = _
        simp only [Act.put, List.setIfInBounds_toArray, List.set_cons_zero, List.set_cons_succ]; rfl
      have e7 := blk_below HB5.out.1 hW7
      obtain ⟨s0, s1, s2, s3, s4, s5, s6, s7⟩ := f4 e7
      refine last_ (i := 11) (N := none) #[true, true, true, true, true, true, true, true, true, true, true, true] rfl rfl (by kernel_rfl) (by decide) (fun K hK => ?_)
      refine skip_ (w1 := ?_) (by rfl) rfl ?_ ?_
      rotate_left
      · go_simp; rfl
      refine hK.out _ _ ?_
      clear hK K
      refine done_ (by kernel_rfl) ?_
      go_wp2
      go_meet
      case rel =>
        have b47 := blk_below HB5.out.2.1 hW7
        have h5 : w.heap.size ≤ b5 := by have h1 := HG.out.2.2.2.2.2.2.2.2; have h2 := HS4.out; omega
        exact ⟨⟨⟨t1, t2⟩, t3, t4⟩, ⟨put4 e7 _ _ _ _, far4 b47 HG.out.2.2.2.2.2.2.1 _ _ _ _ _ _ _ _, below4 (below_step HB5.out.2.2 hW7) h5 _ _ _ _ _ _ _ _⟩⟩
  case rest =>
    obtain ⟨q, HQ⟩ := hcut
    clear x0 x1 x2 x3 x4 p0 p1 p2 p3 p4 p5 p6 p7 u0 HM2 HB5
    have HM3 := Aside0.mk (HM.out.below HQ.out.2.2)
    obtain ⟨p0, p1, p2, p3, p4, p5, p6, p7⟩ := f4 HQ.out.1
    obtain ⟨x0, x1, x2, x3, x4, x5⟩ := d5 HM3.out.obj
    obtain ⟨k1, k2⟩ := Kd.R_celln false HM3.out.rK (i : Int) (by omega) (by omega)
    obtain ⟨c, hcl, _, hcc, hcf⟩ := Kd.R_elem HM3.out.rW z45 (i : Int) (by omega) (by omega)
    obtain ⟨c0, c1, c2, c3, rfl⟩ : ∃ a b d e, c = [a, b, d, e] := by
      have h4 : c.length = 4 := hcl
      match c, h4 with
      | [a, b, d, e], _ => exact ⟨a, b, d, e, rfl⟩
    have m0 : wc.cell? ⟨bW, i * 4, none⟩ = some c0 := hcc 0 c0 rfl
    have m1 : wc.cell? ⟨bW, i * 4 + 1, none⟩ = some c1 := hcc 1 c1 rfl
    have m2 : wc.cell? ⟨bW, i * 4 + 2, none⟩ = some c2 := hcc 2 c2 rfl
    have m3 : wc.cell? ⟨bW, i * 4 + 3, none⟩ = some c3 := hcc 3 c3 rfl
    have n0 : wc.frozen? ⟨bW, i * 4, none⟩ = false := hcf 0
    have n1 : wc.frozen? ⟨bW, i * 4 + 1, none⟩ = false := hcf 1
    have n2 : wc.frozen? ⟨bW, i * 4 + 2, none⟩ = false := hcf 2
    have n3 : wc.frozen? ⟨bW, i * 4 + 3, none⟩ = false := hcf 3
    simp only [Int.toNat_natCast] at k1 k2
    clear hcc hcf hcl
    have gW : g ≠ bW := fun e => by
      obtain ⟨cs, h⟩ := Kd.R_typed HM3.out.rW bW rfl
      rw [← e, HM3.out.obj] at h
      injection h with h
      injection h with _ h
      exact absurd h (by decide)
    have gK : g ≠ bK := fun e => by
      obtain ⟨cs, h⟩ := Kd.R_typed HM3.out.rK bK rfl
      rw [← e, HM3.out.obj] at h
      injection h with h
      injection h with _ h
      exact absurd h (by decide)
    have kW : bK ≠ bW := fun e => by
      obtain ⟨cs, h⟩ := Kd.R_typed HM3.out.rK bK rfl
      obtain ⟨cs', h'⟩ := Kd.R_typed HM3.out.rW bW rfl
      rw [e, h'] at h
      injection h with h
      injection h with _ h
      exact absurd h (by decide)
    have kW' := Ne.symm kW
    have b5W : b5 ≠ bW := Ne.symm HG.out.2.2.2.2.2.1
    have b5K : b5 ≠ bK := Ne.symm HG.out.2.2.2.1
    have b4W : b4 ≠ bW := Ne.symm HG.out.2.2.2.2.1
    have b4K : b4 ≠ bK := Ne.symm HG.out.2.2.1
    have HK := Aside0.mk (show ∀ W : World, W.heap[g]? = some (.cells #[.slice (some adU) n cU, .slice (some adO) n cO, .slice (some ⟨bK, 0, none⟩) n cK, .slice (some ⟨bW, 0, none⟩) n cW, .int .i64 cnt] 67 (0, 0)) → W.heap[b5]? = some (.cells #[.int .i64 q.f0.f0, .int .i64 q.f0.f1, .int .i64 q.f1, .int .i64 q.f2] 45 (0, 0)) →
      W.cell? ⟨g, 2, none⟩ = some (.slice (some ⟨bK, 0, none⟩) n cK) ∧ W.cell? ⟨g, 3, none⟩ = some (.slice (some ⟨bW, 0, none⟩) n cW) ∧ W.cell? ⟨b5, 0, none⟩ = some (.int .i64 q.f0.f0) ∧ W.cell? ⟨b5, 1, none⟩ = some (.int .i64 q.f0.f1) ∧ W.cell? ⟨b5, 2, none⟩ = some (.int .i64 q.f1) ∧ W.cell? ⟨b5, 3, none⟩ = some (.int .i64 q.f2) from fun W h1 h2 => by
        obtain ⟨_, _, a, b, _⟩ := d5 h1
        obtain ⟨c, d, e, f, _⟩ := f4 h2
        exact ⟨a, b, c, d, e, f⟩)
    have HGO := Aside0.mk HM3.out.obj
    have HQ5 := Aside0.mk HQ.out.1
    go_upto_region 7 with (fail)
    have HFR := Aside0.mk (show ∀ k, k < w.heap.size → wc.heap[k]? = w.heap[k]? from fun k hk => HQ.out.2.2.block k hk)
    go_cut [] (fun wd => Aside0 ((∀ k, k < w.heap.size → k ≠ bK → k ≠ bW → wd.heap[k]? = w.heap[k]?) ∧ Mid w0 wS wd g #[.slice (some adU) n cU, .slice (some adO) n cO, .slice (some ⟨bK, 0, none⟩) n cK, .slice (some ⟨bW, 0, none⟩) n cW, .int .i64 cnt] (.slice (some adU) n cU) (.slice (some adO) n cO) (.slice (some ⟨bK, 0, none⟩) n cK) (.slice (some ⟨bW, 0, none⟩) n cW) ups own (kn.set i true) (who.set i q) ∧ wd.heap[b5]? = some (.cells #[.int .i64 q.f0.f0, .int .i64 q.f0.f1, .int .i64 q.f1, .int .i64 q.f2] 45 (0, 0)) ∧ wd.heap[b4]? = some (.cells #[.int .i64 0, .int .i64 0, .int .i64 0, .int .i64 0] 45 (0, 0))))
    case first =>
      go_region_held3 (fun W => W.cell? ⟨g, 2, none⟩ = some (.slice (some ⟨bK, 0, none⟩) n cK) ∧ W.cell? ⟨g, 3, none⟩ = some (.slice (some ⟨bW, 0, none⟩) n cW) ∧ W.cell? ⟨b5, 0, none⟩ = some (.int .i64 q.f0.f0) ∧ W.cell? ⟨b5, 1, none⟩ = some (.int .i64 q.f0.f1) ∧ W.cell? ⟨b5, 2, none⟩ = some (.int .i64 q.f1) ∧ W.cell? ⟨b5, 3, none⟩ = some (.int .i64 q.f2))
        (exact HK.out _ (by with_reducible repeat (first | exact HGO.out | apply blk_drew | (refine far4 ?_ gW _ _ _ _ _ _ _ _) | (refine blk_far ?_ (p := ⟨bK, _, none⟩) gK _))) (by with_reducible repeat (first | exact HQ5.out | apply blk_drew | (refine far4 ?_ b5W _ _ _ _ _ _ _ _) | (refine blk_far ?_ (p := ⟨bK, _, none⟩) b5K _))))
        (fail)
      all_goals go_wp2
      all_goals go_meet
      all_goals exact ⟨⟨fun k hk h1 h2 => (Below.heap_setCell _ ⟨bK, i, none⟩ _ k h1).trans ((far4e h2 _ _ _ _ _ _ _ _).trans (HFR.out k hk)), ((HM3.out.setW i hi q).setK i hi true).drew, blk_drew (blk_far (far4 HQ5.out b5W _ _ _ _ _ _ _ _) (p := ⟨bK, i, none⟩) b5K _), blk_drew (blk_far (far4 HQ.out.2.1 b4W _ _ _ _ _ _ _ _) (p := ⟨bK, i, none⟩) b4K _)⟩⟩
    case rest =>
      have HQ3 := hcut
      clear x0 x1 x2 x3 x4 x5 p0 p1 p2 p3 p4 p5 p6 p7 k1 k2 m0 m1 m2 m3 n0 n1 n2 n3 HK HGO HQ5 HM3 HQ
      have g4 : g ≠ b4 := HG.out.1
      have g5 : g ≠ b5 := HG.out.2.1
      have o4 : some b4 ≠ (Value.slice (some adO) n cO).ownBlock := fun he => by have := Kd.R_lt HM.out.rO b4 he.symm; have := HS4.out; omega
      have w4 : some b4 ≠ (Value.slice (some ⟨bW, 0, none⟩) n cW).ownBlock := fun he => by have := Kd.R_lt HM.out.rW b4 he.symm; have := HS4.out; omega
      have h04 : w0.heap.size ≤ b4 := by have := HM.out.bel.size; have := HS4.out; omega
      obtain ⟨x0, x1, x2, x3, x4, x5⟩ := d5 HQ3.out.2.1.obj
      go_upto_region 9 with (fail)
      have HM4 := Aside0.mk (HQ3.out.2.1.set 4 (.int .i64 (wrap64 (cnt + 1))))
      have HB5 := Aside0.mk (blk_far HQ3.out.2.2.1 (p := ⟨g, 4, none⟩) (Ne.symm g5) (.int .i64 (wrap64 (cnt + 1))))
      have HB4 := Aside0.mk (blk_far HQ3.out.2.2.2 (p := ⟨g, 4, none⟩) (Ne.symm g4) (.int .i64 (wrap64 (cnt + 1))))
      have HFE := Aside0.mk (show ∀ k, k < w.heap.size → k ≠ g → k ≠ bK → k ≠ bW → (wc.setCell ⟨g, 4, none⟩ (.int .i64 (wrap64 (cnt + 1)))).heap[k]? = w.heap[k]? from fun k hk h0 h1 h2 => (Below.heap_setCell _ ⟨g, 4, none⟩ _ k h0).trans (HQ3.out.1 k hk h1 h2))
      generalize wc.setCell ⟨g, 4, none⟩ (.int .i64 (wrap64 (cnt + 1))) = we at HM4 HB5 HB4 HFE ⊢
      clear x0 x1 x2 x3 x4 x5 HQ3
      obtain ⟨p0, p1, p2, p3, _⟩ := f4 HB5.out
      obtain ⟨r0, r1, r2, r3, r4, r5, r6, r7⟩ := f4 HB4.out
      have HP4 := Aside0.mk (put4 HB4.out (.int .i64 q.f0.f0) (.int .i64 q.f0.f1) (.int .i64 q.f1) (.int .i64 q.f2))
      have h1 := HM4.out.box h04 HB4.out g4 o4 w4 0 (.int .i64 q.f0.f0)
      have c1 := blk_put HB4.out 0 (.int .i64 q.f0.f0) rfl
      have h2 := h1.box h04 c1 g4 o4 w4 1 (.int .i64 q.f0.f1)
      have c2 := blk_put c1 1 (.int .i64 q.f0.f1) rfl
      have h3 := h2.box h04 c2 g4 o4 w4 2 (.int .i64 q.f1)
      have c3 := blk_put c2 2 (.int .i64 q.f1) rfl
      have HF := Aside0.mk (h3.box h04 c3 g4 o4 w4 3 (.int .i64 q.f2))
      clear h1 c1 h2 c2 h3 c3
      go_wp2_with (fail)
      refine bodyPost_ret (results_cell_row rfl _ _ b4 45 #[.int .i64 q.f0.f0, .int .i64 q.f0.f1, .int .i64 q.f1, .int .i64 q.f2] (0, 0) _ rfl HP4.out Try.underlying45 rfl (by kernel_rfl)) rfl ?_
      exact ⟨q, rfl, ⟨_, HF.out⟩, fun k hk h0 h1 h2 => (far4e (by have := HS4.out; omega) _ _ _ _ _ _ _ _).trans (HFE.out k hk h0 h1 h2)⟩
set_option maxHeartbeats 8000000 in
set_option maxRecDepth 100000 in
theorem T_At (w0 wS w : World) (g : Nat) (AU AO : Option Addr) (bK bW : Nat) (cU cO cK cW n : Nat) (cnt : Int) (ups : List Int) (own : List S45) (kn : List Bool) (who : List S45)
    (HM : Mid w0 wS w g #[.slice AU n cU, .slice AO n cO, .slice (some ⟨bK, 0, none⟩) n cK, .slice (some ⟨bW, 0, none⟩) n cW, .int .i64 cnt] (.slice AU n cU) (.slice AO n cO) (.slice (some ⟨bK, 0, none⟩) n cK) (.slice (some ⟨bW, 0, none⟩) n cW) ups own kn who)
    (i : Nat) (hi : i < n) (hk : kn.getD i false = false) (up : Int) (hup : ups.getD i 0 = up) (hu : up = -1 ∨ ∃ j : Nat, up = (j : Int) ∧ j < n ∧ kn.getD j false = true) :
    Calls Try.prog 11 #[.pointer (some ⟨g, 0, none⟩), .int .i64 (i : Int)] w fun e w' => ∃ q : S45, e = .returned (.tuple #[.agg #[.int .i64 q.f0.f0, .int .i64 q.f0.f1, .int .i64 q.f1, .int .i64 q.f2], .int .i64 0]) ∧
      ∃ cnt', Mid w0 wS w' g #[.slice AU n cU, .slice AO n cO, .slice (some ⟨bK, 0, none⟩) n cK, .slice (some ⟨bW, 0, none⟩) n cW, .int .i64 cnt'] (.slice AU n cU) (.slice AO n cO) (.slice (some ⟨bK, 0, none⟩) n cK) (.slice (some ⟨bW, 0, none⟩) n cW) ups own (kn.set i true) (who.set i q) ∧ ∀ k, k < w.heap.size → k ≠ g → k ≠ bK → k ≠ bW → w'.heap[k]? = w.heap[k]? := by
  have h1 : ¬ (i : Int) < 0 := by omega
  have h2 : ¬ (n : Int) ≤ (i : Int) := by omega
  have HM2 := Aside0.mk (HM.alloc (.cells #[.int .i64 0, .int .i64 0, .int .i64 0, .int .i64 0] 45))
  have HB := Aside0.mk (blk_new w (.cells #[.int .i64 0, .int .i64 0, .int .i64 0, .int .i64 0] 45))
  have o4 : some w.heap.size ≠ (Value.slice AO n cO).ownBlock := fun he => by have := Kd.R_lt HM.rO _ he.symm; omega
  have w4 : some w.heap.size ≠ (Value.slice (some ⟨bW, 0, none⟩) n cW).ownBlock := fun he => by have := Kd.R_lt HM.rW _ he.symm; omega
  have g4 : g ≠ w.heap.size := by have := blk_lt HM.obj; omega
  have h04 := HM.bel.size
  have hA := Aside0.mk (And.intro hi (And.intro hk (And.intro hup hu)))
  have gz := (⟨by have := Kd.R_lt HM.rK bK rfl; omega, by have := Kd.R_lt HM.rW bW rfl; omega⟩ : bK ≠ w.heap.size ∧ bW ≠ w.heap.size)
  have HG := Aside0.mk gz
  have x0 := (d5 HM2.out.obj).1
  clear HM hk hup hu gz
  go_enter Try.func11, Try.ntmps11
  go_upto_region 1 with (fail)
  go_wp2_with (fail)
  refine (T_at2 w0 wS _ g AU AO bK bW cU cO cK cW n cnt ups own kn who HM2.out i hA.out.1 hA.out.2.1 up hA.out.2.2.1 hA.out.2.2.2).mono ?_
  rintro e w1 ⟨q, rfl, cnt', hM, hF⟩
  have HM3 := Aside0.mk hM
  have hlt : w.heap.size < (w.alloc (.cells #[.int .i64 0, .int .i64 0, .int .i64 0, .int .i64 0] 45)).heap.size := by rw [World.size_alloc]; omega
  have HB4 := Aside0.mk ((hF w.heap.size hlt (Ne.symm g4) (Ne.symm HG.out.1) (Ne.symm HG.out.2)).trans HB.out)
  have HFE := Aside0.mk (show ∀ k, k < w.heap.size → k ≠ g → k ≠ bK → k ≠ bW → w1.heap[k]? = w.heap[k]? from fun k hk h0 h1 h2 => (hF k (by omega) h0 h1 h2).trans ((below_alloc (Below.refl w.heap.size w) _).block k hk))
  clear hM hF hlt x0
  obtain ⟨b4, hb4⟩ : ∃ b4, w.heap.size = b4 := ⟨_, rfl⟩
  rw [hb4] at HB4 HG g4 o4 w4 h04 HB HFE ⊢
  obtain ⟨r0, r1, r2, r3, r4, r5, r6, r7⟩ := f4 HB4.out
  have HP4 := Aside0.mk (put4 HB4.out (.int .i64 q.f0.f0) (.int .i64 q.f0.f1) (.int .i64 q.f1) (.int .i64 q.f2))
  have h1' := HM3.out.box h04 HB4.out g4 o4 w4 0 (.int .i64 q.f0.f0)
  have c1 := blk_put HB4.out 0 (.int .i64 q.f0.f0) rfl
  have h2' := h1'.box h04 c1 g4 o4 w4 1 (.int .i64 q.f0.f1)
  have c2 := blk_put c1 1 (.int .i64 q.f0.f1) rfl
  have h3' := h2'.box h04 c2 g4 o4 w4 2 (.int .i64 q.f1)
  have c3 := blk_put c2 2 (.int .i64 q.f1) rfl
  have HF := Aside0.mk (h3'.box h04 c3 g4 o4 w4 3 (.int .i64 q.f2))
  clear h1' c1 h2' c2 h3' c3
  go_wp2_with (fail)
  refine bodyPost_ret (results_ct rfl _ _ b4 45 #[.int .i64 q.f0.f0, .int .i64 q.f0.f1, .int .i64 q.f1, .int .i64 q.f2] (0, 0) _ rfl HP4.out Try.underlying45 rfl (by kernel_rfl)) rfl ?_
  exact ⟨q, rfl, _, HF.out, fun k hk h0 h1 h2 => (far4e (by omega) _ _ _ _ _ _ _ _).trans (HFE.out k (by omega) h0 h1 h2)⟩
end Go.Proofs.Ytffbonfgbmohdaa.P
namespace Go.Proofs.Ytffbonfgbmohdaa.P
open Go.RowKit Go.Proofs.YtffbonfgbmohdaaW.PrintWords Go.Proofs.YtffbonfgbmohdaaW.PrintLast Go.Proofs.YtffbonfgbmohdaaW.PrintMore
set_option linter.unusedVariables false

theorem c5 {w : World} {g : Nat} {a b c d e : Value} {t : TypeId} (h : w.heap[g]? = some (.cells #[a, b, c, d, e] t (0, 0))) : w.cell? ⟨g, 0, none⟩ = some a ∧ w.cell? ⟨g, 1, none⟩ = some b ∧ w.cell? ⟨g, 2, none⟩ = some c ∧ w.cell? ⟨g, 3, none⟩ = some d ∧ w.cell? ⟨g, 4, none⟩ = some e ∧ w.frozen? ⟨g, 0, none⟩ = false ∧ w.frozen? ⟨g, 1, none⟩ = false ∧ w.frozen? ⟨g, 2, none⟩ = false ∧ w.frozen? ⟨g, 3, none⟩ = false ∧ w.frozen? ⟨g, 4, none⟩ = false :=
  ⟨(blk_cell h 0).trans rfl, (blk_cell h 1).trans rfl, (blk_cell h 2).trans rfl, (blk_cell h 3).trans rfl, (blk_cell h 4).trans rfl, blk_frozen h 0, blk_frozen h 1, blk_frozen h 2, blk_frozen h 3, blk_frozen h 4⟩
theorem b4 {w : World} {g : Nat} {x y z u : Value} {t : TypeId} (h : w.heap[g]? = some (.cells #[x, y, z, u] t (0, 0))) : w.cell? ⟨g, 0, none⟩ = some x ∧ w.cell? ⟨g, 1, none⟩ = some y ∧ w.cell? ⟨g, 2, none⟩ = some z ∧ w.cell? ⟨g, 3, none⟩ = some u ∧ w.frozen? ⟨g, 0, none⟩ = false ∧ w.frozen? ⟨g, 1, none⟩ = false ∧ w.frozen? ⟨g, 2, none⟩ = false ∧ w.frozen? ⟨g, 3, none⟩ = false :=
  ⟨(blk_cell h 0).trans rfl, (blk_cell h 1).trans rfl, (blk_cell h 2).trans rfl, (blk_cell h 3).trans rfl, blk_frozen h 0, blk_frozen h 1, blk_frozen h 2, blk_frozen h 3⟩
theorem nw2 {W : World} {o o' : Obj} : ((W.alloc o).alloc o').heap[W.heap.size + 1]? = some o' := by
  have h := blk_new (W.alloc o) o'
  rwa [show (W.alloc o).heap.size = W.heap.size + 1 from Array.size_push _] at h
theorem no45_3 : (45 : Nat) ≠ 3 := by decide
theorem no45_4 : (45 : Nat) ≠ 4 := by decide
end Go.Proofs.Ytffbonfgbmohdaa.P
namespace Go.Proofs.Ytffbonfgbmohdaa.P
open Go.RowKit Go.Proofs.YtffbonfgbmohdaaW.PrintWords Go.Proofs.YtffbonfgbmohdaaW.PrintLast Go.Proofs.YtffbonfgbmohdaaW.PrintMore
set_option linter.unusedVariables false
set_option linter.unusedSimpArgs false

/-- blocks of types T are as they were -/
def KX (T : List Nat) (W W' : World) : Prop := ∀ (k t : Nat) (cs : Array Value), t ∈ T → W.heap[k]? = some (.cells cs t (0, 0)) → W'.heap[k]? = some (.cells cs t (0, 0))
theorem KX.below {T : List Nat} {W W' : World} (hb : Below W.heap.size W W') : KX T W W' := fun k t cs _ h => blk_below h hb
theorem KX.kt {W W' : World} (h : KT W W') : KX [23, 26, 43, 69] W W' := fun k t cs ht hk => by
  simp only [List.mem_cons, List.not_mem_nil, or_false] at ht
  exact h k t cs (by rcases ht with rfl | rfl | rfl | rfl <;> decide) (by rcases ht with rfl | rfl | rfl | rfl <;> decide) (by rcases ht with rfl | rfl | rfl | rfl <;> decide) (by rcases ht with rfl | rfl | rfl | rfl <;> decide) hk
theorem KX.but {T : List Nat} {W W' : World} {g e : Nat} {o : Array Value} (hk : KeepBut W W' g none) (hg : W.heap[g]? = some (.cells o e (0, 0))) (he : e ∉ T) : KX T W W' := fun k t cs ht h =>
  (hk.2 k (blk_lt h) (by
    rintro rfl
    rw [hg] at h
    injection h with h
    injection h with _ h
    exact he (h ▸ ht)) (by simp)).trans h
theorem KX.grown {T : List Nat} {W W' : World} {α : Type} {d : Kd α} {e base : Nat} {ok : Nat → Prop} {v : Value} {xs : List α} (hR : d.R e W base ok v xs) (hg : W.grownBy W' v.ownBlock) (he : e ∉ T) : KX T W W' := fun k t cs ht h =>
  keeps_of hR hg k t cs (by rintro rfl; exact he ht) h
theorem KX.sub {T T' : List Nat} {W W' : World} (h : KX T W W') (hs : ∀ t, t ∈ T' → t ∈ T) : KX T' W W' := fun k t cs ht hk => h k t cs (hs t ht) hk
theorem Kd.R_kx {α : Type} {d : Kd α} {T : List Nat} {e base : Nat} {W W' : World} {ok : Nat → Prop} {v : Value} {xs : List α} (h : d.R e W base ok v xs) (hk : KX T W W') (ht : ∀ q, q ∈ e :: d.E → q ∈ T) : d.R e W' base ok v xs :=
  Kd.R_mono (Kd.R_step (Kd.R_bound h) (fun k hq _ => by
    obtain ⟨_, _, _, q, hq1, cs, hc⟩ := hq
    rw [hc]
    exact hk k q cs (ht q hq1) hc)) (fun _ hq => hq.1)
theorem Kd.S_kx {α : Type} {d : Kd α} {T : List Nat} {e base : Nat} {W W' : World} {ok : Nat → Prop} {v : Value} {xs : List α} (h : Kd.S d e W base ok v xs) (hk : KX T W W') (ht : ∀ q, q ∈ e :: d.E → q ∈ T) : Kd.S d e W' base ok v xs := by
  obtain ⟨f, h⟩ := h
  exact ⟨f, Kd.R_kx h hk ht⟩
theorem IsS69.kx {w W W' : World} {g : Nat} {l : List Int} {j : Int} (h : IsS69 w W g l j) (hk : KX [69] W W') : IsS69 w W' g l j := by
  obtain ⟨A, c, h1, h2, h3⟩ := h
  exact ⟨A, c, hk g 69 _ (by simp) h1, h2, h3⟩
/-- a scene's parts -/
structure Scn where
  (AU AO AK AW : Option Addr)
  (cU cO cK cW : Nat)
  cnt : Int
  ups : List Int
  own : List S45
  kn : List Bool
  who : List S45
abbrev Scn.mid (s : Scn) (w wS W : World) (g n : Nat) : Prop := Mid w wS W g #[.slice s.AU n s.cU, .slice s.AO n s.cO, .slice s.AK n s.cK, .slice s.AW n s.cW, .int .i64 s.cnt] (.slice s.AU n s.cU) (.slice s.AO n s.cO) (.slice s.AK n s.cK) (.slice s.AW n s.cW) s.ups s.own s.kn s.who
theorem Mid.base {w0 wS W : World} {g : Nat} {ob : Array Value} {vU vO vK vW : Value} {ups : List Int} {own : List S45} {kn : List Bool} {who : List S45} (h : Mid w0 wS W g ob vU vO vK vW ups own kn who) : Mid w0 W W g ob vU vO vK vW ups own kn who :=
  ⟨h.bel, KT.refl W, h.gb, h.obj, h.rU, h.rO, h.rK, h.rW⟩
theorem Mid.kx {w0 wS W W' : World} {g : Nat} {ob : Array Value} {vU vO vK vW : Value} {ups : List Int} {own : List S45} {kn : List Bool} {who : List S45} (h : Mid w0 wS W g ob vU vO vK vW ups own kn who) (hb : Below w0.heap.size w0 W') (hk : KX [67, 3, 45, 4] W W') : Mid w0 W' W' g ob vU vO vK vW ups own kn who :=
  ⟨hb, KT.refl W', h.gb, hk g 67 _ (by simp) h.obj, Kd.R_kx h.rU hk (fun q hq => by rw [show q = 3 by simpa [Kd.int, Kd.scalar] using hq]; decide),
    Kd.R_kx h.rO hk (fun q hq => by rw [show q = 45 by simpa [k45, k43, Kd.iso, Kd.pair, Kd.int, Kd.scalar] using hq]; decide),
    Kd.R_kx h.rK hk (fun q hq => by rw [show q = 4 by simpa [Kd.bool, Kd.scalar] using hq]; decide),
    Kd.R_kx h.rW hk (fun q hq => by rw [show q = 45 by simpa [k45, k43, Kd.iso, Kd.pair, Kd.int, Kd.scalar] using hq]; decide)⟩
theorem in26 {q : Nat} (hq : q ∈ 26 :: k26.E) : q = 26 ∨ q = 43 := by
  simp only [k26, k43, Kd.iso, Kd.pair, Kd.int, Kd.scalar, Kd.slice, List.mem_cons, List.append_nil, List.nil_append, List.not_mem_nil, or_false] at hq
  exact hq
/-- the whole state ahead of round i -/
structure PS (w W : World) (b7 g14 g15 : Nat) (V : Array Value) (L1 : List Int) (vr : Value) (i : Nat) (s : Scn) (j : Int) (ts : List S26) : Prop where
  mid : s.mid w W W g14 i
  src : IsS69 w W g15 L1 j
  box : W.heap[b7]? = some (.cells V 23 (0, 0))
  row : Kd.S k26 26 W w.heap.size (fun _ => True) vr ts
section
variable {w W W' : World} {b7 g14 g15 : Nat} {V : Array Value} {L1 : List Int} {vr : Value} {i i' : Nat} {s s' : Scn} {j j' : Int} {ts : List S26}
theorem PS.below (h : PS w W b7 g14 g15 V L1 vr i s j ts) (hb : Below W.heap.size W W') : PS w W' b7 g14 g15 V L1 vr i s j ts :=
  ⟨(Mid.below h.mid hb).base, h.src.below hb, blk_below h.box hb, Kd.S_below h.row hb⟩
theorem PS.num (h : PS w W b7 g14 g15 V L1 vr i s j ts) (hs : IsS69 w W' g15 L1 j') (hb : Below w.heap.size w W') (hk : KeepBut W W' g15 none) : PS w W' b7 g14 g15 V L1 vr i s j' ts := by
  obtain ⟨A, c, h1, h2, h3⟩ := h.src
  have k : KX [67, 3, 45, 4, 23, 26, 43] W W' := KX.but hk h1 (by decide)
  exact ⟨Mid.kx h.mid hb (k.sub (by decide)), hs, k b7 23 _ (by decide) h.box, Kd.S_kx h.row k (fun q hq => by rcases in26 hq with rfl | rfl <;> decide)⟩
theorem PS.scene (h : PS w W b7 g14 g15 V L1 vr i s j ts) (hm : s'.mid w W W' g14 i') : PS w W' b7 g14 g15 V L1 vr i' s' j ts := by
  have k := KX.kt hm.kp
  exact ⟨hm.base, h.src.kx (k.sub (by decide)), k b7 23 _ (by decide) h.box, Kd.S_kx h.row k (fun q hq => by rcases in26 hq with rfl | rfl <;> decide)⟩
/-- points of one thing were written -/
theorem PS.points (h : PS w W b7 g14 g15 V L1 vr i s j ts) {d : Kd S43} {v : Value} {base : Nat} {ok : Nat → Prop} {l : List S43} (hR : d.R 43 W base ok v l) (hg : W.grownBy W' v.ownBlock) (hbase : w.heap.size ≤ base) {ts' : List S26} (hr : Kd.S k26 26 W' w.heap.size (fun _ => True) vr ts') : PS w W' b7 g14 g15 V L1 vr i s j ts' := by
  have k : KX [67, 3, 45, 4, 23, 69] W W' := KX.grown hR hg (by decide)
  refine ⟨Mid.kx h.mid (h.mid.bel.grown hg h.mid.bel.size ?_) (k.sub (by decide)), h.src.kx (k.sub (by decide)), k b7 23 _ (by decide) h.box, hr⟩
  intro b hb
  exact Nat.le_trans hbase (Kd.R_base hR b hb)
end
end Go.Proofs.Ytffbonfgbmohdaa.P
