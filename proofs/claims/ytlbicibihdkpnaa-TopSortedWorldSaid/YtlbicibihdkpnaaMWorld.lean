/- Package tourmake: the stream, Below, Next. No condition. Package tourmake: what kinds keeps in memory. No condition. Package tourmake: kinds. No condition. Package tourmake: what comps keeps in memory. No condition. Package tourmake: comps. No condition. Package tourmake: what World keeps in memory. No condition. Package tourmake: World. No condition. -/
import Derived.BigRegion
import Derived.Test.YtlbicibihdkpnaaPAllx0
import Derived.Test.YtlbicibihdkpnaaPAllx21
import Derived.Deep.RegionHeld3
import Derived.Deep.RegionLaw
import Derived.Deep.DeepCutAuto
import Derived.Deep.DrawnRows
import Derived.StillTailTactics
namespace Go.Proofs.Ytlbicibihdkpnaa.P
open Go.RowKit Go.Proofs.YtlbicibihdkpnaaW.PrintWords Go.Proofs.YtlbicibihdkpnaaW.PrintLast Go.Proofs.YtlbicibihdkpnaaW.PrintMore
set_option linter.unusedVariables false
set_option linter.unusedSimpArgs false

theorem below_some (x n : Int) (hx : -9223372036854775808 ≤ x ∧ x < 9223372036854775808) (h0 : 1 ≤ n) (h1 : n ≤ 4611686018427387904) : ∃ r, tourmake_Below.f x n = some r ∧ 0 ≤ r ∧ r < n := by
  unfold tourmake_Below.f
  rw [if_neg (by omega)]
  have a1 : Int.tmod x n < n := Int.tmod_lt_of_pos x (by omega)
  have a2 : -n < Int.tmod x n := by
    have := Int.tmod_lt_of_pos (-x) (show 0 < n by omega)
    rw [Int.neg_tmod] at this; omega
  by_cases h : Int.tmod x n < 0
  · rw [if_pos h, show wrap64 (Int.tmod x n + n) = Int.tmod x n + n from by unfold wrap64; omega]
    exact ⟨_, rfl, by omega, by omega⟩
  · rw [if_neg h]
    exact ⟨_, rfl, by omega, by omega⟩
/-- what is below w's end, block g apart, is as it was -/
structure Fz (w w' : World) (g : Nat) : Prop where
  size : w.heap.size ≤ w'.heap.size
  same : ∀ b, b < w.heap.size → b ≠ g → w'.heap[b]? = w.heap[b]?
theorem Fz.refl (w : World) (g : Nat) : Fz w w g := ⟨Nat.le_refl _, fun _ _ _ => rfl⟩
theorem Fz.trans {a b c : World} {g : Nat} (h : Fz a b g) (k : Fz b c g) : Fz a c g :=
  ⟨Nat.le_trans h.size k.size, fun i hi hg => (k.same i (Nat.lt_of_lt_of_le hi h.size) hg).trans (h.same i hi hg)⟩
theorem Fz.of_below {a b : World} {g : Nat} (h : Below a.heap.size a b) : Fz a b g := ⟨h.size, fun i hi _ => h.block i hi⟩
theorem Fz.set {a b : World} {g : Nat} (h : Fz a b g) (j : Nat) (v : Value) : Fz a (b.setCell ⟨g, j, none⟩ v) g :=
  ⟨by rw [World.size_setCell]; exact h.size, fun i hi hg => (Below.heap_setCell b ⟨g, j, none⟩ v i hg).trans (h.same i hi hg)⟩
theorem Fz.set_new {a b : World} {g k : Nat} (h : Fz a b g) (hk : a.heap.size ≤ k) (j : Nat) (v : Value) : Fz a (b.setCell ⟨k, j, none⟩ v) g :=
  ⟨by rw [World.size_setCell]; exact h.size, fun i hi hg => (Below.heap_setCell b ⟨k, j, none⟩ v i (Nat.ne_of_lt (Nat.lt_of_lt_of_le hi hk))).trans (h.same i hi hg)⟩
theorem Fz.drewN {a b : World} {g : Nat} (h : Fz a b g) (m : Nat) : Fz a (b.drewN m) g := ⟨h.size, h.same⟩
theorem Fz.blk {w w' : World} {g b t : Nat} {cs : Array Value} {o : Obj} (h : Fz w w' g) (hg : w.heap[g]? = some (.cells cs t (0, 0))) (hb : w.heap[b]? = some o) (hne : b ≠ g) : w'.heap[b]? = some o := (h.same b (blk_lt hb) hne).trans hb
theorem Fz.at_ {w w' : World} {g b : Nat} {o : Obj} (h : Fz w w' g) (hb : w.heap[b]? = some o) (hne : b ≠ g) : w'.heap[b]? = some o := (h.same b (blk_lt hb) hne).trans hb
theorem Kd.R_fz {α : Type} {d : Kd α} {w w' : World} {g t e base : Nat} {cs : Array Value} {ok : Nat → Prop} {v : Value} {xs : List α} (h : d.R e w base ok v xs) (hF : Fz w w' g) (hg : w.heap[g]? = some (.cells cs t (0, 0))) (ht : ∀ q, q ∈ e :: d.E → q ≠ t) : d.R e w' base ok v xs :=
  Kd.R_mono (Kd.R_step (Kd.R_types h hg ht) (fun k hk hlt => hF.same k hlt hk.2)) (fun _ hk => hk.1)
/-- A stream at block g: its numbers lay in memory at w0 already. -/
def St (w0 W : World) (g : Nat) (L : List Int) : Prop :=
  ∃ A c, W.heap[g]? = some (.cells #[.slice A L.length c] 66 (0, 0)) ∧ w0.heap.size ≤ g ∧ L.length ≤ c ∧ Kd.C (Kd.int .i64) w0 A L.length L ∧ ∀ x ∈ L, -9223372036854775808 ≤ x ∧ x < 9223372036854775808
theorem St.below {w0 W W' : World} {g : Nat} {L : List Int} (h : St w0 W g L) (hb : Below W.heap.size W W') : St w0 W' g L := by
  obtain ⟨A, c, h1, h2⟩ := h
  exact ⟨A, c, (hb.block g (blk_lt h1)).trans h1, h2⟩
theorem St.blk {w0 W : World} {g : Nat} {L : List Int} (h : St w0 W g L) : ∃ cs, W.heap[g]? = some (.cells cs 66 (0, 0)) := by
  obtain ⟨A, c, h1, _⟩ := h
  exact ⟨_, h1⟩
theorem St.ge {w0 W : World} {g : Nat} {L : List Int} (h : St w0 W g L) : w0.heap.size ≤ g := by
  obtain ⟨A, c, _, h2, _⟩ := h
  exact h2
theorem new2 {W : World} {o o' : Obj} : ((W.alloc o).alloc o').heap[W.heap.size + 1]? = some o' := by
  have h := blk_new (W.alloc o) o'
  rwa [show (W.alloc o).heap.size = W.heap.size + 1 from Array.size_push _] at h
theorem new2' {W : World} {o o' : Obj} {k : Nat} (h : W.heap.size + 1 = k) : ((W.alloc o).alloc o').heap[k]? = some o' := h ▸ new2
theorem below_alloc2 {B : Nat} {w W : World} (h : Below B w W) (hB : B ≤ w.heap.size) (o : Obj) : Below B w (W.alloc o) := h.alloc (Nat.le_trans hB h.size) o
theorem cells2 {w : World} {g : Nat} {x y : Value} {t : TypeId} (h : w.heap[g]? = some (.cells #[x, y] t (0, 0))) : w.cell? ⟨g, 0, none⟩ = some x ∧ w.cell? ⟨g, 1, none⟩ = some y ∧ w.frozen? ⟨g, 0, none⟩ = false ∧ w.frozen? ⟨g, 1, none⟩ = false :=
  ⟨(blk_cell h 0).trans rfl, (blk_cell h 1).trans rfl, blk_frozen h 0, blk_frozen h 1⟩
theorem cells3 {w : World} {g : Nat} {x y z : Value} {t : TypeId} (h : w.heap[g]? = some (.cells #[x, y, z] t (0, 0))) : w.cell? ⟨g, 0, none⟩ = some x ∧ w.cell? ⟨g, 1, none⟩ = some y ∧ w.cell? ⟨g, 2, none⟩ = some z ∧ w.frozen? ⟨g, 0, none⟩ = false ∧ w.frozen? ⟨g, 1, none⟩ = false ∧ w.frozen? ⟨g, 2, none⟩ = false :=
  ⟨(blk_cell h 0).trans rfl, (blk_cell h 1).trans rfl, (blk_cell h 2).trans rfl, blk_frozen h 0, blk_frozen h 1, blk_frozen h 2⟩
theorem cell1 {W : World} {g : Nat} {a : Value} {t : TypeId} (h : W.heap[g]? = some (.cells #[a] t (0, 0))) : W.cell? ⟨g, 0, none⟩ = some a := by simp [World.cell?, h]
theorem put3 {w : World} {g : Nat} {a b c x y z : Value} {t : TypeId} (h : w.heap[g]? = some (.cells #[x, y, z] t (0, 0))) :
    (((w.setCell ⟨g, 0, none⟩ a).setCell ⟨g, 1, none⟩ b).setCell ⟨g, 2, none⟩ c).heap[g]? = some (.cells #[a, b, c] t (0, 0)) :=
  blk_put (cs := #[a, b, z]) (blk_put (cs := #[a, y, z]) (blk_put (cs := #[x, y, z]) h 0 a rfl) 1 b rfl) 2 c rfl
theorem St.set_other {w0 W : World} {g : Nat} {L : List Int} (h : St w0 W g L) {k : Nat} (hk : g ≠ k) (j : Nat) (v : Value) : St w0 (W.setCell ⟨k, j, none⟩ v) g L := by
  obtain ⟨A, c, h1, h2⟩ := h
  exact ⟨A, c, blk_far h1 hk v, h2⟩
theorem St.grown {w0 W W1 : World} {g : Nat} {L : List Int} {row : Option Nat} (h : St w0 W g L) (hg : W.grownBy W1 row) (hne : some g ≠ row) : St w0 W1 g L := by
  obtain ⟨A, c, h1, h2⟩ := h
  exact ⟨A, c, blk_grown h1 hg hne, h2⟩
theorem Fz.grown {a b c : World} {g : Nat} {row : Option Nat} (h : Fz a b g) (hg : b.grownBy c row) (hne : ∀ k, row = some k → a.heap.size ≤ k) : Fz a c g :=
  ⟨Nat.le_trans h.size hg.size, fun i hi hi2 => (hg.block i (Nat.lt_of_lt_of_le hi h.size) (fun e => by have := hne i e.symm; omega)).trans (h.same i hi hi2)⟩
theorem fin_ {w0 wr w5 wc : World} {g : Nat} {L : List Int} (hgl : g < wr.heap.size) (h : St w0 w5 g L ∧ Fz wr w5 g ∧ Below w0.heap.size w0 w5) (hb : Below wr.heap.size w5 wc) (hw : w0.heap.size ≤ wr.heap.size) : St w0 wc g L ∧ Fz wr wc g ∧ Below w0.heap.size w0 wc := by
  obtain ⟨⟨A, c, h1, h2⟩, hF, hB⟩ := h
  exact ⟨⟨A, c, (hb.block g hgl).trans h1, h2⟩, ⟨Nat.le_trans hF.size hb.size, fun b hlt hne => (hb.block b hlt).trans (hF.same b hlt hne)⟩, hB.trans (hb.mono hw)⟩
def NextP (w0 w : World) (g : Nat) (n : Int) (e : Ending) (w' : World) : Prop :=
  ∃ (x : Int) (L' : List Int), e = .returned (.int .i64 x) ∧ Aside0 (0 ≤ x ∧ x < n) ∧ Aside0 (St w0 w' g L' ∧ Fz w w' g ∧ Below w0.heap.size w0 w')
set_option maxHeartbeats 4000000 in
set_option maxRecDepth 100000 in
theorem T_next (w w0 : World) (g : Nat) (L : List Int) (n : Int) (hn : 1 ≤ n ∧ n ≤ 4611686018427387904) (h : St w0 w g L) (hB : Below w0.heap.size w0 w) :
    Calls Try.prog 19 #[.pointer (some ⟨g, 0, none⟩), .int .i64 n] w (NextP w0 w g n) := by
  obtain ⟨A, c, hb, hg, hc, hC, hx⟩ := h
  have n0 : (1 : Int) ≤ n := hn.1
  have n1 : ¬ (n < 1) := by omega
  have HN := Aside0.mk hn
  have c0 := cell1 hb
  have z0 := blk_frozen hb 0
  have HG := Aside0.mk (And.intro hb (And.intro hg (And.intro hc (And.intro hC hx))))
  have HB := Aside0.mk hB
  have HX := Aside0.mk hx
  cases L with
  | nil =>
    have d0 : (decide ((([] : List Int).length : Int) = 0)) = true := rfl
    clear hb hg hc hC hx hB hn
    go_enter Try.func19, Try.ntmps19
    go_wp2_with (fail)
    go_ret
    exact ⟨0, [], rfl, ⟨Int.le_refl _, by omega⟩, ⟨⟨A, c, HG.out⟩, Fz.refl _ _, HB.out⟩⟩
  | cons y L =>
    obtain ⟨ad, e, hy⟩ := Kd.at_int hC 0 (by omega) (by simp)
    subst e
    have hy3 : w.cell? ad = some (.int .i64 y) := (hB.cell (World.block_lt_of_cell? w0 _ hy)).trans hy
    have hcap : L.length + 1 ≤ c := hc
    have hm := Kd.C_max hC
    have hm1 : L.length + 1 ≤ 9223372036854775807 := hm
    have hyr := hx y List.mem_cons_self
    obtain ⟨r, hr, hr0, hr1⟩ := below_some y n hyr hn.1 hn.2
    have HR := Aside0.mk (And.intro hr (And.intro hr0 hr1))
    have hd := Kd.C_drop (m := 1) (c := c) hC (by simp) hc
    have hd : Kd.C (Kd.int .i64) w0 (if c = 1 then some ad else some (ad.add 1)) L.length L := hd
    have HD := Aside0.mk hd
    have HX2 := Aside0.mk (show ∀ x ∈ L, -9223372036854775808 ≤ x ∧ x < 9223372036854775808 from fun x h => hx x (List.mem_cons_of_mem _ h))
    have l1 : ¬ ((L.length : Int) + 1 = 0) := by omega
    have l2 : (1 : Int) ≤ (L.length : Int) + 1 := by omega
    have l3 : (0 : Int) < (L.length : Int) + 1 := by omega
    obtain ⟨m, hm2⟩ : ∃ m, L.length = m := ⟨_, rfl⟩
    rw [List.length_cons] at c0 HG hb
    rw [hm2] at c0 HG HD hcap hm1 l1 l2 l3 hb
    clear hd hC hx hyr hr hr0 hr1 hn hm hc HX hy
    by_cases h1 : c = 1
    · subst h1
      obtain rfl : m = 0 := by omega
      clear hb hB hg hcap hm1 l1 l2 l3
      go_enter Try.func19, Try.ntmps19
      go_wp2_with (fail)
      refine (tourmake_Below.calls _ _ _ _ HR.out.1).mono ?_
      rintro e w4 ⟨rfl, ⟨nd, rfl⟩⟩
      go_wp2_with (fail)
      go_ret
      refine ⟨r, L, rfl, ⟨HR.out.2⟩, ⟨⟨some ad, 0, ?_, HG.out.2.1, by omega, by rw [hm2]; simpa using HD.out, HX2.out⟩, ?_, ?_⟩⟩
      · rw [hm2]; exact blk_drewN (by simpa using blk_set HG.out.1 0 (.slice (some ad) 0 0)) _
      · exact Fz.drewN ((Fz.refl w g).set 0 _) _
      · exact pw_below_drewN (below_set HB.out HG.out.2.1) _
    · have h2 : 1 < c := by omega
      have h3 : ¬ (c = 1) := h1
      have h4 : (1 : Int) < (c : Int) := by omega
      have h5 : (1 : Int) ≤ (c : Int) := by omega
      have h6 : (m : Int) + 1 ≤ (c : Int) := by omega
      clear hb hB hg
      go_enter Try.func19, Try.ntmps19
      go_wp2_with (fail)
      refine (tourmake_Below.calls _ _ _ _ HR.out.1).mono ?_
      rintro e w4 ⟨rfl, ⟨nd, rfl⟩⟩
      go_wp2_with (fail)
      go_ret
      refine ⟨r, L, rfl, ⟨HR.out.2⟩, ⟨⟨some (ad.add 1), c - 1, ?_, HG.out.2.1, by omega, by rw [hm2]; simpa [h3] using HD.out, HX2.out⟩, ?_, ?_⟩⟩
      · rw [hm2]; exact blk_drewN (show (w.setCell ⟨g, 0, none⟩ (.slice (some (ad.add 1)) m (c - 1))).heap[g]? = _ by simpa using blk_set HG.out.1 0 (.slice (some (ad.add 1)) m (c - 1))) _
      · exact Fz.drewN ((Fz.refl w g).set 0 _) _
      · exact pw_below_drewN (below_set HB.out HG.out.2.1) _

end Go.Proofs.Ytlbicibihdkpnaa.P
namespace Go.Proofs.Ytlbicibihdkpnaa.P
open Go.RowKit Go.Proofs.YtlbicibihdkpnaaW.PrintWords Go.Proofs.YtlbicibihdkpnaaW.PrintLast Go.Proofs.YtlbicibihdkpnaaW.PrintMore
attribute [local go_sem ↓] Go.wp_at_zero Go.wp_at_succ
set_option linter.unusedVariables false
set_option linter.unusedSimpArgs false

def FOK (f : S52) : Prop := f.f0.size ≤ 1 ∧ 1 ≤ f.f1 ∧ f.f1 ≤ 32 ∧ -2147483648 ≤ f.f2 ∧ f.f2 ≤ 100
def KOK1 (x : S55) : Prop := x.f0.size ≤ 4 ∧ x.f1.length ≤ 3 ∧ ∀ f ∈ x.f1, FOK f
def KOK (K : List S55) : Prop := ∀ x ∈ K, KOK1 x
theorem info52' : (Try.prog.info? 52).map (fun i => (i.zero, i.size, i.bytes)) = some (some (.agg #[.string ByteArray.empty, .int .i64 0, .int .i64 0]), 3, 32) := by kernel_rfl
theorem info55' : (Try.prog.info? 55).map (fun i => (i.zero, i.size, i.bytes)) = some (some (.agg #[.string ByteArray.empty, .slice none 0 0]), 2, 40) := by kernel_rfl
def KindsP (w0 w : World) (g : Nat) (e : Ending) (w' : World) : Prop :=
  ∃ (v : Value) (K : List S55), e = .returned v ∧ Aside0 (1 ≤ K.length ∧ K.length ≤ 4 ∧ KOK K) ∧ Aside0 (Kd.R k55 55 w' w0.heap.size (fun k => w.heap.size ≤ k) v K ∧ (∃ L', St w0 w' g L') ∧ Fz w w' g ∧ Below w0.heap.size w0 w')
/-- a new field's variable: behind region 9 of kinds -/
def NewF (w0 wr : World) (g : Nat) (v : Value) (wc : World) : Prop :=
  ∃ (gf : Nat) (fm : ByteArray) (b : Int) (L : List Int), v = .pointer (some ⟨gf, 0, none⟩) ∧ (fm.size ≤ 1 ∧ 1 ≤ b ∧ b ≤ 9) ∧ wc.heap[gf]? = some (.cells #[.string fm, .int .i64 b, .int .i64 0] 52 (0, 0)) ∧ wr.heap.size ≤ gf ∧ St w0 wc g L ∧ Fz wr wc g ∧ Below w0.heap.size w0 wc
theorem NewF.mk {w0 wr w5 wc : World} {g gf : Nat} {fm : ByteArray} {b : Int} {L : List Int} (h : wc.heap[gf]? = some (.cells #[.string fm, .int .i64 b, .int .i64 0] 52 (0, 0))) (hfm : fm.size ≤ 1) (b2 : 1 ≤ b) (b3 : b ≤ 9) (hge : wr.heap.size ≤ gf)
    (hgl : g < wr.heap.size) (h5 : St w0 w5 g L ∧ Fz wr w5 g ∧ Below w0.heap.size w0 w5) (hb : Below wr.heap.size w5 wc) (hw : w0.heap.size ≤ wr.heap.size) : NewF w0 wr g (.pointer (some ⟨gf, 0, none⟩)) wc :=
  ⟨gf, fm, b, L, rfl, ⟨hfm, b2, b3⟩, h, hge, fin_ hgl h5 hb hw⟩
theorem types55 : ∀ q, q ∈ 55 :: k55.E → q ≠ 66 := by
  intro q hq
  have : q = 55 ∨ q = 52 := by simpa [k55, k52, Kd.iso, Kd.pair, Kd.slice, Kd.string, Kd.int, Kd.scalar] using hq
  rcases this with rfl | rfl <;> decide
theorem types52 : ∀ q, q ∈ 52 :: k52.E → q ≠ 66 := by
  intro q hq
  have : q = 52 := by simpa [k52, Kd.iso, Kd.pair, Kd.string, Kd.int, Kd.scalar] using hq
  subst this; decide
/-- kinds, in a round of its outer loop: x lies at gx, its fields are F; the kinds so far are K -/
structure KS (w0 w W : World) (g gx : Nat) (no : Nat → Prop) (nm : ByteArray) (vf : Value) (F : List S52) (vK : Value) (K : List S55) (L : List Int) : Prop where
  x : W.heap[gx]? = some (.cells #[.string nm, vf] 55 (0, 0))
  f : Kd.R k52 52 W w0.heap.size (fun k => gx < k ∧ no k) vf F
  k : Kd.R k55 55 W w0.heap.size (fun k => w.heap.size ≤ k ∧ k < gx) vK K
  s : St w0 W g L
  z : Fz w W g
  b : Below w0.heap.size w0 W
  gw : g < w.heap.size
  wx : w.heap.size ≤ gx
section
variable {w0 w W W1 : World} {g gx : Nat} {no : Nat → Prop} {nm : ByteArray} {vf vK : Value} {F : List S52} {K : List S55} {L L' : List Int}
theorem KS.w0x (h : KS w0 w W g gx no nm vf F vK K L) : w0.heap.size ≤ gx := Nat.le_trans (Nat.le_trans h.s.ge (Nat.le_of_lt h.gw)) h.wx
theorem KS.next (h : KS w0 w W g gx no nm vf F vK K L) (n : St w0 W1 g L' ∧ Fz W W1 g ∧ Below w0.heap.size w0 W1) : KS w0 w W1 g gx no nm vf F vK K L' := by
  obtain ⟨cs, hcs⟩ := h.s.blk
  exact ⟨n.2.1.at_ h.x (by have := h.gw; have := h.wx; omega), Kd.R_fz h.f n.2.1 hcs types52, Kd.R_fz h.k n.2.1 hcs types55, n.1, h.z.trans n.2.1, n.2.2, h.gw, h.wx⟩
theorem KS.below (h : KS w0 w W g gx no nm vf F vK K L) (hb : Below W.heap.size W W1) : KS w0 w W1 g gx no nm vf F vK K L :=
  ⟨(hb.block gx (blk_lt h.x)).trans h.x, Kd.R_below h.f hb, Kd.R_below h.k hb, h.s.below hb, h.z.trans (Fz.of_below hb), h.b.trans (hb.mono h.b.size), h.gw, h.wx⟩
theorem KS.set (h : KS w0 w W g gx no nm vf F vK K L) {k0 : Nat} (hk : gx < k0) (hno : ∀ k, no k → k ≠ k0) (j : Nat) (v : Value) : KS w0 w (W.setCell ⟨k0, j, none⟩ v) g gx no nm vf F vK K L := by
  have h1 := h.gw
  have h2 := h.wx
  exact ⟨blk_far h.x (Nat.ne_of_lt hk) v, Kd.R_far h.f (fun k hk => hno k hk.2) v, Kd.R_far h.k (fun k hk' => by have := hk'.2; show k ≠ k0; omega) v, h.s.set_other (by omega) j v, h.z.set_new (by omega) j v, h.b.setCell (p := ⟨k0, j, none⟩) (show w0.heap.size ≤ k0 from Nat.le_trans h.w0x (Nat.le_of_lt hk)) v, h.gw, h.wx⟩
theorem KS.avoid (h : KS w0 w W g gx (fun _ => True) nm vf F vK K L) {gf : Nat} (hk : W.heap.size ≤ gf) : KS w0 w W g gx (· ≠ gf) nm vf F vK K L :=
  ⟨h.x, Kd.R_mono (Kd.R_bound h.f) (fun k hk' => ⟨hk'.1.1, by have := hk'.2.2.1; omega⟩), h.k, h.s, h.z, h.b, h.gw, h.wx⟩
theorem KS.grow (h : KS w0 w W g gx no nm vf F vK K L) {v1 : Value} {F1 : List S52} (ho : Kd.R k52 52 W1 w0.heap.size (fun k => gx < k ∧ no k) v1 F1) (hb : Below w0.heap.size w0 W1) (hg : W.grownBy W1 vf.ownBlock) : KS w0 w (W1.setCell ⟨gx, 1, none⟩ v1) g gx (fun _ => True) nm v1 F1 vK K L := by
  have h1 := h.gw
  have h2 := h.wx
  have hrow : ∀ k, vf.ownBlock = some k → gx < k := fun k hk => (h.f.1 k hk).1
  have hne : ∀ k, k ≤ gx → some k ≠ vf.ownBlock := fun k hk e => by have := hrow k e.symm; omega
  have hx1 := blk_grown h.x hg (hne gx (Nat.le_refl _))
  exact ⟨by simpa using blk_set hx1 1 v1, Kd.R_mono (Kd.R_far ho (fun k hk => Nat.ne_of_gt hk.1) v1) (fun k hk => ⟨hk.1, trivial⟩), Kd.R_far (Kd.R_grown h.k hg (fun k hk => hne k (Nat.le_of_lt hk.2))) (fun k hk => Nat.ne_of_lt hk.2) v1,
    (h.s.grown hg (hne g (by omega))).set_other (by omega) 1 v1, (h.z.grown hg (fun k hk => by have := hrow k hk; omega)).set_new h2 1 v1, hb.setCell (p := ⟨gx, 1, none⟩) h.w0x v1, h1, h2⟩
end

end Go.Proofs.Ytlbicibihdkpnaa.P
namespace Go.Proofs.Ytlbicibihdkpnaa.P
open Go.RowKit Go.Proofs.YtlbicibihdkpnaaW.PrintWords Go.Proofs.YtlbicibihdkpnaaW.PrintLast Go.Proofs.YtlbicibihdkpnaaW.PrintMore
attribute [local go_sem ↓] Go.wp_at_zero Go.wp_at_succ
set_option linter.unusedVariables false
set_option linter.unusedSimpArgs false

set_option maxHeartbeats 4000000 in
set_option maxRecDepth 100000 in
theorem T_kinds (w w0 : World) (g : Nat) (L : List Int) (h : St w0 w g L) (hB : Below w0.heap.size w0 w) :
    Calls Try.prog 18 #[.pointer (some ⟨g, 0, none⟩)] w (KindsP w0 w g) := by
  have HS := Aside0.mk h
  have HB := Aside0.mk hB
  have HG := Aside0.mk (show g < w.heap.size by
    obtain ⟨cs, hcs⟩ := h.blk
    exact blk_lt hcs)
  clear h hB
  go_enter Try.func18, Try.ntmps18
  go_wp2_with (fail)
  refine (T_next w w0 g L 4 (by omega) HS.out HB.out).mono ?_
  rintro e w1 ⟨x, L1, rfl, hx, HS1⟩
  have x0 : 0 ≤ x := hx.out.1
  have x1 : x < 4 := hx.out.2
  clear HS HB hx
  go_wp2_with (fail)
  go_loopg [3, 11] (1 + x).toNat (fun kq v3 v11 w' => ∃ (vo : Value) (K : List S55) (i : Nat) (L : List Int), v3 = vo ∧ v11 = .int .i64 (i : Int) ∧ Aside0 (kq = (1 + x).toNat - i ∧ (i : Int) ≤ 1 + x ∧ K.length = i ∧ KOK K) ∧ Aside0 (Kd.R k55 55 w' w0.heap.size (fun k => w.heap.size ≤ k) vo K ∧ St w0 w' g L ∧ Fz w w' g ∧ Below w0.heap.size w0 w'))
  case atStart => exact ⟨_, [], 0, L1, rfl, rfl, ⟨by omega, by omega, rfl, fun _ h => by cases h⟩, ⟨Kd.R_nil _ _ _ _ _, HS1.out⟩⟩
  case round =>
    obtain ⟨vo, K, i, L2, rfl, rfl, HI, HW⟩ := hrel
    by_cases hi : (i : Int) < 1 + x
    · have i0 : (0 : Int) ≤ (i : Int) := by omega
      have i4 : i < 4 := by omega
      go_upto_region 5 with (fail)
      go_cut [5] (fun v5 wc => ∃ (gx : Nat) (nm : ByteArray), v5 = .pointer (some ⟨gx, 0, none⟩) ∧ Aside0 (wc.heap[gx]? = some (.cells #[.string nm, .slice none 0 0] 55 (0, 0)) ∧ nm.size ≤ 4 ∧ wr.heap.size ≤ gx ∧ Below wr.heap.size wr wc))
      case first =>
        have hi4 : i = 0 ∨ i = 1 ∨ i = 2 ∨ i = 3 := by omega
        rcases hi4 with rfl | rfl | rfl | rfl
        all_goals go_wp2
        all_goals go_meet
        all_goals exact ⟨_, _, rfl, ⟨new2, by decide, Nat.le_succ _, below_alloc (below_alloc (Below.refl _ _) _) _⟩⟩
      case rest =>
        obtain ⟨gx, nm, rfl, HC⟩ := hcut
        have HK := Aside0.mk (show KS w0 w wc g gx (fun _ => True) nm (.slice none 0 0) [] u3 K L2 from
          ⟨HC.out.1, Kd.R_nil _ _ _ _ _, Kd.R_mono (Kd.R_below (Kd.R_bound HW.out.1) HC.out.2.2.2) (fun k hk => ⟨hk.1, by have := HC.out.2.2.1; have := hk.2.2.1; omega⟩), HW.out.2.1.below HC.out.2.2.2, HW.out.2.2.1.trans (Fz.of_below HC.out.2.2.2), HW.out.2.2.2.trans (HC.out.2.2.2.mono HW.out.2.2.2.size), HG.out, Nat.le_trans HW.out.2.2.1.size HC.out.2.2.1⟩)
        have HNM := Aside0.mk HC.out.2.1
        clear HC HW
        go_wp2_with (fail)
        refine (T_next wc w0 g L2 3 (by omega) HK.out.s HK.out.b).mono ?_
        rintro e w3 ⟨y, L3, rfl, hy, HS3⟩
        have y0 : 0 ≤ y := hy.out.1
        have y1 : y < 3 := hy.out.2
        have HK := Aside0.mk (HK.out.next HS3.out)
        clear HS3 hy
        go_wp2_with (fail)
        go_loopg [22] (1 + y).toNat (fun kq v22 w' => ∃ (vf : Value) (F : List S52) (j : Nat) (L : List Int), v22 = .int .i64 (j : Int) ∧ Aside0 (kq = (1 + y).toNat - j ∧ (j : Int) ≤ 1 + y ∧ F.length = j ∧ ∀ f ∈ F, FOK f) ∧ Aside0 (KS w0 w w' g gx (fun _ => True) nm vf F u3 K L))
        case atStart => exact ⟨_, [], 0, L3, rfl, ⟨by omega, by omega, rfl, fun _ h => by cases h⟩, HK⟩
        case round =>
          obtain ⟨vf, F, j, L4, rfl, HJ, HW⟩ := hrel
          clear HK
          by_cases hj : (j : Int) < 1 + y
          · have j0 : (0 : Int) ≤ (j : Int) := by omega
            have j3 : j < 3 := by omega
            go_upto_region 9 with (fail)
            go_cut [7] (fun v7 wc => NewF w0 wr g v7 wc)
            case first =>
              have hgl : g < wr.heap.size := by
                obtain ⟨cs, hcs⟩ := HW.out.s.blk
                exact blk_lt hcs
              have hn0 : wr.heap.size ≠ g := Nat.ne_of_gt hgl
              have hn1 : wr.heap.size + 1 ≠ g := by omega
              have HP := Aside0.mk (show ∀ X, Below wr.heap.size wr X → St w0 X g L4 ∧ Below w0.heap.size w0 X from fun X hX => ⟨HW.out.s.below hX, HW.out.b.trans (hX.mono HW.out.b.size)⟩)
              have HK1 : Aside0 (∃ k1, wr.heap.size + 1 = k1) := ⟨_, rfl⟩
              have hj3 : j = 0 ∨ j = 1 ∨ j = 2 := by omega
              rcases hj3 with rfl | rfl | rfl
              all_goals go_region_with ((go_at_call 19; (with_reducible refine (T_next _ w0 g L4 9 (by omega) (HP.out _ (by with_reducible repeat (first | exact Below.refl _ _ | apply below_drew1 | apply pw_below_drewN | apply below_alloc))).1 (HP.out _ (by with_reducible repeat (first | exact Below.refl _ _ | apply below_drew1 | apply pw_below_drewN | apply below_alloc))).2).mono ?_); rintro e w5 ⟨b, L5, rfl, hb, HS5⟩; have b0 : 0 ≤ b := hb.out.1; have b1 : b < 9 := hb.out.2; have b2 : 1 ≤ 1 + b := (by omega); have b3 : 1 + b ≤ 9 := (by omega); have hwb : IntKind.i64.wrap (1 + b) = 1 + b := (by rw [IntKind.wrap_i64]; omega); have HF5 := Aside0.mk (show St w0 w5 g L5 ∧ Fz wr w5 g ∧ Below w0.heap.size w0 w5 from ⟨HS5.out.1, Fz.trans (Fz.of_below (by with_reducible repeat (first | exact Below.refl _ _ | apply below_drew1 | apply pw_below_drewN | apply below_alloc))) HS5.out.2.1, HS5.out.2.2⟩); (first | (have p := HS5.out.2.1.at_ (blk_alloc (blk_new wr _) _) hn0; have q := HS5.out.2.1.at_ new2 hn1; obtain ⟨p0, p1, p2, p3, p4, p5⟩ := cells3 p; have pl := blk_lt p; have pn := Nat.ne_of_lt (blk_lt p); have pm := Nat.ne_of_gt (blk_lt p); obtain ⟨q0, q1, q2, q3, q4, q5⟩ := cells3 q; have ql := blk_lt q; have qn := Nat.ne_of_lt (blk_lt q); have qm := Nat.ne_of_gt (blk_lt q)) | (have p := HS5.out.2.1.at_ (blk_new wr _) hn0; obtain ⟨p0, p1, p2, p3, p4, p5⟩ := cells3 p; have pl := blk_lt p; have pn := Nat.ne_of_lt (blk_lt p); have pm := Nat.ne_of_gt (blk_lt p)) | skip); clear hb))
              all_goals (go_wp2; go_meet)
              all_goals (obtain ⟨k1, hk1⟩ := HK1.out)
              all_goals (obtain ⟨k5, hk5⟩ : ∃ k5, w5.heap.size + 1 = k5 := ⟨_, rfl⟩)
              all_goals (have g0 := Nat.le_refl wr.heap.size)
              all_goals (have g1 : wr.heap.size ≤ k1 := Nat.le_of_lt (Nat.lt_of_lt_of_eq (Nat.lt_succ_self _) hk1))
              all_goals (have g5 := HF5.out.2.1.size)
              all_goals (have g6 : wr.heap.size ≤ k5 := Nat.le_trans g5 (Nat.le_of_lt (Nat.lt_of_lt_of_eq (Nat.lt_succ_self _) hk5)))
              all_goals (try rw [hk1])
              all_goals (try rw [hk1] at q)
              all_goals (try rw [hk5])
              all_goals (with_reducible first | refine NewF.mk (b := 1 + b) (L := L5) (w5 := w5) (blk_new _ _) (by decide) b2 b3 g5 hgl HF5.out ?_ HW.out.b.size | refine NewF.mk (b := 1 + b) (L := L5) (w5 := w5) (new2' hk5) (by decide) b2 b3 g6 hgl HF5.out ?_ HW.out.b.size | refine NewF.mk (b := 1 + b) (L := L5) (w5 := w5) (blk_alloc (blk_new _ _) _) (by decide) b2 b3 g5 hgl HF5.out ?_ HW.out.b.size | refine NewF.mk (b := 1 + b) (L := L5) (w5 := w5) (put3 p) (by decide) b2 b3 g0 hgl HF5.out ?_ HW.out.b.size | refine NewF.mk (b := 1 + b) (L := L5) (w5 := w5) (put3 q) (by decide) b2 b3 g1 hgl HF5.out ?_ HW.out.b.size | refine NewF.mk (b := 1 + b) (L := L5) (w5 := w5) (blk_alloc (put3 p) _) (by decide) b2 b3 g0 hgl HF5.out ?_ HW.out.b.size)
              all_goals (with_reducible repeat (first | exact Below.refl _ _ | refine below_alloc2 ?_ g5 _ | refine Below.setCell ?_ g0 _ | refine Below.setCell ?_ g1 _))
            case rest =>
              obtain ⟨gf, fm, b, L5, rfl, hfm, h1, hge, hn⟩ := hcut
              have HK := Aside0.mk ((HW.out.avoid hge).next hn)
              have HF := Aside0.mk h1
              have HX := Aside0.mk (Nat.lt_of_lt_of_le (blk_lt HW.out.x) hge)
              have HFM := Aside0.mk hfm
              have HNG := Aside0.mk (show gf ≠ g from by have := HX.out; have := HW.out.gw; have := HW.out.wx; omega)
              clear HW h1 hn hge hfm
              go_wp2_with (fail)
              refine (T_next wc w0 g L5 40 (by omega) HK.out.s HK.out.b).mono ?_
              rintro e w6 ⟨z, L6, rfl, hz, HN⟩
              have z0 : 0 ≤ z := hz.out.1
              have z1 : z < 40 := hz.out.2
              have HF := Aside0.mk (HN.out.2.1.at_ HF.out HNG.out)
              have HK := Aside0.mk (HK.out.next HN.out)
              obtain ⟨c0, c1, c2, c3, c4, c5⟩ := cells3 HF.out
              clear hz HN
              go_wp2_with (fail)
              have HK := Aside0.mk (HK.out.set HX.out (fun k hk => hk) 2 (.int .i64 (z - 30)))
              have HF := Aside0.mk (show (w6.setCell ⟨gf, 2, none⟩ (.int .i64 (z - 30))).heap[gf]? = some (.cells #[.string fm, .int .i64 b, .int .i64 (z - 30)] 52 (0, 0)) by simpa using blk_set HF.out 2 (.int .i64 (z - 30)))
              clear c0 c1 c2 c3 c4 c5
              refine (T_next _ w0 g L6 8 (by omega) HK.out.s HK.out.b).mono ?_
              rintro e w8 ⟨u, L8, rfl, hu, HN⟩
              have HF := Aside0.mk (HN.out.2.1.at_ HF.out HNG.out)
              have HK := Aside0.mk (HK.out.next HN.out)
              obtain ⟨c0, c1, c2, c3, c4, c5⟩ := cells3 HF.out
              obtain ⟨x20, x21, x22, x23⟩ := cells2 HK.out.x
              have hne : gx ≠ gf := Nat.ne_of_lt HX.out
              have hne' : gf ≠ gx := Nat.ne_of_gt HX.out
              clear hu HN
              by_cases h7 : u = 7
              · have d1 : (u == 7) = true := by simp [h7]
                have HK := Aside0.mk ((HK.out.set HX.out (fun k hk => hk) 1 (.int .i64 32)).set HX.out (fun k hk => hk) 2 (.int .i64 (-2147483648)))
                have HF := Aside0.mk (show ((w8.setCell ⟨gf, 1, none⟩ (.int .i64 32)).setCell ⟨gf, 2, none⟩ (.int .i64 (-2147483648))).heap[gf]? = some (.cells #[.string fm, .int .i64 32, .int .i64 (-2147483648)] 52 (0, 0)) from blk_put (cs := #[.string fm, .int .i64 32, .int .i64 (z - 30)]) (blk_put (cs := #[.string fm, .int .i64 b, .int .i64 (z - 30)]) HF.out 1 (.int .i64 32) rfl) 2 (.int .i64 (-2147483648)) rfl)
                have FB : FOK ⟨fm, 32, -2147483648⟩ := ⟨HFM.out.1, by show (1 : Int) ≤ 32; omega, by show (32 : Int) ≤ 32; omega, by show (-2147483648 : Int) ≤ -2147483648; omega, by show (-2147483648 : Int) ≤ 100; omega⟩
                have FB := Aside0.mk FB
                subst h7
                go_upto_region 13 with (fail)
                obtain ⟨w10, hw⟩ : ∃ W, (w8.setCell ⟨gf, 1, none⟩ (.int .i64 32)).setCell ⟨gf, 2, none⟩ (.int .i64 (-2147483648)) = W := ⟨_, rfl⟩
                rw [hw] at HK HF ⊢
                clear hw c0 c1 c2 c3 c4 c5 x20 x21 x22 x23
                obtain ⟨c0, c1, c2, c3, c4, c5⟩ := cells3 HF.out
                obtain ⟨x20, x21, x22, x23⟩ := cells2 HK.out.x
                go_wp2_with (((with_reducible refine gate_builtin (b := .append) (xs := #[.tmp 43, .tmp 45]) rfl ?_); at_builtin; refine Kd.R_append k52 (w0 := w0) w0.heap.size rfl (.tmp 43) (.tmp 45) 53 52 (.agg #[.string ByteArray.empty, .int .i64 0, .int .i64 0]) 32 rfl Try.underlying53 info52' rfl (by decide) (by decide) vf F (⟨fm, 32, -2147483648⟩ : S52) [.string fm, .int .i64 (32), .int .i64 (-2147483648)] (fun k => gx < k ∧ k ≠ gf) (fun _ => False) rfl rfl ?aP (fun _ hk => hk.elim) ?aF ?aO ?aB ?aS ?aL ?_; (case aP => exact k52_mkM _ _ _ _); (case aF => exact (fun k hk => ⟨Nat.lt_of_lt_of_le (blk_lt HK.out.x) hk, Nat.ne_of_gt (Nat.lt_of_lt_of_le (blk_lt HF.out) hk)⟩)); (case aO => exact HK.out.f); (case aB => exact HK.out.b); (case aS => exact below_size HK.out.b); (case aL => have := HJ.out.2.2.1; omega); intro v9 w9 ho hb hg hat; obtain ⟨A9, c9, hv9⟩ := Kd.R_slice ho; rw [List.length_append, List.length_singleton] at hv9; subst hv9; have HG9 := Aside0.mk (HK.out.grow ho hb hg); have hx9 := blk_grown HK.out.x hg (Kd.R_ne HK.out.f HK.out.x (by decide)); obtain ⟨x90, x91, x92, x93⟩ := cells2 hx9; clear ho hb hg hat hx9))
                have FB := FB.out
                go_roundg ((1 + y).toNat - (j + 1))
                case measure => have := HJ.out.1; omega
                case rel => exact ⟨_, F ++ [⟨fm, 32, -2147483648⟩], j + 1, L8, congrArg (Value.int .i64) (by omega), ⟨by omega, by omega, by rw [List.length_append, HJ.out.2.2.1]; rfl, fun f hf => (List.mem_append.1 hf).elim (HJ.out.2.2.2 f) (fun hf => by rw [List.mem_singleton.1 hf]; exact FB)⟩, HG9⟩
              · have d1 : (u == 7) = false := by simp [h7]
                have FB : FOK ⟨fm, b, z - 30⟩ := ⟨HFM.out.1, HFM.out.2.1, by have := HFM.out.2.2; show b ≤ 32; omega, by show (-2147483648 : Int) ≤ z - 30; omega, by show z - 30 ≤ 100; omega⟩
                have FB := Aside0.mk FB
                go_wp2_with (((with_reducible refine gate_builtin (b := .append) (xs := #[.tmp 43, .tmp 45]) rfl ?_); at_builtin; refine Kd.R_append k52 (w0 := w0) w0.heap.size rfl (.tmp 43) (.tmp 45) 53 52 (.agg #[.string ByteArray.empty, .int .i64 0, .int .i64 0]) 32 rfl Try.underlying53 info52' rfl (by decide) (by decide) vf F (⟨fm, b, z - 30⟩ : S52) [.string fm, .int .i64 (b), .int .i64 (z - 30)] (fun k => gx < k ∧ k ≠ gf) (fun _ => False) rfl rfl ?aP (fun _ hk => hk.elim) ?aF ?aO ?aB ?aS ?aL ?_; (case aP => exact k52_mkM _ _ _ _); (case aF => exact (fun k hk => ⟨Nat.lt_of_lt_of_le (blk_lt HK.out.x) hk, Nat.ne_of_gt (Nat.lt_of_lt_of_le (blk_lt HF.out) hk)⟩)); (case aO => exact HK.out.f); (case aB => exact HK.out.b); (case aS => exact below_size HK.out.b); (case aL => have := HJ.out.2.2.1; omega); intro v9 w9 ho hb hg hat; obtain ⟨A9, c9, hv9⟩ := Kd.R_slice ho; rw [List.length_append, List.length_singleton] at hv9; subst hv9; have HG9 := Aside0.mk (HK.out.grow ho hb hg); have hx9 := blk_grown HK.out.x hg (Kd.R_ne HK.out.f HK.out.x (by decide)); obtain ⟨x90, x91, x92, x93⟩ := cells2 hx9; clear ho hb hg hat hx9))
                have FB := FB.out
                go_roundg ((1 + y).toNat - (j + 1))
                case measure => have := HJ.out.1; omega
                case rel => exact ⟨_, F ++ [⟨fm, b, z - 30⟩], j + 1, L8, congrArg (Value.int .i64) (by omega), ⟨by omega, by omega, by rw [List.length_append, HJ.out.2.2.1]; rfl, fun f hf => (List.mem_append.1 hf).elim (HJ.out.2.2.2 f) (fun hf => by rw [List.mem_singleton.1 hf]; exact FB)⟩, HG9⟩
          · have hjy : ¬ ((j : Int) < 1 + y) := hj
            obtain ⟨x20, x21, x22, x23⟩ := cells2 HW.out.x
            obtain ⟨csg, hcsg⟩ := HW.out.s.blk
            have HCS := Aside0.mk hcsg
            clear hcsg
            have FB := Aside0.mk (show KOK1 ⟨nm, F⟩ from ⟨HNM.out, by have := HJ.out.2.2.1; have := HJ.out.2.1; show F.length ≤ 3; omega, HJ.out.2.2.2⟩)
            go_wp2_with (((with_reducible refine gate_builtin (b := .append) (xs := #[.tmp 49, .tmp 51]) rfl ?_); at_builtin; refine Kd.R_append k55 (w0 := w0) w0.heap.size rfl (.tmp 49) (.tmp 51) 24 55 (.agg #[.string ByteArray.empty, .slice none 0 0]) 40 rfl Try.underlying24 info55' rfl (by decide) (by decide) u3 K (⟨nm, F⟩ : S55) [.string nm, vf] (fun k => w.heap.size ≤ k) (fun k => gx < k) rfl rfl ?aP ?aK ?aF ?aO ?aB ?aS ?aL ?_; (case aP => exact k55_mkM _ _ _ _ (Kd.R_mono HW.out.f (fun k hk => hk.1))); (case aK => exact (fun k hk => ⟨Nat.le_trans HW.out.wx (Nat.le_of_lt hk), fun e => by have := (HW.out.k.1 k e.symm).2; omega⟩)); (case aF => exact (fun k hk => Nat.le_trans (Nat.le_trans HW.out.wx (Nat.le_of_lt (blk_lt HW.out.x))) hk)); (case aO => exact Kd.R_mono HW.out.k (fun k hk => hk.1)); (case aB => exact HW.out.b); (case aS => exact below_size HW.out.b); (case aL => have := HI.out.2.2.1; omega); intro v9 w9 ho hb hg hat; have HR9 := Aside0.mk ho; have HS9 := Aside0.mk (And.intro (HW.out.s.grown hg (Kd.R_ne HW.out.k HCS.out (by decide))) (And.intro (HW.out.z.grown hg (fun k hk => (HW.out.k.1 k hk).1)) hb)); clear ho hb hg hat))
            go_roundg ((1 + x).toNat - (i + 1))
            case measure => have := HI.out.1; omega
            case rel => exact ⟨v9, K ++ [⟨nm, F⟩], i + 1, L4, rfl, congrArg (Value.int .i64) (by omega), ⟨by omega, by omega, by rw [List.length_append, HI.out.2.2.1]; rfl, fun f hf => (List.mem_append.1 hf).elim (HI.out.2.2.2 f) (fun hf => by rw [List.mem_singleton.1 hf]; exact FB.out)⟩, ⟨HR9.out, HS9.out⟩⟩
    · have hix : ¬ ((i : Int) < 1 + x) := hi
      go_wp2_with (fail)
      go_ret
      exact ⟨u3, K, rfl, ⟨by have := HI.out.2.2.1; have := HI.out.2.1; omega, by have := HI.out.2.2.1; have := HI.out.2.1; omega, HI.out.2.2.2⟩, ⟨HW.out.1, ⟨L2, HW.out.2.1⟩, HW.out.2.2⟩⟩

end Go.Proofs.Ytlbicibihdkpnaa.P
namespace Go.Proofs.Ytlbicibihdkpnaa.P
open Go.RowKit Go.Proofs.YtlbicibihdkpnaaW.PrintWords Go.Proofs.YtlbicibihdkpnaaW.PrintLast Go.Proofs.YtlbicibihdkpnaaW.PrintMore
set_option linter.unusedVariables false
set_option linter.unusedSimpArgs false

def COK1 (x : S59) : Prop := 0 ≤ x.f0 ∧ x.f0 ≤ 3 ∧ x.f1.length ≤ 3 ∧ ∀ v ∈ x.f1, -9000000000 ≤ v ∧ v ≤ 9000000000
def COK (K : List S59) : Prop := ∀ x ∈ K, COK1 x
theorem info59' : (Try.prog.info? 59).map (fun i => (i.zero, i.size, i.bytes)) = some (some (.agg #[.int .i64 0, .slice none 0 0]), 2, 32) := by kernel_rfl
theorem info3' : (Try.prog.info? 3).map (fun i => (i.zero, i.size, i.bytes)) = some (some (.int .i64 0), 1, 8) := by kernel_rfl
def CompsP (w0 w : World) (g : Nat) (e : Ending) (w' : World) : Prop :=
  ∃ (v : Value) (C : List S59), e = .returned v ∧ Aside0 (C.length ≤ 4 ∧ COK C) ∧ Aside0 (Kd.R k59 59 w' w0.heap.size (fun k => w.heap.size ≤ k) v C ∧ (∃ L', St w0 w' g L') ∧ Fz w w' g ∧ Below w0.heap.size w0 w')
theorem types3 : ∀ q, q ∈ 3 :: (Kd.int .i64).E → q ≠ 66 := by
  intro q hq
  have : q = 3 := by simpa [Kd.int, Kd.scalar] using hq
  subst this; decide
theorem types59 : ∀ q, q ∈ 59 :: k59.E → q ≠ 66 := by
  intro q hq
  have : q = 59 ∨ q = 3 := by simpa [k59, Kd.iso, Kd.pair, Kd.slice, Kd.int, Kd.scalar] using hq
  rcases this with rfl | rfl <;> decide
/-- comps, in a round of its outer loop: c lies at gx, its values are F; the components so far are K -/
structure CS (w0 w W : World) (g gx : Nat) (num : Int) (vf : Value) (F : List Int) (vK : Value) (K : List S59) (L : List Int) : Prop where
  x : W.heap[gx]? = some (.cells #[.int .i64 num, vf] 59 (0, 0))
  f : Kd.R (Kd.int .i64) 3 W w0.heap.size (fun k => gx < k) vf F
  k : Kd.R k59 59 W w0.heap.size (fun k => w.heap.size ≤ k ∧ k < gx) vK K
  s : St w0 W g L
  z : Fz w W g
  b : Below w0.heap.size w0 W
  gw : g < w.heap.size
  wx : w.heap.size ≤ gx
section
variable {w0 w W W1 : World} {g gx : Nat} {num : Int} {vf vK : Value} {F : List Int} {K : List S59} {L L' : List Int}
theorem CS.w0x (h : CS w0 w W g gx num vf F vK K L) : w0.heap.size ≤ gx := Nat.le_trans (Nat.le_trans h.s.ge (Nat.le_of_lt h.gw)) h.wx
theorem CS.next (h : CS w0 w W g gx num vf F vK K L) (n : St w0 W1 g L' ∧ Fz W W1 g ∧ Below w0.heap.size w0 W1) : CS w0 w W1 g gx num vf F vK K L' := by
  obtain ⟨cs, hcs⟩ := h.s.blk
  exact ⟨n.2.1.at_ h.x (by have := h.gw; have := h.wx; omega), Kd.R_fz h.f n.2.1 hcs types3, Kd.R_fz h.k n.2.1 hcs types59, n.1, h.z.trans n.2.1, n.2.2, h.gw, h.wx⟩
theorem CS.below (h : CS w0 w W g gx num vf F vK K L) (hb : Below W.heap.size W W1) : CS w0 w W1 g gx num vf F vK K L :=
  ⟨(hb.block gx (blk_lt h.x)).trans h.x, Kd.R_below h.f hb, Kd.R_below h.k hb, h.s.below hb, h.z.trans (Fz.of_below hb), h.b.trans (hb.mono h.b.size), h.gw, h.wx⟩
theorem CS.grow (h : CS w0 w W g gx num vf F vK K L) {v1 : Value} {F1 : List Int} (ho : Kd.R (Kd.int .i64) 3 W1 w0.heap.size (fun k => gx < k) v1 F1) (hb : Below w0.heap.size w0 W1) (hg : W.grownBy W1 vf.ownBlock) : CS w0 w (W1.setCell ⟨gx, 1, none⟩ v1) g gx num v1 F1 vK K L := by
  have h1 := h.gw
  have h2 := h.wx
  have hrow : ∀ k, vf.ownBlock = some k → gx < k := fun k hk => h.f.1 k hk
  have hne : ∀ k, k ≤ gx → some k ≠ vf.ownBlock := fun k hk e => by have := hrow k e.symm; omega
  have hx1 := blk_grown h.x hg (hne gx (Nat.le_refl _))
  exact ⟨by simpa using blk_set hx1 1 v1, Kd.R_far ho (fun k hk => Nat.ne_of_gt hk) v1, Kd.R_far (Kd.R_grown h.k hg (fun k hk => hne k (Nat.le_of_lt hk.2))) (fun k hk => Nat.ne_of_lt hk.2) v1,
    (h.s.grown hg (hne g (by omega))).set_other (by omega) 1 v1, (h.z.grown hg (fun k hk => by have := hrow k hk; omega)).set_new h2 1 v1, hb.setCell (p := ⟨gx, 1, none⟩) h.w0x v1, h1, h2⟩
end

/-- a kind of a row of kinds: its cells, its fields' row -/
theorem elem55 {W : World} {base : Nat} {ok : Nat → Prop} {v : Value} {K : List S55} (h : Kd.R k55 55 W base ok v K) (i : Nat) (hi : i < K.length) :
    ∃ (gK cap : Nat) (vi : Value), v = .slice (some ⟨gK, 0, none⟩) K.length cap ∧ W.cell? ⟨gK, i * 2, none⟩ = some (.string (rd_T55 K i).f0) ∧ W.cell? ⟨gK, i * 2 + 1, none⟩ = some vi ∧ Kd.R k52 52 W base ok vi (rd_T55 K i).f1 := by
  obtain ⟨gK, cap, rfl, _, _, _⟩ := Kd.R_form h (by omega)
  obtain ⟨c, _, hM, hcc, _⟩ := Kd.R_elem h z55 (i : Int) (by omega) (by omega)
  have hM : k55.M W base (fun k => ok k ∧ k ≠ gK) (rd_T55 K i) c := hM
  obtain ⟨c0, c1, rfl, h0, h1⟩ := hM
  have h0 : c0 = [.string (rd_T55 K i).f0] := h0
  obtain ⟨vi, h2, hR⟩ := h1
  have h2 : c1 = [vi] := h2
  subst h0 h2
  exact ⟨gK, cap, vi, rfl, by simpa using (show W.cell? ⟨gK, (i : Int).toNat * 2 + 0, none⟩ = some (.string (rd_T55 K i).f0) from hcc 0 _ rfl), by simpa using (show W.cell? ⟨gK, (i : Int).toNat * 2 + 1, none⟩ = some vi from hcc 1 _ rfl), Kd.R_mono hR (fun k hk => hk.1)⟩
theorem rd55_mem {K : List S55} {i : Nat} (hi : i < K.length) : rd_T55 K i ∈ K := by
  unfold rd_T55
  rw [Int.toNat_natCast, List.getD_eq_getElem?_getD, List.getElem?_eq_getElem hi]
  exact List.getElem_mem hi
theorem rd52_mem {K : List S52} {i : Nat} (hi : i < K.length) : rd_T52 K i ∈ K := by
  unfold rd_T52
  rw [Int.toNat_natCast, List.getD_eq_getElem?_getD, List.getElem?_eq_getElem hi]
  exact List.getElem_mem hi
/-- the kinds of a call's argument, and the fields of one of them -/
def KK (w0 w W : World) (vK : Value) (K : List S55) : Prop := Kd.R k55 55 W w0.heap.size (fun k => k < w.heap.size) vK K
def KF (w0 w W : World) (vi : Value) (F : List S52) : Prop := Kd.R k52 52 W w0.heap.size (fun k => k < w.heap.size) vi F
section
variable {w0 w W W1 : World} {g : Nat} {vK vi : Value} {K : List S55} {F : List S52} {L L' : List Int}
theorem KK.next (h : KK w0 w W vK K) (hs : St w0 W g L) (n : Fz W W1 g) : KK w0 w W1 vK K := by
  obtain ⟨cs, hcs⟩ := hs.blk
  exact Kd.R_fz h n hcs types55
theorem KF.next (h : KF w0 w W vi F) (hs : St w0 W g L) (n : Fz W W1 g) : KF w0 w W1 vi F := by
  obtain ⟨cs, hcs⟩ := hs.blk
  exact Kd.R_fz h n hcs types52
theorem KK.below (h : KK w0 w W vK K) (hb : Below W.heap.size W W1) : KK w0 w W1 vK K := Kd.R_below h hb
theorem KF.below (h : KF w0 w W vi F) (hb : Below W.heap.size W W1) : KF w0 w W1 vi F := Kd.R_below h hb
theorem KK.grown (h : KK w0 w W vK K) {row : Option Nat} (hg : W.grownBy W1 row) (hr : ∀ k, row = some k → w.heap.size ≤ k) : KK w0 w W1 vK K := Kd.R_grown h hg (fun k hk e => by have := hr k e.symm; omega)
theorem KF.grown (h : KF w0 w W vi F) {row : Option Nat} (hg : W.grownBy W1 row) (hr : ∀ k, row = some k → w.heap.size ≤ k) : KF w0 w W1 vi F := Kd.R_grown h hg (fun k hk e => by have := hr k e.symm; omega)
theorem KK.set (h : KK w0 w W vK K) {k0 : Nat} (hk : w.heap.size ≤ k0) (j : Nat) (v : Value) : KK w0 w (W.setCell ⟨k0, j, none⟩ v) vK K := Kd.R_far h (fun k hk' => by show k ≠ k0; omega) v
theorem KF.set (h : KF w0 w W vi F) {k0 : Nat} (hk : w.heap.size ≤ k0) (j : Nat) (v : Value) : KF w0 w (W.setCell ⟨k0, j, none⟩ v) vi F := Kd.R_far h (fun k hk' => by show k ≠ k0; omega) v
end

end Go.Proofs.Ytlbicibihdkpnaa.P
namespace Go.Proofs.Ytlbicibihdkpnaa.P
open Go.RowKit Go.Proofs.YtlbicibihdkpnaaW.PrintWords Go.Proofs.YtlbicibihdkpnaaW.PrintLast Go.Proofs.YtlbicibihdkpnaaW.PrintMore
attribute [local go_sem ↓] Go.wp_at_zero Go.wp_at_succ
set_option linter.unusedVariables false
set_option linter.unusedSimpArgs false

theorem shl_bits (b : Int) (h1 : 1 ≤ b) (h2 : b ≤ 32) : 1 ≤ wrap64 (2 ^ b.toNat) ∧ wrap64 (2 ^ b.toNat) ≤ 4294967296 := by
  have h : ∀ n : Nat, n ≤ 32 → 1 ≤ wrap64 ((2 : Int) ^ n) ∧ wrap64 ((2 : Int) ^ n) ≤ 4294967296 := by decide +kernel
  exact h b.toNat (by omega)
set_option maxHeartbeats 4000000 in
set_option maxRecDepth 100000 in
theorem T_comps (w w0 : World) (g : Nat) (L : List Int) (vK : Value) (K : List S55) (ok : Nat → Prop) (hK : Kd.R k55 55 w w0.heap.size ok vK K) (hO : KOK K) (hl : K.length ≤ 4) (h : St w0 w g L) (hB : Below w0.heap.size w0 w) :
    Calls Try.prog 20 #[vK, .pointer (some ⟨g, 0, none⟩)] w (CompsP w0 w g) := by
  have HKK := Aside0.mk (show KK w0 w w vK K from Kd.R_mono (Kd.R_bound hK) (fun k hk => hk.2.2.1))
  have HO := Aside0.mk (And.intro hO hl)
  have HS := Aside0.mk (And.intro h (And.intro (Fz.refl w g) hB))
  have HG := Aside0.mk (show g < w.heap.size by
    obtain ⟨cs, hcs⟩ := h.blk
    exact blk_lt hcs)
  obtain ⟨A, c, rfl⟩ := Kd.R_slice hK
  obtain ⟨kn, hkn⟩ : ∃ kn, K.length = kn := ⟨_, rfl⟩
  have HL := Aside0.mk hkn
  rw [hkn] at HKK hl ⊢
  clear h hB hK hO hkn
  go_enter Try.func20, Try.ntmps20
  go_wp2_with (fail)
  go_loopg [5, 13] kn (fun kq v5 v13 w' => ∃ (vo : Value) (C : List S59) (i : Nat) (L : List Int), v5 = vo ∧ v13 = .int .i64 (i : Int) ∧ Aside0 (kq = kn - i ∧ i ≤ kn ∧ C.length ≤ i ∧ COK C) ∧ Aside0 (Kd.R k59 59 w' w0.heap.size (fun k => w.heap.size ≤ k) vo C ∧ KK w0 w w' (.slice A kn c) K ∧ St w0 w' g L ∧ Fz w w' g ∧ Below w0.heap.size w0 w'))
  case atStart => exact ⟨_, [], 0, L, rfl, rfl, ⟨by omega, by omega, Nat.le_refl _, fun _ h => by cases h⟩, ⟨Kd.R_nil _ _ _ _ _, HKK.out, HS.out⟩⟩
  case round =>
    obtain ⟨vo, C, i, L2, rfl, rfl, HI, HW⟩ := hrel
    by_cases hi : i < kn
    · have i0 : (0 : Int) ≤ (i : Int) := by omega
      have i1 : (i : Int) < (kn : Int) := by omega
      obtain ⟨gK, cap, vi, e, x0, x1, hKF⟩ := elem55 HW.out.2.1 i (by rw [HL.out]; exact hi)
      injection e with e1 e2 e3
      subst e1 e3
      clear e2
      have HM := Aside0.mk (HO.out.1 _ (rd55_mem (K := K) (i := i) (by rw [HL.out]; exact hi)))
      have HKF := Aside0.mk (show KF w0 w wr vi (rd_T55 K i).f1 from hKF)
      obtain ⟨Ai, ci, rfl⟩ := Kd.R_slice hKF
      generalize rd_T55 K i = xk at x0 x1 HM HKF
      obtain ⟨nm, F⟩ := xk
      replace x0 : wr.cell? ⟨gK, i * 2, none⟩ = some (.string nm) := x0
      replace x1 : wr.cell? ⟨gK, i * 2 + 1, none⟩ = some (.slice Ai F.length ci) := x1
      replace HKF : Aside0 (KF w0 w wr (.slice Ai F.length ci) F) := HKF
      replace HM : Aside0 (KOK1 ⟨nm, F⟩) := HM
      clear hKF
      go_wp2_with (fail)
      have hb := below_alloc (Below.refl wr.heap.size wr) (.cells #[.string nm, .slice Ai F.length ci] 55)
      have HX := Aside0.mk (blk_new wr (.cells #[.string nm, .slice Ai F.length ci] 55))
      have HGE := Aside0.mk (show w.heap.size ≤ wr.heap.size from HW.out.2.2.2.1.size)
      have HW := Aside0.mk (And.intro (Kd.R_below HW.out.1 hb) (And.intro (HW.out.2.1.below hb) (And.intro (HW.out.2.2.1.below hb) (And.intro (HW.out.2.2.2.1.trans (Fz.of_below hb)) (HW.out.2.2.2.2.trans (hb.mono HW.out.2.2.2.2.size))))))
      have HKF := Aside0.mk (HKF.out.below hb)
      obtain ⟨gb, hgb⟩ : ∃ gb, wr.heap.size = gb := ⟨_, rfl⟩
      obtain ⟨w1, hw1⟩ : ∃ W, wr.alloc (.cells #[.string nm, .slice Ai F.length ci] 55) = W := ⟨_, rfl⟩
      rw [hw1] at HX HW HKF ⊢
      rw [hgb] at HX HGE ⊢
      clear hb hw1 hgb x0 x1
      refine (T_next w1 w0 g L2 3 (by omega) HW.out.2.2.1 HW.out.2.2.2.2).mono ?_
      rintro e w2 ⟨z, L3, rfl, hz, HN⟩
      have HX := Aside0.mk (HN.out.2.1.at_ HX.out (by have := HGE.out; have := HG.out; omega))
      obtain ⟨csg, hcsg⟩ := HW.out.2.2.1.blk
      have HKF := Aside0.mk (HKF.out.next HW.out.2.2.1 HN.out.2.1)
      have HW := Aside0.mk (And.intro (Kd.R_fz HW.out.1 HN.out.2.1 hcsg types59) (And.intro (HW.out.2.1.next HW.out.2.2.1 HN.out.2.1) (And.intro HN.out.1 (And.intro (HW.out.2.2.2.1.trans HN.out.2.1) HN.out.2.2))))
      obtain ⟨x0, x1, x2, x3⟩ := cells2 HX.out
      have xl := blk_lt HX.out
      clear hz HN hcsg
      by_cases h2 : z = 2
      · have d1 : (z == 2) = true := by simp [h2]
        subst h2
        go_wp2_with (fail)
        go_roundg (kn - (i + 1))
        case measure => have := HI.out.1; omega
        case rel => exact ⟨_, C, i + 1, L3, rfl, congrArg (Value.int .i64) (by omega), ⟨by omega, by omega, by have := HI.out.2.2.1; omega, HI.out.2.2.2⟩, HW⟩
      · have d1 : (z == 2) = false := by simp [h2]
        go_wp2_with (fail)
        have hb := below_alloc (Below.refl w2.heap.size w2) (.cells #[.int .i64 (i : Int), .slice none 0 0] 59)
        have HCS := Aside0.mk (show CS w0 w (w2.alloc (.cells #[.int .i64 (i : Int), .slice none 0 0] 59)) g w2.heap.size (i : Int) (.slice none 0 0) [] u5 C L3 from
          ⟨blk_new w2 _, Kd.R_nil _ _ _ _ _, Kd.R_mono (Kd.R_below (Kd.R_bound HW.out.1) hb) (fun k hk => ⟨hk.1, hk.2.2.1⟩), HW.out.2.2.1.below hb, HW.out.2.2.2.1.trans (Fz.of_below hb), HW.out.2.2.2.2.trans (hb.mono HW.out.2.2.2.2.size), HG.out, HW.out.2.2.2.1.size⟩)
        have HKK := Aside0.mk (And.intro (HW.out.2.1.below hb) (HKF.out.below hb))
        obtain ⟨gx, hgx⟩ : ∃ gx, w2.heap.size = gx := ⟨_, rfl⟩
        obtain ⟨w3, hw3⟩ : ∃ W, w2.alloc (.cells #[.int .i64 (i : Int), .slice none 0 0] 59) = W := ⟨_, rfl⟩
        rw [hw3, hgx] at HCS
        rw [hw3] at HKK
        rw [hw3, hgx]
        clear hb hw3 hgx x0 x1 x2 x3 xl HW HKF HX
        go_loopg [26] F.length (fun kq v26 w' => ∃ (vf : Value) (V : List Int) (j : Nat) (L : List Int), v26 = .int .i64 (j : Int) ∧ Aside0 (kq = F.length - j ∧ j ≤ F.length ∧ V.length = j ∧ ∀ v ∈ V, -9000000000 ≤ v ∧ v ≤ 9000000000) ∧ Aside0 (CS w0 w w' g gx (i : Int) vf V u5 C L) ∧ Aside0 (KK w0 w w' (.slice (some ⟨gK, 0, none⟩) kn c) K ∧ KF w0 w w' (.slice Ai F.length ci) F))
        case atStart => exact ⟨_, [], 0, L3, rfl, ⟨by omega, by omega, rfl, fun _ h => by cases h⟩, HCS, HKK⟩
        case round =>
          obtain ⟨vf, V, j, L4, rfl, HJ, HW, HKK⟩ := hrel
          clear HCS
          by_cases hj : j < F.length
          · have j0 : (0 : Int) ≤ (j : Int) := by omega
            have j1 : (j : Int) < (F.length : Int) := by omega
            have j3 : j < 3 := by have := HM.out.2.1; have : F.length ≤ 3 := this; omega
            obtain ⟨ad, e, x0, x1, x2⟩ := at_T52 (Kd.R_reads' HKK.out.2).2.2 (j : Int) j0 j1
            subst e
            rw [Int.toNat_natCast] at x0 x1 x2
            have HFO := Aside0.mk (HM.out.2.2 _ (rd52_mem (K := F) hj))
            generalize rd_T52 F (j : Int) = fk at x0 x1 x2 HFO
            obtain ⟨fm, bits, low⟩ := fk
            replace x0 : wr.cell? (ad.add (j * 3)) = some (.string fm) := x0
            replace x1 : wr.cell? ⟨(ad.add (j * 3)).block, (ad.add (j * 3)).off + 1, none⟩ = some (.int .i64 bits) := x1
            replace x2 : wr.cell? ⟨(ad.add (j * 3)).block, (ad.add (j * 3)).off + 2, none⟩ = some (.int .i64 low) := x2
            replace HFO : Aside0 (FOK ⟨fm, bits, low⟩) := HFO
            have b1 : 1 ≤ bits := HFO.out.2.1
            have b2 : bits ≤ 32 := HFO.out.2.2.1
            have l1 : -2147483648 ≤ low := HFO.out.2.2.2.1
            have l2 : low ≤ 100 := HFO.out.2.2.2.2
            go_upto_region 10 with (fail)
            have hb := below_alloc (Below.refl wr.heap.size wr) (.cells #[.string fm, .int .i64 bits, .int .i64 low] 52)
            have HX := Aside0.mk (blk_new wr (.cells #[.string fm, .int .i64 bits, .int .i64 low] 52))
            have HGB := Aside0.mk (blk_lt HW.out.x)
            have HW := Aside0.mk (HW.out.below hb)
            have HKK := Aside0.mk (And.intro (HKK.out.1.below hb) (HKK.out.2.below hb))
            obtain ⟨gb, hgb⟩ : ∃ gb, wr.heap.size = gb := ⟨_, rfl⟩
            obtain ⟨w5, hw5⟩ : ∃ W, wr.alloc (.cells #[.string fm, .int .i64 bits, .int .i64 low] 52) = W := ⟨_, rfl⟩
            rw [hw5, hgb] at HX
            rw [hgb] at HGB
            rw [hw5] at HW HKK
            rw [hw5, hgb]
            clear hb hw5 hgb x0 x1 x2
            obtain ⟨x0, x1, x2, x3, x4, x5⟩ := cells3 HX.out
            obtain ⟨y0, y1, y2, y3⟩ := cells2 HW.out.x
            clear x0 x1 x2 x3 x4 x5 y0 y1 y2 y3
            have HX := Aside0.mk (blk_drew HX.out)
            have HW := Aside0.mk (HW.out.below (below_drew1 (Below.refl _ _)))
            have HKK := Aside0.mk (And.intro (HKK.out.1.below (below_drew1 (Below.refl _ _))) (HKK.out.2.below (below_drew1 (Below.refl _ _))))
            refine start_ (n := 14) (S := fun w' => w'.cell? ⟨gb, 1, none⟩ = some (.int .i64 bits) ∧ w'.cell? ⟨gb, 2, none⟩ = some (.int .i64 low) ∧ w'.cell? ⟨gx, 1, none⟩ = some vf) (ds := [13]) #[nq,nq,nq,nq,nq,nq,nq,nq,nq,nq,nq,nq,nq,nq] (by kernel_rfl) rfl rfl ⟨(blk_cell HX.out 1).trans rfl, (blk_cell HX.out 2).trans rfl, (blk_cell HW.out.x 1).trans rfl⟩ (fun hHeld => ?_)
            generalize w5.drew = w6 at HX HW HKK hHeld ⊢
            refine pure_ (i := 0) (N := some 30) (v := ?_) (a' := ?_) #[yq,nq,nq,nq,nq,nq,nq,nq,nq,nq,nq,nq,nq,nq] rfl rfl (by kernel_rfl) (fun _ _ _ h => h) (Or.inl ⟨by rfl, ?_⟩) ?_ ?_
            rotate_left
            · intro w'
              go_simp
              with_reducible rfl
            rotate_left
            · simp only [Act.put, List.setIfInBounds_toArray, List.set_cons_zero, List.set_cons_succ, i64_w, i32_w]
              rfl
            refine pure_ (i := 2) (N := some 32) (v := ?_) (a' := ?_) #[yq,nq,yq,nq,nq,nq,nq,nq,nq,nq,nq,nq,nq,nq] rfl rfl (by kernel_rfl) (fun _ _ _ h => h) (Or.inl ⟨by rfl, ?_⟩) ?_ ?_
            rotate_left
            · intro w'
              go_simp
              with_reducible rfl
            rotate_left
            · simp only [Act.put, List.setIfInBounds_toArray, List.set_cons_zero, List.set_cons_succ, i64_w, i32_w]
              rfl
            refine pure_ (i := 4) (N := some 34) (v := ?_) (a' := ?_) #[yq,nq,yq,nq,yq,nq,nq,nq,nq,nq,nq,nq,nq,nq] rfl rfl (by kernel_rfl) (fun _ _ _ h => h) (Or.inl ⟨by rfl, ?_⟩) ?_ ?_
            rotate_left
            · intro w'
              go_simp
              with_reducible rfl
            rotate_left
            · simp only [Act.put, List.setIfInBounds_toArray, List.set_cons_zero, List.set_cons_succ, i64_w, i32_w]
              rfl
            refine pure_ (i := 5) (N := some 35) (v := ?_) (a' := ?_) #[yq,nq,yq,nq,yq,yq,nq,nq,nq,nq,nq,nq,nq,nq] rfl rfl (by kernel_rfl) (fun _ _ _ h => h) (Or.inl ⟨by rfl, ?_⟩) ?_ ?_
            rotate_left
            · intro w'
              go_simp
              with_reducible rfl
            rotate_left
            · simp only [Act.put, List.setIfInBounds_toArray, List.set_cons_zero, List.set_cons_succ, i64_w, i32_w]
              rfl
            refine take_ (i := 1) (N := some 31) (v := ?_) (a' := ?_) #[yq,yq,yq,nq,yq,yq,nq,nq,nq,nq,nq,nq,nq,nq] rfl rfl (by kernel_rfl) (fun _ _ _ h => h) (Or.inl ⟨by rfl, ?_⟩) hHeld ?_ ?_
            rotate_left
            · rintro w' ⟨s0, s1, s2⟩
              go_simp
              with_reducible rfl
            rotate_left
            · simp only [Act.put, List.setIfInBounds_toArray, List.set_cons_zero, List.set_cons_succ, i64_w, i32_w]
              rfl
            refine take_ (i := 3) (N := some 33) (v := ?_) (a' := ?_) #[yq,yq,yq,yq,yq,yq,nq,nq,nq,nq,nq,nq,nq,nq] rfl rfl (by kernel_rfl) (fun _ _ _ h => h) (Or.inl ⟨by rfl, ?_⟩) hHeld ?_ ?_
            rotate_left
            · rintro w' ⟨s0, s1, s2⟩
              go_simp
              with_reducible rfl
            rotate_left
            · simp only [Act.put, List.setIfInBounds_toArray, List.set_cons_zero, List.set_cons_succ, i64_w, i32_w]
              rfl
            refine take_ (i := 6) (N := some 36) (v := ?_) (a' := ?_) #[yq,yq,yq,yq,yq,yq,yq,nq,nq,nq,nq,nq,nq,nq] rfl rfl (by kernel_rfl) (fun _ _ _ h => h) (Or.inl ⟨by rfl, ?_⟩) hHeld ?_ ?_
            rotate_left
            · rintro w' ⟨s0, s1, s2⟩
              go_simp
              with_reducible rfl
            rotate_left
            · simp only [Act.put, List.setIfInBounds_toArray, List.set_cons_zero, List.set_cons_succ, i64_w, i32_w]
              rfl
            refine pure_ (i := 7) (N := some 37) (v := ?_) (a' := ?_) #[yq,yq,yq,yq,yq,yq,yq,yq,nq,nq,nq,nq,nq,nq] rfl rfl (by kernel_rfl) (fun _ _ _ h => h) (Or.inl ⟨by rfl, ?_⟩) ?_ ?_
            rotate_left
            · intro w'
              go_simp
              with_reducible rfl
            rotate_left
            · simp only [Act.put, List.setIfInBounds_toArray, List.set_cons_zero, List.set_cons_succ, i64_w, i32_w]
              rfl
            have HN := Aside0.mk (shl_bits bits b1 b2)
            refine one_ (i := 8) (N := some 38) #[yq,yq,yq,yq,yq,yq,yq,yq,yq,nq,nq,nq,nq,nq] rfl rfl (by kernel_rfl) (by decide) (fun Kc hK => ?_)
            refine goes_ Try.func19 (by kernel_rfl) rfl #[.pointer (some ⟨g, 0, none⟩), .int .i64 (wrap64 (2 ^ bits.toNat))] (by rfl) rfl rfl (by (try simp only [List.map_toArray, List.map_cons, List.map_nil]); first | done | rfl) ?_
            refine (T_next w6 w0 g L4 _ ⟨HN.out.1, by have := HN.out.2; omega⟩ HW.out.s HW.out.b).mono ?_
            rintro e w7 ⟨x, L5, rfl, hx, HNX⟩
            refine ⟨_, rfl, ?_⟩
            have u0 : 0 ≤ x := hx.out.1
            have u1 : x < 4294967296 := by have := HN.out.2; have := hx.out.2; omega
            have HLX := Aside0.mk (show wrap64 (low + x) = low + x from by unfold wrap64; omega)
            have HGN := Aside0.mk (show gb ≠ g from by have := HGB.out; have := HW.out.gw; have := HW.out.wx; omega)
            have HX := Aside0.mk (HNX.out.2.1.at_ HX.out HGN.out)
            have HKK := Aside0.mk (And.intro (HKK.out.1.next HW.out.s HNX.out.2.1) (HKK.out.2.next HW.out.s HNX.out.2.1))
            have HW := Aside0.mk (HW.out.next HNX.out)
            clear hx HNX
            refine hK.out _ _ ⟨(blk_cell HX.out 1).trans rfl, (blk_cell HX.out 2).trans rfl, (blk_cell HW.out.x 1).trans rfl⟩ (fun hHeld => ?_)
            clear hK Kc
            refine norm_ (a' := ?_) ?_ ?_
            rotate_left
            · show Act.put _ (some 38) _ = _
              simp only [Act.put, List.setIfInBounds_toArray, List.set_cons_zero, List.set_cons_succ, i64_w, i32_w]
              rfl
            refine pure_ (i := 9) (N := some 39) (v := ?_) (a' := ?_) #[yq,yq,yq,yq,yq,yq,yq,yq,yq,yq,nq,nq,nq,nq] rfl rfl (by kernel_rfl) (fun _ _ _ h => h) (Or.inl ⟨by rfl, ?_⟩) ?_ ?_
            rotate_left
            · intro w'
              go_simp
              with_reducible rfl
            rotate_left
            · simp only [Act.put, List.setIfInBounds_toArray, List.set_cons_zero, List.set_cons_succ, i64_w, i32_w]
              rfl
            refine one_ (i := 10) (N := some 40) #[yq,yq,yq,yq,yq,yq,yq,yq,yq,yq,yq,nq,nq,nq] rfl rfl (by kernel_rfl) (by decide) (fun Kc hK => ?_)
            refine event_step (by rfl) (v := .slice (some ⟨w7.heap.size, 0, none⟩) 1 1) (w1 := w7.alloc (.cells #[.int .i64 (wrap64 (low + x))] 3)) ?hr ?_
            case hr => first | (go_simp; done) | (go_simp; rfl)
            refine hK.out _ _ ⟨(blk_cell (blk_alloc HX.out _) 1).trans rfl, (blk_cell (blk_alloc HX.out _) 2).trans rfl, (blk_cell (blk_alloc HW.out.x _) 1).trans rfl⟩ (fun hHeld => ?_)
            clear hK Kc
            refine norm_ (a' := ?_) ?_ ?_
            rotate_left
            · show Act.put _ (some 40) _ = _
              simp only [Act.put, List.setIfInBounds_toArray, List.set_cons_zero, List.set_cons_succ, i64_w, i32_w]
              rfl
            refine one_ (i := 11) (N := some 41) #[yq,yq,yq,yq,yq,yq,yq,yq,yq,yq,yq,yq,nq,nq] rfl rfl (by kernel_rfl) (by decide) (fun Kc hK => ?_)
            refine Kd.R_append_step (Kd.int .i64) (w0 := w0) (W := w7) w0.heap.size (by rfl) (.tmp 31) (.tmp 40) 22 3 (.int .i64 0) 8 rfl Try.underlying22 info3' rfl (by decide) (by decide) vf V (wrap64 (low + x)) [.int .i64 (wrap64 (low + x))] (fun k => gx < k) (fun _ => False) rfl rfl rfl (fun _ hk => hk.elim) (fun k hk => Nat.lt_of_lt_of_le (blk_lt HW.out.x) hk) HW.out.f HW.out.b (below_size HW.out.b) (by have := HJ.out.2.2.1; have := HJ.out.2.1; have := HM.out.2.1; have : F.length ≤ 3 := this; omega) ?_
            intro v8 w8 ho hb hg hat
            obtain ⟨A8, c8, hv8⟩ := Kd.R_slice ho
            rw [List.length_append, List.length_singleton] at hv8
            subst hv8
            have hrow : ∀ k, vf.ownBlock = some k → gx < k := fun k hk => HW.out.f.1 k hk
            have HG8 := Aside0.mk (HW.out.grow ho hb hg)
            have HK8 := Aside0.mk (And.intro ((HKK.out.1.grown hg (fun k hk => by have := hrow k hk; have := HW.out.wx; omega)).set HW.out.wx 1 (.slice A8 (V.length + 1) c8)) ((HKK.out.2.grown hg (fun k hk => by have := hrow k hk; have := HW.out.wx; omega)).set HW.out.wx 1 (.slice A8 (V.length + 1) c8)))
            have hgx8 := blk_grown HW.out.x hg (fun e => by have := hrow gx e.symm; omega)
            have hgb8 := blk_grown HX.out hg (fun e => by obtain ⟨inner, ho⟩ := Kd.R_own HW.out.f; exact own_ne ho HX.out (by decide) e)
            obtain ⟨y0, y1, y2, y3⟩ := cells2 hgx8
            clear ho hb hg hat hrow HKK HW HX
            refine hK.out _ _ ⟨(blk_cell hgb8 1).trans rfl, (blk_cell hgb8 2).trans rfl, (blk_cell hgx8 1).trans rfl⟩ (fun hHeld => ?_)
            clear hK Kc
            refine norm_ (a' := ?_) ?_ ?_
            rotate_left
            · show Act.put _ (some 41) _ = _
              simp only [Act.put, List.setIfInBounds_toArray, List.set_cons_zero, List.set_cons_succ, i64_w, i32_w]
              rfl
            refine pure_ (i := 12) (N := some 42) (v := ?_) (a' := ?_) #[yq,yq,yq,yq,yq,yq,yq,yq,yq,yq,yq,yq,yq,nq] rfl rfl (by kernel_rfl) (fun _ _ _ h => h) (Or.inl ⟨by rfl, ?_⟩) ?_ ?_
            rotate_left
            · intro w'
              go_simp
              with_reducible rfl
            rotate_left
            · simp only [Act.put, List.setIfInBounds_toArray, List.set_cons_zero, List.set_cons_succ, i64_w, i32_w]
              rfl
            refine last_ (i := 13) (N := none) #[yq,yq,yq,yq,yq,yq,yq,yq,yq,yq,yq,yq,yq,yq] rfl rfl (by kernel_rfl) (by decide) (fun Kc hK => ?_)
            refine skip_ (w1 := ?_) (by rfl) rfl ?_ ?_
            rotate_left
            · go_simp
              rfl
            refine hK.out _ _ ?_
            clear hK Kc
            refine done_ (by kernel_rfl) ?_
            go_wp2
            go_roundg (F.length - (j + 1))
            case measure => have := HJ.out.1; omega
            case rel => exact ⟨_, V ++ [wrap64 (low + x)], j + 1, L5, congrArg (Value.int .i64) (by omega), ⟨by omega, by omega, by rw [List.length_append, HJ.out.2.2.1]; rfl, fun f hf => (List.mem_append.1 hf).elim (HJ.out.2.2.2 f) (fun hf => by rw [List.mem_singleton.1 hf, HLX.out]; omega)⟩, HG8, HK8⟩
          · have hjf : ¬ ((j : Int) < (F.length : Int)) := by omega
            obtain ⟨y0, y1, y2, y3⟩ := cells2 HW.out.x
            obtain ⟨csg, hcsg⟩ := HW.out.s.blk
            have HCS := Aside0.mk hcsg
            have FB := Aside0.mk (show COK1 ⟨(i : Int), V⟩ from ⟨by show (0 : Int) ≤ (i : Int); omega, by show (i : Int) ≤ 3; omega, by have := HJ.out.2.2.1; have := HJ.out.2.1; have := HM.out.2.1; have : F.length ≤ 3 := this; show V.length ≤ 3; omega, HJ.out.2.2.2⟩)
            clear hcsg
            go_wp2_with (((with_reducible refine gate_builtin (b := .append) (xs := #[.tmp 44, .tmp 46]) rfl ?_); at_builtin; refine Kd.R_append k59 (w0 := w0) w0.heap.size rfl (.tmp 44) (.tmp 46) 32 59 (.agg #[.int .i64 0, .slice none 0 0]) 32 rfl Try.underlying32 info59' rfl (by decide) (by decide) u5 C (⟨(i : Int), V⟩ : S59) [.int .i64 (i : Int), vf] (fun k => w.heap.size ≤ k) (fun k => gx < k) rfl rfl ?aP ?aK ?aF ?aO ?aB ?aS ?aL ?_; (case aP => exact k59_mkM _ _ _ _ HW.out.f); (case aK => exact (fun k hk => ⟨Nat.le_trans HW.out.wx (Nat.le_of_lt hk), fun e => by have := (HW.out.k.1 k e.symm).2; omega⟩)); (case aF => exact (fun k hk => Nat.le_trans (Nat.le_trans HW.out.wx (Nat.le_of_lt (blk_lt HW.out.x))) hk)); (case aO => exact Kd.R_mono HW.out.k (fun k hk => hk.1)); (case aB => exact HW.out.b); (case aS => exact below_size HW.out.b); (case aL => have := HI.out.2.2.1; omega); intro v9 w9 ho hb hg hat; have HR9 := Aside0.mk ho; have HS9 := Aside0.mk (And.intro (HKK.out.1.grown hg (fun k hk => (HW.out.k.1 k hk).1)) (And.intro (HW.out.s.grown hg (Kd.R_ne HW.out.k HCS.out (by decide))) (And.intro (HW.out.z.grown hg (fun k hk => (HW.out.k.1 k hk).1)) hb))); clear ho hb hg hat))
            go_roundg (kn - (i + 1))
            case measure => have := HI.out.1; omega
            case rel => exact ⟨v9, C ++ [⟨(i : Int), V⟩], i + 1, L4, rfl, congrArg (Value.int .i64) (by omega), ⟨by omega, by omega, by rw [List.length_append]; have := HI.out.2.2.1; simp; omega, fun f hf => (List.mem_append.1 hf).elim (HI.out.2.2.2 f) (fun hf => by rw [List.mem_singleton.1 hf]; exact FB.out)⟩, ⟨HR9.out, HS9.out⟩⟩
    · have hix : ¬ ((i : Int) < (kn : Int)) := by omega
      go_wp2_with (fail)
      go_ret
      exact ⟨u5, C, rfl, ⟨by have := HI.out.2.2.1; have := HI.out.2.1; omega, HI.out.2.2.2⟩, ⟨HW.out.1, ⟨L2, HW.out.2.2.1⟩, HW.out.2.2.2⟩⟩

end Go.Proofs.Ytlbicibihdkpnaa.P
namespace Go.Proofs.Ytlbicibihdkpnaa.P
open Go.RowKit Go.Proofs.YtlbicibihdkpnaaW.PrintWords Go.Proofs.YtlbicibihdkpnaaW.PrintLast Go.Proofs.YtlbicibihdkpnaaW.PrintMore
set_option linter.unusedVariables false
set_option linter.unusedSimpArgs false

def IOK1 (x : S34) : Prop := 0 ≤ x.f0.f0 ∧ x.f0.f0 ≤ 11 ∧ 0 ≤ x.f0.f1 ∧ x.f0.f1 ≤ 2 ∧ x.f1.length ≤ 4 ∧ COK x.f1
def IOK (I : List S34) : Prop := ∀ x ∈ I, IOK1 x
def GOK (G : List Int) : Prop := ∀ x ∈ G, 0 ≤ x ∧ x ≤ 2
def WorldOK (K : List S55) (G : List Int) (I : List S34) : Prop := 1 ≤ K.length ∧ K.length ≤ 4 ∧ KOK K ∧ G.length ≤ 11 ∧ GOK G ∧ I.length ≤ 8 ∧ IOK I
theorem info34' : (Try.prog.info? 34).map (fun i => (i.zero, i.size, i.bytes)) = some (some (.agg #[.int .i64 0, .int .i64 0, .slice none 0 0]), 3, 40) := by kernel_rfl
def WorldP (w : World) (e : Ending) (w' : World) : Prop :=
  ∃ (vK vG vI : Value) (K : List S55) (G : List Int) (I : List S34), e = .returned (.agg #[vK, vG, vI]) ∧ Aside0 (WorldOK K G I) ∧ Aside0 (Kd.R k55 55 w' w.heap.size (fun _ => True) vK K ∧ Kd.R (Kd.int .i64) 3 w' w.heap.size (fun _ => True) vG G ∧ Kd.R k34 34 w' w.heap.size (fun _ => True) vI I ∧ Below w.heap.size w w')
theorem mem55 : ∀ q, q ∈ 55 :: k55.E → q = 55 ∨ q = 52 := by
  intro q hq
  simpa [k55, k52, Kd.iso, Kd.pair, Kd.slice, Kd.string, Kd.int, Kd.scalar] using hq
theorem mem34 : ∀ q, q ∈ 34 :: k34.E → q = 34 ∨ q = 59 ∨ q = 3 := by
  intro q hq
  simpa [k34, k31, k59, Kd.iso, Kd.pair, Kd.slice, Kd.string, Kd.int, Kd.scalar] using hq
theorem mem3 : ∀ q, q ∈ 3 :: (Kd.int .i64).E → q = 3 := by
  intro q hq
  simpa [Kd.int, Kd.scalar] using hq
theorem no55 {t : Nat} (h1 : 55 ≠ t) (h2 : 52 ≠ t) : ∀ q, q ∈ 55 :: k55.E → q ≠ t := fun q hq => (mem55 q hq).elim (fun e => e ▸ h1) (fun e => e ▸ h2)
theorem no34 {t : Nat} (h1 : 34 ≠ t) (h2 : 59 ≠ t) (h3 : 3 ≠ t) : ∀ q, q ∈ 34 :: k34.E → q ≠ t := fun q hq => (mem34 q hq).elim (fun e => e ▸ h1) (fun e => e.elim (fun e => e ▸ h2) (fun e => e ▸ h3))
theorem no3 {t : Nat} (h1 : 3 ≠ t) : ∀ q, q ∈ 3 :: (Kd.int .i64).E → q ≠ t := fun q hq => mem3 q hq ▸ h1
/-- World, in its loop: the answer's box is gr, the stream is gs, the world is gw -/
structure WS (w W : World) (gr gs gw : Nat) (vK vG vI : Value) (K : List S55) (G : List Int) (I : List S34) (L : List Int) : Prop where
  r : W.heap[gr]? = some (.cells #[.slice none 0 0, .slice none 0 0, .slice none 0 0] 27 (0, 0))
  x : W.heap[gw]? = some (.cells #[vK, vG, vI] 27 (0, 0))
  k : Kd.R k55 55 W w.heap.size (fun _ => True) vK K
  g : Kd.R (Kd.int .i64) 3 W w.heap.size (fun _ => True) vG G
  i : Kd.R k34 34 W w.heap.size (fun k => some k ≠ vG.ownBlock) vI I
  s : St w W gs L
  b : Below w.heap.size w W
  wr : w.heap.size ≤ gr
  ww : w.heap.size ≤ gw
  rw : gr ≠ gw
section
variable {w W W1 : World} {gr gs gw : Nat} {vK vG vI v1 : Value} {K : List S55} {G G1 : List Int} {I I1 : List S34} {L L' : List Int}
theorem WS.next (h : WS w W gr gs gw vK vG vI K G I L) (n : St w W1 gs L' ∧ Fz W W1 gs ∧ Below w.heap.size w W1) : WS w W1 gr gs gw vK vG vI K G I L' := by
  obtain ⟨cs, hcs⟩ := h.s.blk
  exact ⟨n.2.1.at_ h.r (blk_ne h.r hcs (by decide)), n.2.1.at_ h.x (blk_ne h.x hcs (by decide)), Kd.R_fz h.k n.2.1 hcs types55, Kd.R_fz h.g n.2.1 hcs types3, Kd.R_fz h.i n.2.1 hcs (no34 (by decide) (by decide) (by decide)), n.1, n.2.2, h.wr, h.ww, h.rw⟩
theorem WS.below (h : WS w W gr gs gw vK vG vI K G I L) (hb : Below W.heap.size W W1) : WS w W1 gr gs gw vK vG vI K G I L :=
  ⟨(hb.block gr (blk_lt h.r)).trans h.r, (hb.block gw (blk_lt h.x)).trans h.x, Kd.R_below h.k hb, Kd.R_below h.g hb, Kd.R_below h.i hb, h.s.below hb, h.b.trans (hb.mono h.b.size), h.wr, h.ww, h.rw⟩
theorem WS.growG (h : WS w W gr gs gw vK vG vI K G I L) (ho : Kd.R (Kd.int .i64) 3 W1 w.heap.size (fun _ => True) v1 G1) (hb : Below w.heap.size w W1) (hg : W.grownBy W1 vG.ownBlock) (hat : v1.ownBlock = vG.ownBlock ∨ ∃ b, v1.ownBlock = some b ∧ W.heap.size ≤ b) :
    WS w (W1.setCell ⟨gw, 1, none⟩ v1) gr gs gw vK v1 vI K G1 I L := by
  obtain ⟨cs, hcs⟩ := h.s.blk
  have hx1 := blk_grown h.x hg (Kd.R_ne h.g h.x (by decide))
  have hr1 := blk_grown h.r hg (Kd.R_ne h.g h.r (by decide))
  have hi1 : Kd.R k34 34 W1 w.heap.size (fun k => some k ≠ v1.ownBlock) vI I := Kd.R_mono (Kd.R_grown (Kd.R_bound h.i) hg (fun k hk => hk.1)) (fun k hk e => by
    rcases hat with hat | ⟨b, hat, hb2⟩
    · exact hk.1 (e.trans hat)
    · rw [hat] at e; injection e with e; have := hk.2.2.1; omega)
  exact ⟨blk_far hr1 h.rw v1, by simpa using blk_set hx1 1 v1, Kd.R_set (Kd.R_mono (Kd.R_grown (Kd.R_apartR h.k h.g (no55 (by decide) (by decide))) hg (fun k hk => hk.2)) (fun _ hk => hk.1)) hx1 (no55 (by decide) (by decide)) 1 v1, Kd.R_set ho hx1 (no3 (by decide)) 1 v1, Kd.R_set hi1 hx1 (no34 (by decide) (by decide) (by decide)) 1 v1,
    (h.s.grown hg (Kd.R_ne h.g hcs (by decide))).set_other (blk_ne hcs h.x (by decide)) 1 v1, hb.setCell (p := ⟨gw, 1, none⟩) h.ww v1, h.wr, h.ww, h.rw⟩
theorem WS.growI (h : WS w W gr gs gw vK vG vI K G I L) (ho : Kd.R k34 34 W1 w.heap.size (fun k => some k ≠ vG.ownBlock) v1 I1) (hb : Below w.heap.size w W1) (hg : W.grownBy W1 vI.ownBlock) :
    WS w (W1.setCell ⟨gw, 2, none⟩ v1) gr gs gw vK vG v1 K G I1 L := by
  obtain ⟨cs, hcs⟩ := h.s.blk
  have hx1 := blk_grown h.x hg (Kd.R_ne h.i h.x (by decide))
  have hr1 := blk_grown h.r hg (Kd.R_ne h.i h.r (by decide))
  exact ⟨blk_far hr1 h.rw v1, by simpa using blk_set hx1 2 v1, Kd.R_set (Kd.R_mono (Kd.R_grown (Kd.R_apartR h.k h.i (no55 (by decide) (by decide))) hg (fun k hk => hk.2)) (fun _ hk => hk.1)) hx1 (no55 (by decide) (by decide)) 2 v1, Kd.R_set (Kd.R_mono (Kd.R_grown (Kd.R_apartR h.g h.i (no3 (by decide))) hg (fun k hk => hk.2)) (fun _ hk => hk.1)) hx1 (no3 (by decide)) 2 v1, Kd.R_set ho hx1 (no34 (by decide) (by decide) (by decide)) 2 v1,
    (h.s.grown hg (Kd.R_ne h.i hcs (by decide))).set_other (blk_ne hcs h.x (by decide)) 2 v1, hb.setCell (p := ⟨gw, 2, none⟩) h.ww v1, h.wr, h.ww, h.rw⟩
end

theorem R_set3 {α : Type} {d : Kd α} {W : World} {g t e base : Nat} {cs : Array Value} {ok : Nat → Prop} {v : Value} {xs : List α} (h : d.R e W base ok v xs) (hb : W.heap[g]? = some (.cells cs t (0, 0))) (ht : ∀ q, q ∈ e :: d.E → q ≠ t) (a b c : Value) :
    d.R e (((W.setCell ⟨g, 0, none⟩ a).setCell ⟨g, 1, none⟩ b).setCell ⟨g, 2, none⟩ c) base ok v xs :=
  Kd.R_mono (Kd.R_far (Kd.R_far (Kd.R_far (Kd.R_types h hb ht) (p := ⟨g, 0, none⟩) (fun k hk => hk.2) a) (p := ⟨g, 1, none⟩) (fun k hk => hk.2) b) (p := ⟨g, 2, none⟩) (fun k hk => hk.2) c) (fun _ hk => hk.1)

theorem gcell {W : World} {base g8 n c : Nat} {ok : Nat → Prop} {G : List Int} (h : Kd.R (Kd.int .i64) 3 W base ok (.slice (some ⟨g8, 0, none⟩) n c) G) (i : Nat) (hi : i < G.length) : W.cell? ⟨g8, i, none⟩ = some (.int .i64 (rd G (i : Int))) := by
  obtain ⟨ad, e, hx⟩ := Kd.at_int (Kd.R_reads' h).2.2 (i : Int) (by omega) (by omega)
  injection e with e
  subst e
  rw [add_plain] at hx
  simpa using hx
theorem rd_mem {G : List Int} {i : Nat} (hi : i < G.length) : rd G (i : Int) ∈ G := by
  unfold rd
  rw [Int.toNat_natCast, List.getD_eq_getElem?_getD, List.getElem?_eq_getElem hi]
  exact List.getElem_mem hi

end Go.Proofs.Ytlbicibihdkpnaa.P
namespace Go.Proofs.Ytlbicibihdkpnaa.P
open Go.RowKit Go.Proofs.YtlbicibihdkpnaaW.PrintWords Go.Proofs.YtlbicibihdkpnaaW.PrintLast Go.Proofs.YtlbicibihdkpnaaW.PrintMore
attribute [local go_sem ↓] Go.wp_at_zero Go.wp_at_succ
set_option linter.unusedVariables false
set_option linter.unusedSimpArgs false

set_option maxHeartbeats 4000000 in
set_option maxRecDepth 100000 in
theorem T_world (w : World) (A : Option Addr) (c : Nat) (L : List Int) (hC : Kd.C (Kd.int .i64) w A L.length L) (hc : L.length ≤ c) (hx : ∀ x ∈ L, -9223372036854775808 ≤ x ∧ x < 9223372036854775808) :
    Calls Try.prog 5 #[.slice A L.length c] w (WorldP w) := by
  have HC := Aside0.mk (And.intro hc (And.intro hC hx))
  have HM := Aside0.mk (Kd.C_max hC)
  obtain ⟨ln, hln⟩ : ∃ ln, L.length = ln := ⟨_, rfl⟩
  have HL := Aside0.mk hln
  rw [hln]
  clear hC hc hx hln
  go_enter Try.func5, Try.ntmps5
  go_wp2_with (fail)
  have HB := Aside0.mk (below_alloc (below_alloc (Below.refl w.heap.size w) (.cells #[.slice none 0 0, .slice none 0 0, .slice none 0 0] 27)) (.cells #[.slice A ln c] 66))
  have HR := Aside0.mk (blk_alloc (blk_new w (.cells #[.slice none 0 0, .slice none 0 0, .slice none 0 0] 27)) (.cells #[.slice A ln c] 66))
  have HS := Aside0.mk (show St w ((w.alloc (.cells #[.slice none 0 0, .slice none 0 0, .slice none 0 0] 27)).alloc (.cells #[.slice A ln c] 66)) (w.heap.size + 1) L from
    ⟨A, c, by rw [HL.out]; exact new2, Nat.le_succ _, HC.out.1, HC.out.2.1, HC.out.2.2⟩)
  obtain ⟨gr, hgr⟩ : ∃ gr, w.heap.size = gr := ⟨_, rfl⟩
  obtain ⟨gs, hgs⟩ : ∃ gs, w.heap.size + 1 = gs := ⟨_, rfl⟩
  obtain ⟨w1, hw1⟩ : ∃ W, (w.alloc (.cells #[.slice none 0 0, .slice none 0 0, .slice none 0 0] 27)).alloc (.cells #[.slice A ln c] 66) = W := ⟨_, rfl⟩
  rw [hw1] at HB HR HS ⊢
  have HGR := Aside0.mk (show w.heap.size ≤ gr from Nat.le_of_eq hgr)
  rw [hgs] at HS
  have HR : Aside0 (w1.heap[gr]? = some (.cells #[.slice none 0 0, .slice none 0 0, .slice none 0 0] 27 (0, 0))) := ⟨hgr ▸ HR.out⟩
  rw [hgs]
  rw [hgr]
  clear hw1 hgr hgs
  refine (T_kinds w1 w gs L HS.out HB.out).mono ?_
  rintro e w2 ⟨vK, K, rfl, HKO, HN⟩
  obtain ⟨L1, hS1⟩ := HN.out.2.1
  have HR := Aside0.mk (HN.out.2.2.1.at_ HR.out (by obtain ⟨cs, hcs⟩ := HS.out.blk; exact blk_ne HR.out hcs (by decide)))
  have HK := Aside0.mk (Kd.R_mono HN.out.1 (fun _ _ => trivial))
  have HB := Aside0.mk HN.out.2.2.2
  have HS := Aside0.mk hS1
  obtain ⟨AK, cK, hvK⟩ := Kd.R_slice HK.out
  subst hvK
  clear hS1 HN
  go_wp2_with (fail)
  have hb := below_alloc (Below.refl w2.heap.size w2) (.cells #[.slice AK K.length cK, .slice none 0 0, .slice none 0 0] 27)
  have HW := Aside0.mk (show WS w (w2.alloc (.cells #[.slice AK K.length cK, .slice none 0 0, .slice none 0 0] 27)) gr gs w2.heap.size (.slice AK K.length cK) (.slice none 0 0) (.slice none 0 0) K [] [] L1 from
    ⟨blk_alloc HR.out _, blk_new w2 _, Kd.R_below HK.out hb, Kd.R_nil _ _ _ _ _, Kd.R_nil _ _ _ _ _, HS.out.below hb, HB.out.trans (hb.mono HB.out.size), HGR.out, HB.out.size, Nat.ne_of_lt (blk_lt HR.out)⟩)
  obtain ⟨gw, hgw⟩ : ∃ gw, w2.heap.size = gw := ⟨_, rfl⟩
  obtain ⟨w3, hw3⟩ : ∃ W, w2.alloc (.cells #[.slice AK K.length cK, .slice none 0 0, .slice none 0 0] 27) = W := ⟨_, rfl⟩
  rw [hw3, hgw] at HW
  rw [hw3, hgw]
  clear hb hw3 hgw HR HK HB HS HGR
  refine (T_next w3 w gs L1 12 (by omega) HW.out.s HW.out.b).mono ?_
  rintro e w4 ⟨n, L2, rfl, hn, HN⟩
  have n0 : 0 ≤ n := hn.out.1
  have n1 : n < 12 := hn.out.2
  have HW := Aside0.mk (HW.out.next HN.out)
  clear hn HN
  go_wp2_with (fail)
  go_loopg [14] n.toNat (fun kq v14 w' => ∃ (vG vI : Value) (G : List Int) (I : List S34) (i : Nat) (L : List Int), v14 = .int .i64 (i : Int) ∧ Aside0 (kq = n.toNat - i ∧ (i : Int) ≤ n ∧ G.length = i ∧ GOK G ∧ I.length ≤ 8 ∧ IOK I) ∧ Aside0 (WS w w' gr gs gw (.slice AK K.length cK) vG vI K G I L))
  case atStart => exact ⟨_, _, [], [], 0, L2, rfl, ⟨by omega, by omega, rfl, (fun _ h => by cases h), Nat.zero_le _, (fun _ h => by cases h)⟩, HW⟩
  case round =>
    obtain ⟨vG, vI, G, I, i, L3, rfl, HI, HW⟩ := hrel
    by_cases hi : (i : Int) < n
    · have i0 : (0 : Int) ≤ (i : Int) := by omega
      have i11 : i < 11 := by omega
      go_upto_region 6 with (fail)
      have HW := Aside0.mk (HW.out.below (below_drew1 (Below.refl _ _)))
      refine start_ (n := 8) (S := fun w' => w'.cell? ⟨gw, 1, none⟩ = some vG) (ds := [7]) #[nq,nq,nq,nq,nq,nq,nq,nq] (by kernel_rfl) rfl rfl ((blk_cell HW.out.x 1).trans rfl) (fun hHeld => ?_)
      generalize wr.drew = w6 at HW hHeld ⊢
      refine pure_ (i := 0) (N := some 17) (v := ?_) (a' := ?_) #[yq,nq,nq,nq,nq,nq,nq,nq] rfl rfl (by kernel_rfl) (fun _ _ _ h => h) (Or.inl ⟨by rfl, ?_⟩) ?_ ?_
      rotate_left
      · intro w'
        go_simp
        with_reducible rfl
      rotate_left
      · simp only [Act.put, List.setIfInBounds_toArray, List.set_cons_zero, List.set_cons_succ, i64_w, i32_w]
        rfl
      refine pure_ (i := 2) (N := some 19) (v := ?_) (a' := ?_) #[yq,nq,yq,nq,nq,nq,nq,nq] rfl rfl (by kernel_rfl) (fun _ _ _ h => h) (Or.inl ⟨by rfl, ?_⟩) ?_ ?_
      rotate_left
      · intro w'
        go_simp
        with_reducible rfl
      rotate_left
      · simp only [Act.put, List.setIfInBounds_toArray, List.set_cons_zero, List.set_cons_succ, i64_w, i32_w]
        rfl
      refine take_ (i := 1) (N := some 18) (v := ?_) (a' := ?_) #[yq,yq,yq,nq,nq,nq,nq,nq] rfl rfl (by kernel_rfl) (fun _ _ _ h => h) (Or.inl ⟨by rfl, ?_⟩) hHeld ?_ ?_
      rotate_left
      · rintro w' s0
        go_simp
        with_reducible rfl
      rotate_left
      · simp only [Act.put, List.setIfInBounds_toArray, List.set_cons_zero, List.set_cons_succ, i64_w, i32_w]
        rfl
      refine one_ (i := 3) (N := some 20) #[yq,yq,yq,yq,nq,nq,nq,nq] rfl rfl (by kernel_rfl) (by decide) (fun Kc hK => ?_)
      refine goes_ Try.func19 (by kernel_rfl) rfl #[.pointer (some ⟨gs, 0, none⟩), .int .i64 3] (by rfl) rfl rfl (by (try simp only [List.map_toArray, List.map_cons, List.map_nil]); first | done | rfl) ?_
      refine (T_next w6 w gs L3 3 (by omega) HW.out.s HW.out.b).mono ?_
      rintro e w7 ⟨x, L4, rfl, hx, HNX⟩
      refine ⟨_, rfl, ?_⟩
      have u0 : 0 ≤ x := hx.out.1
      have u1 : x < 3 := hx.out.2
      have HW := Aside0.mk (HW.out.next HNX.out)
      clear hx HNX
      refine hK.out _ _ ((blk_cell HW.out.x 1).trans rfl) (fun hHeld => ?_)
      clear hK Kc
      refine norm_ (a' := ?_) ?_ ?_
      rotate_left
      · show Act.put _ (some 20) _ = _
        simp only [Act.put, List.setIfInBounds_toArray, List.set_cons_zero, List.set_cons_succ, i64_w, i32_w]
        rfl
      refine one_ (i := 4) (N := some 21) #[yq,yq,yq,yq,yq,nq,nq,nq] rfl rfl (by kernel_rfl) (by decide) (fun Kc hK => ?_)
      refine event_step (by rfl) (v := .slice (some ⟨w7.heap.size, 0, none⟩) 1 1) (w1 := w7.alloc (.cells #[.int .i64 x] 3)) ?hr ?_
      case hr => first | (go_simp; done) | (go_simp; rfl)
      refine hK.out _ _ ((blk_cell (blk_alloc HW.out.x _) 1).trans rfl) (fun hHeld => ?_)
      clear hK Kc
      refine norm_ (a' := ?_) ?_ ?_
      rotate_left
      · show Act.put _ (some 21) _ = _
        simp only [Act.put, List.setIfInBounds_toArray, List.set_cons_zero, List.set_cons_succ, i64_w, i32_w]
        rfl
      refine one_ (i := 5) (N := some 22) #[yq,yq,yq,yq,yq,yq,nq,nq] rfl rfl (by kernel_rfl) (by decide) (fun Kc hK => ?_)
      refine Kd.R_append_step (Kd.int .i64) (w0 := w) (W := w7) w.heap.size (by rfl) (.tmp 18) (.tmp 21) 22 3 (.int .i64 0) 8 rfl Try.underlying22 info3' rfl (by decide) (by decide) vG G x [.int .i64 x] (fun _ => True) (fun _ => False) rfl rfl rfl (fun _ hk => hk.elim) (fun _ _ => trivial) HW.out.g HW.out.b (below_size HW.out.b) (by have := HI.out.2.2.1; omega) ?_
      intro v8 w8 ho hb hg hat
      obtain ⟨A8, c8, hv8⟩ := Kd.R_slice ho
      rw [List.length_append, List.length_singleton] at hv8
      subst hv8
      have HG8 := Aside0.mk (HW.out.growG ho hb hg hat)
      have hx8 := blk_grown HW.out.x hg (Kd.R_ne HW.out.g HW.out.x (by decide))
      obtain ⟨y0, y1, y2, y3, y4, y5⟩ := cells3 hx8
      clear ho hb hg hat HW
      refine hK.out _ _ ((blk_cell hx8 1).trans rfl) (fun hHeld => ?_)
      clear hK Kc
      refine norm_ (a' := ?_) ?_ ?_
      rotate_left
      · show Act.put _ (some 22) _ = _
        simp only [Act.put, List.setIfInBounds_toArray, List.set_cons_zero, List.set_cons_succ, i64_w, i32_w]
        rfl
      refine pure_ (i := 6) (N := some 23) (v := ?_) (a' := ?_) #[yq,yq,yq,yq,yq,yq,yq,nq] rfl rfl (by kernel_rfl) (fun _ _ _ h => h) (Or.inl ⟨by rfl, ?_⟩) ?_ ?_
      rotate_left
      · intro w'
        go_simp
        with_reducible rfl
      rotate_left
      · simp only [Act.put, List.setIfInBounds_toArray, List.set_cons_zero, List.set_cons_succ, i64_w, i32_w]
        rfl
      refine last_ (i := 7) (N := none) #[yq,yq,yq,yq,yq,yq,yq,yq] rfl rfl (by kernel_rfl) (by decide) (fun Kc hK => ?_)
      refine skip_ (w1 := ?_) (by rfl) rfl ?_ ?_
      rotate_left
      · go_simp
        rfl
      refine hK.out _ _ ?_
      clear hK Kc
      refine done_ (by kernel_rfl) ?_
      clear hx8 y0 y1 y2 y3 y4 y5 hHeld
      have HW := HG8
      clear HG8
      obtain ⟨w9, hw9⟩ : ∃ W, w8.setCell ⟨gw, 1, none⟩ (.slice A8 (G.length + 1) c8) = W := ⟨_, rfl⟩
      rw [hw9] at HW ⊢
      clear hw9
      have HGO := Aside0.mk (show GOK (G ++ [x]) from fun f hf => (List.mem_append.1 hf).elim (HI.out.2.2.2.1 f) (fun hf => by rw [List.mem_singleton.1 hf]; omega))
      obtain ⟨AI, cI, hvI⟩ := Kd.R_slice HW.out.i
      subst hvI
      go_wp2_with (fail)
      refine (T_next w9 w gs L4 4 (by omega) HW.out.s HW.out.b).mono ?_
      rintro e w10 ⟨z, L5, rfl, hz, HN⟩
      have HW := Aside0.mk (HW.out.next HN.out)
      obtain ⟨y0, y1, y2, y3, y4, y5⟩ := cells3 HW.out.x
      clear hz HN
      have hwrap : IntKind.i64.wrap ((i : Int) + 1) = (i : Int) + 1 := by rw [IntKind.wrap_i64]; omega
      by_cases hz3 : z = 3
      · have d1 : (z == 3) = true := by simp [hz3]
        subst hz3
        go_wp2_with (fail)
        go_roundg (n.toNat - (i + 1))
        case measure => have := HI.out.1; omega
        case rel => exact ⟨_, _, G ++ [x], I, i + 1, L5, congrArg (Value.int .i64) (by omega), ⟨by omega, by omega, by rw [List.length_append, HI.out.2.2.1]; rfl, HGO.out, HI.out.2.2.2.2⟩, HW⟩
      · have d1 : (z == 3) = false := by simp [hz3]
        by_cases h8 : I.length = 8
        · have d2 : ((I.length : Int) == 8) = true := by simp [h8]
          go_wp2_with (fail)
          go_roundg (n.toNat - (i + 1))
          case measure => have := HI.out.1; omega
          case rel => exact ⟨_, _, G ++ [x], I, i + 1, L5, congrArg (Value.int .i64) (by omega), ⟨by omega, by omega, by rw [List.length_append, HI.out.2.2.1]; rfl, HGO.out, HI.out.2.2.2.2⟩, HW⟩
        · have d2 : ((I.length : Int) == 8) = false := by simp; omega
          go_upto_region 8 with (fail)
          have hl : i < (G ++ [x]).length := by rw [List.length_append, HI.out.2.2.1]; simp
          have HGC := Aside0.mk (show ∀ W, Kd.R (Kd.int .i64) 3 W w.heap.size (fun _ => True) (.slice A8 (G.length + 1) c8) (G ++ [x]) → ∃ g8, A8 = some ⟨g8, 0, none⟩ ∧ W.cell? ⟨g8, i, none⟩ = some (.int .i64 (rd (G ++ [x]) (i : Int))) from fun W h => by
            obtain ⟨g8, cap8, e8, _, _, _⟩ := Kd.R_form h (by simp)
            injection e8 with e8 _ _
            subst e8
            exact ⟨g8, rfl, gcell h i hl⟩)
          have HGV := Aside0.mk (HGO.out _ (rd_mem hl))
          obtain ⟨g8, e8, _⟩ := HGC.out _ HW.out.g
          subst e8
          generalize rd (G ++ [x]) (i : Int) = gv at HGC HGV
          have HGC := Aside0.mk (show ∀ W, Kd.R (Kd.int .i64) 3 W w.heap.size (fun _ => True) (.slice (some ⟨g8, 0, none⟩) (G.length + 1) c8) (G ++ [x]) → W.cell? ⟨g8, i, none⟩ = some (.int .i64 gv) from fun W h => by
            obtain ⟨g9, e9, h9⟩ := HGC.out W h
            injection e9 with e9
            injection e9 with e9
            subst e9
            exact h9)
          have i12 : (i : Int) < (G.length : Int) + 1 := by have := HI.out.2.2.1; omega
          clear hl y0 y1 y2 y3 y4 y5
          have HW := Aside0.mk (HW.out.below (below_drew1 (Below.refl _ _)))
          refine start_ (n := 18) (S := fun w' => w'.cell? ⟨gw, 0, none⟩ = some (.slice AK K.length cK) ∧ w'.cell? ⟨gw, 1, none⟩ = some (.slice (some ⟨g8, 0, none⟩) (G.length + 1) c8) ∧ w'.cell? ⟨gw, 2, none⟩ = some (.slice AI I.length cI) ∧ w'.cell? ⟨g8, i, none⟩ = some (.int .i64 gv)) (ds := [17]) #[nq,nq,nq,nq,nq,nq,nq,nq,nq,nq,nq,nq,nq,nq,nq,nq,nq,nq] (by kernel_rfl) rfl rfl ⟨(blk_cell HW.out.x 0).trans rfl, (blk_cell HW.out.x 1).trans rfl, (blk_cell HW.out.x 2).trans rfl, HGC.out _ HW.out.g⟩ (fun hHeld => ?_)
          generalize w10.drew = w11 at HW hHeld ⊢
          refine pure_ (i := 0) (N := some 33) (v := ?_) (a' := ?_) #[yq,nq,nq,nq,nq,nq,nq,nq,nq,nq,nq,nq,nq,nq,nq,nq,nq,nq] rfl rfl (by kernel_rfl) (fun _ _ _ h => h) (Or.inl ⟨by rfl, ?_⟩) ?_ ?_
          rotate_left
          · intro w'
            go_simp
            with_reducible rfl
          rotate_left
          · simp only [Act.put, List.setIfInBounds_toArray, List.set_cons_zero, List.set_cons_succ, i64_w, i32_w]
            rfl
          refine pure_ (i := 2) (N := some 35) (v := ?_) (a' := ?_) #[yq,nq,yq,nq,nq,nq,nq,nq,nq,nq,nq,nq,nq,nq,nq,nq,nq,nq] rfl rfl (by kernel_rfl) (fun _ _ _ h => h) (Or.inl ⟨by rfl, ?_⟩) ?_ ?_
          rotate_left
          · intro w'
            go_simp
            with_reducible rfl
          rotate_left
          · simp only [Act.put, List.setIfInBounds_toArray, List.set_cons_zero, List.set_cons_succ, i64_w, i32_w]
            rfl
          refine pure_ (i := 3) (N := some 36) (v := ?_) (a' := ?_) #[yq,nq,yq,yq,nq,nq,nq,nq,nq,nq,nq,nq,nq,nq,nq,nq,nq,nq] rfl rfl (by kernel_rfl) (fun _ _ _ h => h) (Or.inl ⟨by rfl, ?_⟩) ?_ ?_
          rotate_left
          · intro w'
            go_simp
            with_reducible rfl
          rotate_left
          · simp only [Act.put, List.setIfInBounds_toArray, List.set_cons_zero, List.set_cons_succ, i64_w, i32_w]
            rfl
          refine pure_ (i := 5) (N := some 38) (v := ?_) (a' := ?_) #[yq,nq,yq,yq,nq,yq,nq,nq,nq,nq,nq,nq,nq,nq,nq,nq,nq,nq] rfl rfl (by kernel_rfl) (fun _ _ _ h => h) (Or.inl ⟨by rfl, ?_⟩) ?_ ?_
          rotate_left
          · intro w'
            go_simp
            with_reducible rfl
          rotate_left
          · simp only [Act.put, List.setIfInBounds_toArray, List.set_cons_zero, List.set_cons_succ, i64_w, i32_w]
            rfl
          refine pure_ (i := 9) (N := some 42) (v := ?_) (a' := ?_) #[yq,nq,yq,yq,nq,yq,nq,nq,nq,yq,nq,nq,nq,nq,nq,nq,nq,nq] rfl rfl (by kernel_rfl) (fun _ _ _ h => h) (Or.inl ⟨by rfl, ?_⟩) ?_ ?_
          rotate_left
          · intro w'
            go_simp
            with_reducible rfl
          rotate_left
          · simp only [Act.put, List.setIfInBounds_toArray, List.set_cons_zero, List.set_cons_succ, i64_w, i32_w]
            rfl
          refine pure_ (i := 11) (N := some 44) (v := ?_) (a' := ?_) #[yq,nq,yq,yq,nq,yq,nq,nq,nq,yq,nq,yq,nq,nq,nq,nq,nq,nq] rfl rfl (by kernel_rfl) (fun _ _ _ h => h) (Or.inl ⟨by rfl, ?_⟩) ?_ ?_
          rotate_left
          · intro w'
            go_simp
            with_reducible rfl
          rotate_left
          · simp only [Act.put, List.setIfInBounds_toArray, List.set_cons_zero, List.set_cons_succ, i64_w, i32_w]
            rfl
          refine take_ (i := 1) (N := some 34) (v := ?_) (a' := ?_) #[yq,yq,yq,yq,nq,yq,nq,nq,nq,yq,nq,yq,nq,nq,nq,nq,nq,nq] rfl rfl (by kernel_rfl) (fun _ _ _ h => h) (Or.inl ⟨by rfl, ?_⟩) hHeld ?_ ?_
          rotate_left
          · rintro w' ⟨s0, s1, s2, s3⟩
            go_simp
            with_reducible rfl
          rotate_left
          · simp only [Act.put, List.setIfInBounds_toArray, List.set_cons_zero, List.set_cons_succ, i64_w, i32_w]
            rfl
          refine take_ (i := 4) (N := some 37) (v := ?_) (a' := ?_) #[yq,yq,yq,yq,yq,yq,nq,nq,nq,yq,nq,yq,nq,nq,nq,nq,nq,nq] rfl rfl (by kernel_rfl) (fun _ _ _ h => h) (Or.inl ⟨by rfl, ?_⟩) hHeld ?_ ?_
          rotate_left
          · rintro w' ⟨s0, s1, s2, s3⟩
            go_simp
            with_reducible rfl
          rotate_left
          · simp only [Act.put, List.setIfInBounds_toArray, List.set_cons_zero, List.set_cons_succ, i64_w, i32_w]
            rfl
          refine take_ (i := 10) (N := some 43) (v := ?_) (a' := ?_) #[yq,yq,yq,yq,yq,yq,nq,nq,nq,yq,yq,yq,nq,nq,nq,nq,nq,nq] rfl rfl (by kernel_rfl) (fun _ _ _ h => h) (Or.inl ⟨by rfl, ?_⟩) hHeld ?_ ?_
          rotate_left
          · rintro w' ⟨s0, s1, s2, s3⟩
            go_simp
            with_reducible rfl
          rotate_left
          · simp only [Act.put, List.setIfInBounds_toArray, List.set_cons_zero, List.set_cons_succ, i64_w, i32_w]
            rfl
          refine pure_ (i := 6) (N := some 39) (v := ?_) (a' := ?_) #[yq,yq,yq,yq,yq,yq,yq,nq,nq,yq,yq,yq,nq,nq,nq,nq,nq,nq] rfl rfl (by kernel_rfl) (fun _ _ _ h => h) (Or.inl ⟨by rfl, ?_⟩) ?_ ?_
          rotate_left
          · intro w'
            go_simp
            with_reducible rfl
          rotate_left
          · simp only [Act.put, List.setIfInBounds_toArray, List.set_cons_zero, List.set_cons_succ, i64_w, i32_w]
            rfl
          refine take_ (i := 7) (N := some 40) (v := ?_) (a' := ?_) #[yq,yq,yq,yq,yq,yq,yq,yq,nq,yq,yq,yq,nq,nq,nq,nq,nq,nq] rfl rfl (by kernel_rfl) (fun _ _ _ h => h) (Or.inl ⟨by rfl, ?_⟩) hHeld ?_ ?_
          rotate_left
          · rintro w' ⟨s0, s1, s2, s3⟩
            go_simp
            with_reducible rfl
          rotate_left
          · simp only [Act.put, List.setIfInBounds_toArray, List.set_cons_zero, List.set_cons_succ, i64_w, i32_w]
            rfl
          refine pure_ (i := 8) (N := some 41) (v := ?_) (a' := ?_) #[yq,yq,yq,yq,yq,yq,yq,yq,yq,yq,yq,yq,nq,nq,nq,nq,nq,nq] rfl rfl (by kernel_rfl) (fun _ _ _ h => h) (Or.inl ⟨by rfl, ?_⟩) ?_ ?_
          rotate_left
          · intro w'
            go_simp
            with_reducible rfl
          rotate_left
          · simp only [Act.put, List.setIfInBounds_toArray, List.set_cons_zero, List.set_cons_succ, i64_w, i32_w]
            rfl
          have HLT := Aside0.mk (And.intro (Kd.R_lt HW.out.g) (Kd.R_lt HW.out.i))
          refine one_ (i := 12) (N := some 45) #[yq,yq,yq,yq,yq,yq,yq,yq,yq,yq,yq,yq,yq,nq,nq,nq,nq,nq] rfl rfl (by kernel_rfl) (by decide) (fun Kc hK => ?_)
          refine goes_ Try.func20 (by kernel_rfl) rfl #[.slice AK K.length cK, .pointer (some ⟨gs, 0, none⟩)] (by rfl) rfl rfl (by (try simp only [List.map_toArray, List.map_cons, List.map_nil]); first | done | rfl) ?_
          refine (T_comps w11 w gs L5 _ K (fun _ => True) HW.out.k HKO.out.2.2 HKO.out.2.1 HW.out.s HW.out.b).mono ?_
          rintro e w12 ⟨vC, C, rfl, hCO, HNC⟩
          refine ⟨_, rfl, ?_⟩
          obtain ⟨AC, cC, hvC⟩ := Kd.R_slice HNC.out.1
          subst hvC
          obtain ⟨L6, hS6⟩ := HNC.out.2.1
          have HW := Aside0.mk (HW.out.next (And.intro hS6 HNC.out.2.2))
          have HRC := Aside0.mk HNC.out.1
          clear HNC hS6
          refine hK.out _ _ ⟨(blk_cell HW.out.x 0).trans rfl, (blk_cell HW.out.x 1).trans rfl, (blk_cell HW.out.x 2).trans rfl, HGC.out _ HW.out.g⟩ (fun hHeld => ?_)
          clear hK Kc
          refine norm_ (a' := ?_) ?_ ?_
          rotate_left
          · show Act.put _ (some 45) _ = _
            simp only [Act.put, List.setIfInBounds_toArray, List.set_cons_zero, List.set_cons_succ, i64_w, i32_w]
            rfl
          refine pure_ (i := 13) (N := some 46) (v := ?_) (a' := ?_) #[yq,yq,yq,yq,yq,yq,yq,yq,yq,yq,yq,yq,yq,yq,nq,nq,nq,nq] rfl rfl (by kernel_rfl) (fun _ _ _ h => h) (Or.inl ⟨by rfl, ?_⟩) ?_ ?_
          rotate_left
          · intro w'
            go_simp
            with_reducible rfl
          rotate_left
          · simp only [Act.put, List.setIfInBounds_toArray, List.set_cons_zero, List.set_cons_succ, i64_w, i32_w]
            rfl
          refine one_ (i := 14) (N := some 47) #[yq,yq,yq,yq,yq,yq,yq,yq,yq,yq,yq,yq,yq,yq,yq,nq,nq,nq] rfl rfl (by kernel_rfl) (by decide) (fun Kc hK => ?_)
          refine event_step (by rfl) (v := .slice (some ⟨w12.heap.size, 0, none⟩) 1 1) (w1 := w12.alloc (.cells #[.int .i64 (i : Int), .int .i64 gv, .slice AC C.length cC] 34)) ?hr ?_
          case hr => first | (go_simp; done) | (go_simp; rfl)
          refine hK.out _ _ ⟨(blk_cell (blk_alloc HW.out.x _) 0).trans rfl, (blk_cell (blk_alloc HW.out.x _) 1).trans rfl, (blk_cell (blk_alloc HW.out.x _) 2).trans rfl, HGC.out _ (Kd.R_alloc HW.out.g _)⟩ (fun hHeld => ?_)
          clear hK Kc
          refine norm_ (a' := ?_) ?_ ?_
          rotate_left
          · show Act.put _ (some 47) _ = _
            simp only [Act.put, List.setIfInBounds_toArray, List.set_cons_zero, List.set_cons_succ, i64_w, i32_w]
            rfl
          refine one_ (i := 15) (N := some 48) #[yq,yq,yq,yq,yq,yq,yq,yq,yq,yq,yq,yq,yq,yq,yq,yq,nq,nq] rfl rfl (by kernel_rfl) (by decide) (fun Kc hK => ?_)
          refine Kd.R_append_step k34 (w0 := w) (W := w12) w.heap.size (by rfl) (.tmp 34) (.tmp 47) 25 34 (.agg #[.int .i64 0, .int .i64 0, .slice none 0 0]) 40 rfl Try.underlying25 info34' rfl (by decide) (by decide) (.slice AI I.length cI) I (⟨⟨(i : Int), gv⟩, C⟩ : S34) [.int .i64 (i : Int), .int .i64 gv, .slice AC C.length cC] (fun k => some k ≠ (Value.slice (some ⟨g8, 0, none⟩) (G.length + 1) c8).ownBlock) (fun k => w11.heap.size ≤ k) rfl rfl (k34_mkM _ _ _ _ HRC.out) (fun k hk => ⟨fun e => by have := HLT.out.1 k e.symm; omega, fun e => by have := HLT.out.2 k e.symm; omega⟩) (Kd.fresh_ok HW.out.g) HW.out.i HW.out.b (below_size HW.out.b) (by have := HI.out.2.2.2.2.1; omega) ?_
          intro v13 w13 ho hb hg hat
          obtain ⟨A13, c13, hv13⟩ := Kd.R_slice ho
          rw [List.length_append, List.length_singleton] at hv13
          subst hv13
          have HG13 := Aside0.mk (HW.out.growI ho hb hg)
          have hx13 := blk_grown HW.out.x hg (Kd.R_ne HW.out.i HW.out.x (by decide))
          have hg13 := HGC.out _ (Kd.R_mono (Kd.R_grown (Kd.R_apartR HW.out.g HW.out.i (no3 (by decide))) hg (fun k hk => hk.2)) (fun k hk => hk.1))
          obtain ⟨y0, y1, y2, y3, y4, y5⟩ := cells3 hx13
          clear ho hb hg hat HW
          refine hK.out _ _ ⟨(blk_cell hx13 0).trans rfl, (blk_cell hx13 1).trans rfl, (blk_cell hx13 2).trans rfl, hg13⟩ (fun hHeld => ?_)
          clear hK Kc
          refine norm_ (a' := ?_) ?_ ?_
          rotate_left
          · show Act.put _ (some 48) _ = _
            simp only [Act.put, List.setIfInBounds_toArray, List.set_cons_zero, List.set_cons_succ, i64_w, i32_w]
            rfl
          refine pure_ (i := 16) (N := some 49) (v := ?_) (a' := ?_) #[yq,yq,yq,yq,yq,yq,yq,yq,yq,yq,yq,yq,yq,yq,yq,yq,yq,nq] rfl rfl (by kernel_rfl) (fun _ _ _ h => h) (Or.inl ⟨by rfl, ?_⟩) ?_ ?_
          rotate_left
          · intro w'
            go_simp
            with_reducible rfl
          rotate_left
          · simp only [Act.put, List.setIfInBounds_toArray, List.set_cons_zero, List.set_cons_succ, i64_w, i32_w]
            rfl
          refine last_ (i := 17) (N := none) #[yq,yq,yq,yq,yq,yq,yq,yq,yq,yq,yq,yq,yq,yq,yq,yq,yq,yq] rfl rfl (by kernel_rfl) (by decide) (fun Kc hK => ?_)
          refine skip_ (w1 := ?_) (by rfl) rfl ?_ ?_
          rotate_left
          · go_simp
            rfl
          refine hK.out _ _ ?_
          clear hK Kc
          refine done_ (by kernel_rfl) ?_
          clear hx13 hg13 y0 y1 y2 y3 y4 y5 hHeld
          go_wp2
          go_roundg (n.toNat - (i + 1))
          case measure => have := HI.out.1; omega
          case rel => exact ⟨_, _, G ++ [x], I ++ [⟨⟨(i : Int), gv⟩, C⟩], i + 1, L6, congrArg (Value.int .i64) (by omega), ⟨by omega, by omega, by rw [List.length_append, HI.out.2.2.1]; rfl, HGO.out, by rw [List.length_append, List.length_singleton]; have := HI.out.2.2.2.2.1; omega, fun f hf => (List.mem_append.1 hf).elim (HI.out.2.2.2.2.2 f) (fun hf => by rw [List.mem_singleton.1 hf]; exact ⟨i0, by show (i : Int) ≤ 11; omega, HGV.out.1, HGV.out.2, hCO.out⟩)⟩, HG13⟩
    · have hix : ¬ ((i : Int) < n) := hi
      obtain ⟨x0, x1, x2, x3, x4, x5⟩ := cells3 HW.out.x
      obtain ⟨y0, y1, y2, y3, y4, y5⟩ := cells3 HW.out.r
      have hne := HW.out.rw
      obtain ⟨AG, cG, hvG⟩ := Kd.R_slice HW.out.g
      obtain ⟨AI, cI, hvI⟩ := Kd.R_slice HW.out.i
      subst hvG hvI
      go_wp2_with (fail)
      have HO := Aside0.mk (show WorldOK K G I from ⟨HKO.out.1, HKO.out.2.1, HKO.out.2.2, by have := HI.out.2.2.1; have := HI.out.2.1; omega, HI.out.2.2.2.1, HI.out.2.2.2.2.1, HI.out.2.2.2.2.2⟩)
      refine bodyPost_ret (results_cell_row rfl _ _ gr 27 #[.slice AK K.length cK, .slice AG G.length cG, .slice AI I.length cI] (0, 0) _ rfl (put3 HW.out.r) Try.underlying27 rfl (by kernel_rfl)) rfl ?_
      exact ⟨_, _, _, K, G, I, rfl, HO, ⟨R_set3 HW.out.k HW.out.r (no55 (by decide) (by decide)) _ _ _, R_set3 HW.out.g HW.out.r (no3 (by decide)) _ _ _, Kd.R_mono (R_set3 HW.out.i HW.out.r (no34 (by decide) (by decide) (by decide)) _ _ _) (fun _ _ => trivial), below_set (below_set (below_set HW.out.b HW.out.wr) HW.out.wr) HW.out.wr⟩⟩

end Go.Proofs.Ytlbicibihdkpnaa.P
