/- Package raster, in plain Lean: Hits answers for every checked thing. Package raster, in plain Lean: what Picture draws: at each pixel the color of the last thing that covers it. Packages cull and raster, in plain Lean: what Draw hands on, and that what a view leaves out covers no pixel of its area. Package raster, in plain Lean: tiles, and the picture that is drawn tile by tile. TopPictures: what its numbers, its things and its check answer. No condition. TopPictures: the law of its last lines. Condition: the things are checked, the area is one. -/
import Derived.Test.YtffbonfgbmohdaaPAllx8
import Derived.Test.YtffbonfgbmohdaaPAllx9
import Derived.Test.YtffbonfgbmohdaaPM2
import Derived.Test.YtffbonfgbmohdaaPAllx25
import Derived.Test.YtffbonfgbmohdaaPAllx26
import Derived.Test.YtffbonfgbmohdaaPAllx11
import Derived.Test.YtffbonfgbmohdaaPAllx12
import Derived.Test.YtffbonfgbmohdaaPAllx1
import Derived.Test.YtffbonfgbmohdaaPAllx13
import Derived.Test.YtffbonfgbmohdaaPAllx10
namespace Go.Proofs.Ytffbonfgbmohdaa.P
open Go Go.RowKit Go.Proofs.YtffbonfgbmohdaaW.PrintWords Go.Proofs.YtffbonfgbmohdaaW.PrintLast Go.Proofs.YtffbonfgbmohdaaW.PrintMore
set_option linter.unusedVariables false
set_option linter.unusedSimpArgs false

theorem lift_k {α : Type} {g : Nat → Option α} (hm : ∀ k, LeO (g k) (g (k + 1))) {k0 : Nat} {r : α} (h : g k0 = some r) : ∀ k, k0 ≤ k → g k = some r := by
  intro k hk
  induction k with
  | zero => rw [show k0 = 0 by omega] at h; exact h
  | succ k ih =>
    by_cases e : k0 = k + 1
    · exact e ▸ h
    · exact hm k r (ih (by omega))
theorem floor_some (a b : Int) (hb : b ≠ 0) : ∃ r, raster_floor.f a b = some r := by
  unfold raster_floor.f
  rw [if_neg hb]
  split <;> exact ⟨_, rfl⟩
theorem floor_f (a : Int) (h0 : -1000000000000 ≤ a) (h1 : a ≤ 1000000000000) : raster_floor.f a 65536 = some (a / 65536) := by
  unfold raster_floor.f
  rw [if_neg (by decide)]
  rcases Int.le_total 0 a with h | h
  · rw [Int.tmod_eq_emod_of_nonneg h, Int.tdiv_eq_ediv_of_nonneg h, if_neg (by omega)]
    congr 1
    unfold wrap64
    omega
  · obtain ⟨n, rfl⟩ : ∃ n, a = -n := ⟨-a, by omega⟩
    rw [Int.neg_tmod, Int.neg_tdiv, Int.tmod_eq_emod_of_nonneg (by omega), Int.tdiv_eq_ediv_of_nonneg (by omega)]
    split
    · congr 1
      unfold wrap64
      omega
    · congr 1
      unfold wrap64
      omega
theorem pixel_f (x y : Int) (hx0 : -1000000000000 ≤ x) (hx1 : x ≤ 1000000000000) (hy0 : -1000000000000 ≤ y) (hy1 : y ≤ 1000000000000) : raster_pixel.f x y = some (x / 65536, y / 65536) := by
  unfold raster_pixel.f
  rw [floor_f x hx0 hx1, floor_f y hy0 hy1]
  rfl
theorem on_j2 (x2 x3 x9 x10 x13 x14 : Int) (b : Bool) (h0 : -10000 ≤ x13) (h1 : x13 ≤ 10000) (k : Nat) : ∃ r, raster_on.j2 (k + 1) x2 x3 x9 x10 x13 x14 b = some r := by
  simp only [raster_on.j2]
  split
  · exact ⟨_, rfl⟩
  · split
    · exact ⟨_, rfl⟩
    · obtain ⟨r, e⟩ := floor_some (wrap64 ((wrap64 ((wrap64 (2 * x14)) * (wrap64 (x2 - x9)))) + x13)) (wrap64 (2 * x13)) (by unfold wrap64; omega)
      rw [e]
      exact ⟨_, rfl⟩
theorem on_j1 (x2 x3 x9 x10 x11 x13 x14 : Int) (h0 : -10000 ≤ x13) (h1 : x13 ≤ 10000) (k : Nat) : ∃ r, raster_on.j1 (k + 2) x2 x3 x9 x10 x11 x13 x14 = some r := by
  simp only [raster_on.j1]
  split
  · exact on_j2 _ _ _ _ _ _ _ h0 h1 k
  · exact on_j2 _ _ _ _ _ _ _ h0 h1 k
theorem on_j0 (x2 x3 x9 x10 x11 x12 x13 x14 : Int) (h0 : -10000 ≤ x13) (h1 : x13 ≤ 10000) (k : Nat) : ∃ r, raster_on.j0 (k + 3) x2 x3 x9 x10 x11 x12 x13 x14 = some r := by
  simp only [raster_on.j0]
  split
  · exact on_j1 _ _ _ _ _ _ _ (by unfold wrap64; omega) (by unfold wrap64; omega) k
  · exact on_j1 _ _ _ _ _ _ _ h0 h1 k
theorem on_some (a b : S43) (x y : Int) (ha : InP a) (hb : InP b) (k : Nat) : ∃ r, raster_on.f (k + 3) a.f0 a.f1 b.f0 b.f1 x y = some r := by
  unfold InP at ha hb
  unfold raster_on.f
  rw [pixel_f a.f0 a.f1 (by omega) (by omega) (by omega) (by omega), Option.bind_some, pixel_f b.f0 b.f1 (by omega) (by omega) (by omega) (by omega), Option.bind_some]
  split
  · exact on_j0 _ _ _ _ _ _ _ _ (by unfold wrap64; omega) (by unfold wrap64; omega) k
  · exact on_j0 _ _ _ _ _ _ _ _ (by unfold wrap64; omega) (by unfold wrap64; omega) k
/-- a thing covers a pixel -/
def hitB (t : S26) (x y : Int) : Bool := (raster_Hits.f 50 t.f0 t.f1 t.f2 t.f3 x y).getD false
theorem hits_j0 (t : S26) (h : OKT t) (x y : Int) (b : Bool) : ∃ r, raster_Hits.j0 (49 + 1) x y b t.f0 t.f1 t.f2 t.f3 = some r := by
  have hl := okt_len h
  simp only [raster_Hits.j0]
  split
  · exact ⟨_, rfl⟩
  · split
    · rw [if_pos (by omega), if_pos (by omega)]
      obtain ⟨r, e⟩ := on_some (rd_T43 t.f3 0) (rd_T43 t.f3 1) x y (h.2.2.2.2.2.2 _ (rd43_mem (i := 0) (by omega))) (h.2.2.2.2.2.2 _ (rd43_mem (i := 1) (by omega))) 46
      rw [e]
      exact ⟨_, rfl⟩
    · have : t.f3.length = 3 := by omega
      unfold raster_covers.f
      rw [if_pos this]
      exact ⟨_, rfl⟩
theorem hits_f {t : S26} (h : OKT t) (x y : Int) : ∀ k, 50 ≤ k → raster_Hits.f k t.f0 t.f1 t.f2 t.f3 x y = some (hitB t x y) := by
  refine lift_k (g := fun k => raster_Hits.f k t.f0 t.f1 t.f2 t.f3 x y) (fun k => raster_Hits.mono _ _ _ _ _ _ k) ?_
  have : ∃ r, raster_Hits.f 50 t.f0 t.f1 t.f2 t.f3 x y = some r := by
    unfold raster_Hits.f
    rw [okt_check h 50 (by omega), Option.bind_some, if_pos rfl]
    split
    · exact hits_j0 t h x y true
    · exact hits_j0 t h x y _
  obtain ⟨r, e⟩ := this
  show raster_Hits.f 50 t.f0 t.f1 t.f2 t.f3 x y = _
  unfold hitB
  rw [e]
  rfl
end Go.Proofs.Ytffbonfgbmohdaa.P
namespace Go.Proofs.Ytffbonfgbmohdaa.P
open Go Go.RowKit Go.Proofs.YtffbonfgbmohdaaW.PrintWords Go.Proofs.YtffbonfgbmohdaaW.PrintLast Go.Proofs.YtffbonfgbmohdaaW.PrintMore
set_option linter.unusedVariables false
set_option linter.unusedSimpArgs false

def Ev (P : Nat → Prop) : Prop := ∃ K, ∀ k, K ≤ k → P k
theorem Ev.succ {P Q : Nat → Prop} (h : Ev P) (hPQ : ∀ k, 50 ≤ k → P k → Q (k + 1)) : Ev Q := by
  obtain ⟨K, h⟩ := h
  refine ⟨K + 51, fun k hk => ?_⟩
  obtain ⟨j, rfl⟩ : ∃ j, k = j + 1 := ⟨k - 1, by omega⟩
  exact hPQ j (by omega) (h j (by omega))
/-- the pixels of a picture -/
def Inv (w h : Nat) (out : List Int) (c : Nat → Nat → Int) : Prop := out.length = w * h ∧ ∀ a b, a < w → b < h → out.getD (b * w + a) 0 = c a b
theorem Inv.congr {w h : Nat} {out : List Int} {c c' : Nat → Nat → Int} (hI : Inv w h out c) (he : ∀ a b, a < w → b < h → c a b = c' a b) : Inv w h out c' :=
  ⟨hI.1, fun a b ha hb => (hI.2 a b ha hb).trans (he a b ha hb)⟩
theorem idx_inj {w a b a' b' : Nat} (ha : a < w) (ha' : a' < w) (e : b * w + a = b' * w + a') : a = a' ∧ b = b' := by
  have h1 : (a + b * w) / w = b := by rw [Nat.add_mul_div_right _ _ (by omega), Nat.div_eq_of_lt ha, Nat.zero_add]
  have h2 : (a' + b' * w) / w = b' := by rw [Nat.add_mul_div_right _ _ (by omega), Nat.div_eq_of_lt ha', Nat.zero_add]
  have hb : b = b' := by rw [← h1, ← h2, Nat.add_comm a, e, Nat.add_comm]
  subst hb
  exact ⟨by omega, rfl⟩
theorem idx_lt {w h a b : Nat} (ha : a < w) (hb : b < h) : b * w + a < w * h := by
  have : (b + 1) * w ≤ h * w := Nat.mul_le_mul_right w hb
  rw [Nat.add_mul, Nat.one_mul] at this
  rw [Nat.mul_comm w h]
  omega
theorem Inv.put {w h : Nat} {out : List Int} {c : Nat → Nat → Int} (hI : Inv w h out c) {a0 b0 : Nat} (ha0 : a0 < w) (hb0 : b0 < h) (v : Int) :
    Inv w h (out.set (b0 * w + a0) v) (fun a b => if a = a0 ∧ b = b0 then v else c a b) := by
  refine ⟨by rw [List.length_set]; exact hI.1, fun a b ha hb => ?_⟩
  have hlt := idx_lt ha0 hb0
  show _ = if a = a0 ∧ b = b0 then v else c a b
  rw [List.getD_eq_getElem?_getD, List.getElem?_set]
  by_cases e : a = a0 ∧ b = b0
  · obtain ⟨rfl, rfl⟩ := e
    rw [if_pos rfl, if_pos (by rw [hI.1]; exact hlt)]
    simp
  · rw [if_neg (fun h => e (by obtain ⟨h1, h2⟩ := idx_inj ha0 ha h; exact ⟨h1.symm, h2.symm⟩)), if_neg e]
    have := hI.2 a b ha hb
    rwa [List.getD_eq_getElem?_getD] at this
/-- an area -/
structure OKA (X Y : Int) (w h : Nat) : Prop where
  w1 : 1 ≤ w
  w2 : w ≤ 64
  h1 : 1 ≤ h
  h2 : h ≤ 64
  x1 : -1000 ≤ X
  x2 : X ≤ 1000
  y1 : -1000 ≤ Y
  y2 : Y ≤ 1000
theorem okA_check {X Y : Int} {w h : Nat} (hA : OKA X Y w h) : ∀ k, 1 ≤ k → raster_Check.f k X Y w h = some 0 := by
  intro k hk
  obtain ⟨k, rfl⟩ : ∃ j, k = j + 1 := ⟨k - 1, by omega⟩
  obtain ⟨w1, w2, h1, h2, x1, x2, y1, y2⟩ := hA
  unfold raster_Check.f
  rw [if_neg (by omega), if_neg (by omega), if_neg (by omega), decide_eq_false (by omega)]
  simp only [raster_Check.j0]
  rw [if_neg (by simp), mn_eq, mx_eq, if_neg (by omega), if_neg (by omega)]
theorem pr_le {w h a b : Nat} (hw : w ≤ 64) (hb : b ≤ 64) : b * w ≤ 4096 := Nat.le_trans (Nat.mul_le_mul hb hw) (by decide)
theorem idx_eq {X Y : Int} {w h a b : Nat} (hA : OKA X Y w h) (ha : a < w) (hb : b < h) : wrap64 ((wrap64 ((wrap64 ((wrap64 ((Y + b) - Y)) * (w : Int))) + (X + a))) - X) = ((b * w + a : Nat) : Int) := by
  obtain ⟨w1, w2, h1, h2, x1, x2, y1, y2⟩ := hA
  have hp : b * w ≤ 4096 := pr_le (h := h) (a := a) w2 (by omega)
  rw [show wrap64 ((Y + b) - Y) = (b : Int) by unfold wrap64; omega, ← Int.natCast_mul]
  generalize b * w = p at hp
  unfold wrap64
  omega
def draws (t : S26) (x y : Int) : Bool := decide ((bo t).1 / 65536 ≤ x ∧ x ≤ (bo t).2.2.1 / 65536 ∧ (bo t).2.1 / 65536 ≤ y ∧ y ≤ (bo t).2.2.2 / 65536) && hitB t x y
/-- the color of a pixel -/
def colAt (ts : List S26) (c : Int) (x y : Int) : Int := ts.foldl (fun c t => if draws t x y then t.f2 else c) c
section
variable {X Y : Int} {w h : Nat} (hA : OKA X Y w h) (ts : List S26) (hts : ∀ t ∈ ts, OKT t) (hl : ts.length ≤ 400)
include hA
theorem L3 {t : S26} (ht : OKT t) (n i x0 x1 y1 : Int) (b : Nat) (hb : b < h) (cF : Nat → Nat → Int) :
    ∀ (d a : Nat) (out : List Int) (c : Nat → Nat → Int), (min x1 (X + w - 1) + 1 - (X + a)).toNat = d → Inv w h out c →
    (∀ out', Inv w h out' (fun a' b' => if b' = b ∧ a ≤ a' ∧ X + a' ≤ x1 ∧ hitB t (X + a') (Y + b) = true then t.f2 else c a' b') →
      ∃ o, Inv w h o cF ∧ Ev fun k => raster_Picture.l2 k out' x0 x1 y1 (Y + (b + 1 : Nat)) ts n i X Y w h t.f0 t.f1 t.f2 t.f3 = some (o, 0)) →
    ∃ o, Inv w h o cF ∧ Ev fun k => raster_Picture.l3 k out x0 x1 y1 (Y + b) (X + a) ts n i X Y w h t.f0 t.f1 t.f2 t.f3 = some (o, 0)
  | 0, a, out, c, hd, hI, H => by
    have hA' := hA
    obtain ⟨w1, w2, h1, h2, x1', x2, y1', y2⟩ := hA'
    obtain ⟨o, ho, he⟩ := H out (hI.congr fun a' b' ha' hb' => by rw [if_neg (by omega)])
    refine ⟨o, ho, he.succ fun k hk hq => ?_⟩
    simp only [raster_Picture.l3]
    rw [mn_eq, if_neg (by unfold wrap64; omega), show wrap64 ((Y + b) + 1) = Y + (b + 1 : Nat) by unfold wrap64; omega]
    exact hq
  | d + 1, a, out, c, hd, hI, H => by
    have hA' := hA
    obtain ⟨w1, w2, h1, h2, x1', x2, y1', y2⟩ := hA'
    have ha : a < w := by omega
    by_cases hh : hitB t (X + a) (Y + b) = true
    · obtain ⟨o, ho, he⟩ := L3 ht n i x0 x1 y1 b hb cF d (a + 1) (out.set (b * w + a) t.f2) _ (by omega) (hI.put ha hb t.f2) (fun out' h' => H out' (h'.congr fun a' b' ha' hb' => by
        by_cases e : a' = a ∧ b' = b
        · obtain ⟨rfl, rfl⟩ := e
          rw [if_neg (by omega), if_pos ⟨rfl, rfl⟩, if_pos ⟨rfl, Nat.le_refl _, by omega, hh⟩]
        · by_cases e2 : b' = b ∧ a ≤ a' ∧ X + a' ≤ x1 ∧ hitB t (X + a') (Y + b) = true
          · rw [if_pos ⟨e2.1, by omega, e2.2.2⟩, if_pos e2]
          · rw [if_neg (fun h => e2 ⟨h.1, by omega, h.2.2⟩), if_neg e, if_neg e2]))
      refine ⟨o, ho, he.succ fun k hk hq => ?_⟩
      simp only [raster_Picture.l3]
      rw [mn_eq, if_pos (by unfold wrap64; omega), hits_f ht _ _ k hk, Option.bind_some, if_pos hh, idx_eq hA ha hb, if_pos (by omega), if_pos (by rw [hI.1]; have := idx_lt ha hb; omega), Int.toNat_natCast,
        show wrap64 ((X + a) + 1) = X + (a + 1 : Nat) by unfold wrap64; omega]
      exact hq
    · obtain ⟨o, ho, he⟩ := L3 ht n i x0 x1 y1 b hb cF d (a + 1) out c (by omega) hI (fun out' h' => H out' (h'.congr fun a' b' ha' hb' => by
        by_cases e2 : b' = b ∧ a ≤ a' ∧ X + a' ≤ x1 ∧ hitB t (X + a') (Y + b) = true
        · have : a' ≠ a := fun e => hh (e ▸ e2.2.2.2)
          rw [if_pos ⟨e2.1, by omega, e2.2.2⟩, if_pos e2]
        · rw [if_neg (fun h => e2 ⟨h.1, by omega, h.2.2⟩), if_neg e2]))
      refine ⟨o, ho, he.succ fun k hk hq => ?_⟩
      simp only [raster_Picture.l3]
      rw [mn_eq, if_pos (by unfold wrap64; omega), hits_f ht _ _ k hk, Option.bind_some, if_neg hh,
        show wrap64 ((X + a) + 1) = X + (a + 1 : Nat) by unfold wrap64; omega]
      exact hq
theorem L2 {t : S26} (ht : OKT t) (n i x0 x1 y1 : Int) (hi : 0 ≤ i ∧ i < 1000) (a0 : Nat) (ha0 : mx x0 X = X + a0) (cF : Nat → Nat → Int) :
    ∀ (d b : Nat) (out : List Int) (c : Nat → Nat → Int), (min y1 (Y + h - 1) + 1 - (Y + b)).toNat = d → Inv w h out c →
    (∀ out', Inv w h out' (fun a' b' => if b ≤ b' ∧ Y + b' ≤ y1 ∧ a0 ≤ a' ∧ X + a' ≤ x1 ∧ hitB t (X + a') (Y + b') = true then t.f2 else c a' b') →
      ∃ o, Inv w h o cF ∧ Ev fun k => raster_Picture.l1 k out' ts n (i + 1) X Y w h = some (o, 0)) →
    ∃ o, Inv w h o cF ∧ Ev fun k => raster_Picture.l2 k out x0 x1 y1 (Y + b) ts n i X Y w h t.f0 t.f1 t.f2 t.f3 = some (o, 0)
  | 0, b, out, c, hd, hI, H => by
    have hA' := hA
    obtain ⟨w1, w2, h1, h2, x1', x2, y1', y2⟩ := hA'
    obtain ⟨o, ho, he⟩ := H out (hI.congr fun a' b' ha' hb' => by rw [if_neg (by omega)])
    refine ⟨o, ho, he.succ fun k hk hq => ?_⟩
    simp only [raster_Picture.l2]
    rw [mn_eq, if_neg (by unfold wrap64; omega), show wrap64 (i + 1) = i + 1 by unfold wrap64; omega]
    exact hq
  | d + 1, b, out, c, hd, hI, H => by
    have hA' := hA
    obtain ⟨w1, w2, h1, h2, x1', x2, y1', y2⟩ := hA'
    have hb : b < h := by omega
    obtain ⟨o, ho, he⟩ := L3 hA ts ht n i x0 x1 y1 b hb cF _ a0 out c rfl hI (fun out' h' => L2 ht n i x0 x1 y1 hi a0 ha0 cF d (b + 1) out' _ (by omega) h' (fun out2 h2' => H out2 (h2'.congr fun a' b' ha' hb' => by
      by_cases e : b' = b
      · subst e
        rw [if_neg (by omega)]
        by_cases e2 : a0 ≤ a' ∧ X + a' ≤ x1 ∧ hitB t (X + a') (Y + b') = true
        · rw [if_pos ⟨rfl, e2⟩, if_pos ⟨Nat.le_refl _, by omega, e2⟩]
        · rw [if_neg (fun h => e2 h.2), if_neg (fun h => e2 h.2.2)]
      · by_cases e2 : b ≤ b' ∧ Y + b' ≤ y1 ∧ a0 ≤ a' ∧ X + a' ≤ x1 ∧ hitB t (X + a') (Y + b') = true
        · rw [if_pos ⟨by omega, e2.2⟩, if_pos e2]
        · rw [if_neg (fun h => e2 ⟨by omega, h.2⟩), if_neg (fun h => e h.1), if_neg e2])))
    refine ⟨o, ho, he.succ fun k hk hq => ?_⟩
    simp only [raster_Picture.l2]
    rw [mn_eq, if_pos (by unfold wrap64; omega), ha0]
    exact hq
include hts hl
theorem L1 : ∀ (d i : Nat) (out : List Int) (c : Nat → Nat → Int), i + d = ts.length → Inv w h out c →
    ∃ o, Inv w h o (fun a b => colAt (ts.drop i) (c a b) (X + a) (Y + b)) ∧ Ev fun k => raster_Picture.l1 k out ts (ts.length : Int) (i : Int) X Y w h = some (o, 0)
  | 0, i, out, c, hd, hI => by
    refine ⟨out, hI.congr fun a b ha hb => by rw [List.drop_eq_nil_of_le (by omega)]; rfl, ⟨1, fun k hk => ?_⟩⟩
    obtain ⟨k, rfl⟩ : ∃ j, k = j + 1 := ⟨k - 1, by omega⟩
    simp only [raster_Picture.l1]
    rw [if_neg (by omega)]
  | d + 1, i, out, c, hd, hI => by
    have hm := rd26_mem (l := ts) (i := i) (by omega)
    have ht := hts _ hm
    obtain ⟨hib, hbd⟩ := bounds_some ht
    have hdr : ts.drop i = rd_T26 ts (i : Int) :: ts.drop (i + 1) := by
      rw [List.drop_eq_getElem_cons (by omega)]
      congr 1
      unfold rd_T26
      rw [Int.toNat_natCast, List.getD_eq_getElem?_getD, List.getElem?_eq_getElem (by omega)]
      rfl
    have hA' := hA
    obtain ⟨w1, w2, h1, h2, x1', x2, y1', y2⟩ := hA'
    obtain ⟨t, hT⟩ : ∃ t, rd_T26 ts (i : Int) = t := ⟨_, rfl⟩
    rw [hT] at hm ht hib hbd hdr
    unfold InBox at hib
    have hp1 := pixel_f (bo t).1 (bo t).2.1 (by omega) (by omega) (by omega) (by omega)
    have hp2 := pixel_f (bo t).2.2.1 (bo t).2.2.2 (by omega) (by omega) (by omega) (by omega)
    have hdw : ∀ x y, draws t x y = (decide ((bo t).1 / 65536 ≤ x ∧ x ≤ (bo t).2.2.1 / 65536 ∧ (bo t).2.1 / 65536 ≤ y ∧ y ≤ (bo t).2.2.2 / 65536) && hitB t x y) := fun x y => rfl
    generalize (bo t).1 / 65536 = x0 at hp1 hdw
    generalize (bo t).2.1 / 65536 = y0 at hp1 hdw
    generalize (bo t).2.2.1 / 65536 = x1 at hp2 hdw
    generalize (bo t).2.2.2 / 65536 = y1 at hp2 hdw
    obtain ⟨a0, ha0⟩ : ∃ a0 : Nat, mx x0 X = X + a0 := ⟨(max x0 X - X).toNat, by rw [mx_eq]; omega⟩
    obtain ⟨b0, hb0⟩ : ∃ b0 : Nat, mx y0 Y = Y + b0 := ⟨(max y0 Y - Y).toNat, by rw [mx_eq]; omega⟩
    obtain ⟨o, ho, he⟩ := L2 hA ts ht (ts.length : Int) (i : Int) x0 x1 y1 (by omega) a0 ha0 (fun a b => colAt (ts.drop i) (c a b) (X + a) (Y + b)) _ b0 out c rfl hI (fun out' h' => by
      obtain ⟨o, ho, he⟩ := L1 d (i + 1) out' _ (by omega) h'
      refine ⟨o, ho.congr fun a b ha hb => ?_, by rw [show ((i : Int) + 1) = ((i + 1 : Nat) : Int) by omega]; exact he⟩
      rw [hdr]
      show _ = colAt (ts.drop (i + 1)) (if draws t (X + a) (Y + b) then t.f2 else c a b) (X + a) (Y + b)
      congr 1
      rw [mx_eq] at ha0 hb0
      by_cases e : draws t (X + a) (Y + b) = true
      · rw [if_pos e]
        rw [hdw, Bool.and_eq_true, decide_eq_true_iff] at e
        rw [if_pos ⟨by omega, e.1.2.2.2, by omega, e.1.2.1, e.2⟩]
      · rw [if_neg e, if_neg]
        intro e2
        apply e
        rw [hdw, Bool.and_eq_true, decide_eq_true_iff]
        exact ⟨⟨by omega, e2.2.2.2.1, by omega, e2.2.1⟩, e2.2.2.2.2⟩)
    refine ⟨o, ho, he.succ fun k hk hq => ?_⟩
    simp only [raster_Picture.l1]
    rw [if_pos (by omega), if_pos (by omega), if_pos (by omega), hT, hbd k (by omega), Option.bind_some, hp1, Option.bind_some, hp2, Option.bind_some, hb0]
    exact hq
theorem L0 : ∀ (d i : Nat), i + d = ts.length →
    ∃ o, Inv w h o (fun a b => colAt ts 0 (X + a) (Y + b)) ∧ Ev fun k => raster_Picture.l0 k ts ts (ts.length : Int) (i : Int) X Y w h = some (o, 0)
  | 0, i, hd => by
    have hA' := hA
    obtain ⟨w1, w2, h1, h2, x1', x2, y1', y2⟩ := hA'
    obtain ⟨o, ho, he⟩ := L1 hA ts hts hl ts.length 0 (List.replicate (w * h) 0) (fun _ _ => 0) (by omega) ⟨by simp, fun a b ha hb => by
      rw [List.getD_eq_getElem?_getD, List.getElem?_replicate, if_pos (idx_lt ha hb)]; rfl⟩
    refine ⟨o, ho, he.succ fun k hk hq => ?_⟩
    simp only [raster_Picture.l0]
    have hp : w * h ≤ 4096 := pr_le (h := h) (a := 0) (w := h) (b := w) h2 w2
    have e : wrap64 ((w : Int) * (h : Int)) = ((w * h : Nat) : Int) := by
      rw [← Int.natCast_mul]
      generalize w * h = p at hp
      unfold wrap64
      omega
    rw [if_neg (by omega), okA_check hA k (by omega), Option.bind_some, if_pos rfl, e, if_pos (by omega), Int.toNat_natCast, if_pos (by omega)]
    exact hq
  | d + 1, i, hd => by
    obtain ⟨o, ho, he⟩ := L0 d (i + 1) (by omega)
    refine ⟨o, ho, he.succ fun k hk hq => ?_⟩
    simp only [raster_Picture.l0]
    rw [if_pos (by omega), if_pos (by omega), if_pos (by omega), okt_check (hts _ (rd26_mem (by omega))) k (by omega), Option.bind_some, if_pos rfl, show wrap64 ((i : Int) + 1) = ((i + 1 : Nat) : Int) by unfold wrap64; omega]
    exact hq
/-- Picture: each pixel has the color of the last thing that covers it. -/
theorem picture : ∃ o, Inv w h o (fun a b => colAt ts 0 (X + a) (Y + b)) ∧ Ev fun k => raster_Picture.f k ts X Y w h = some (o, 0) := by
  obtain ⟨o, ho, he⟩ := L0 hA ts hts hl ts.length 0 (by omega)
  refine ⟨o, ho, ?_⟩
  obtain ⟨K, he⟩ := he
  refine ⟨K, fun k hk => ?_⟩
  show raster_Picture.f k ts X Y w h = some (o, 0)
  unfold raster_Picture.f
  rw [if_neg (by omega)]
  exact he k hk
end
end Go.Proofs.Ytffbonfgbmohdaa.P
namespace Go.Proofs.Ytffbonfgbmohdaa.P
open Go Go.RowKit Go.Proofs.YtffbonfgbmohdaaW.PrintWords Go.Proofs.YtffbonfgbmohdaaW.PrintLast Go.Proofs.YtffbonfgbmohdaaW.PrintMore
set_option linter.unusedVariables false
set_option linter.unusedSimpArgs false

theorem inv_eq {w h : Nat} {o o' : List Int} {c : Nat → Nat → Int} (hw : 1 ≤ w) (h1 : Inv w h o c) (h2 : Inv w h o' c) : o = o' := by
  refine List.ext_getElem (h1.1.trans h2.1.symm) fun i hi hi' => ?_
  have hlt : i < w * h := h1.1 ▸ hi
  have hb : i / w < h := Nat.div_lt_of_lt_mul hlt
  have ha : i % w < w := Nat.mod_lt _ hw
  have e : i / w * w + i % w = i := by rw [Nat.mul_comm]; exact Nat.div_add_mod i w
  have e1 := h1.2 _ _ ha hb
  have e2 := h2.2 _ _ ha hb
  rw [e, List.getD_eq_getElem?_getD, List.getElem?_eq_getElem hi] at e1
  rw [e, List.getD_eq_getElem?_getD, List.getElem?_eq_getElem hi'] at e2
  exact e1.trans e2.symm
/-- the things that are drawn of l in a view -/
def drawn (b0 b1 b2 b3 : Int) (l : List S26) : List S26 := (srt (lay l) (metL b0 b1 b2 b3 l l.length)).map (fun i => rd_T26 l i)
theorem drawn_mem {b0 b1 b2 b3 : Int} {l : List S26} {t : S26} (h : t ∈ drawn b0 b1 b2 b3 l) : t ∈ l := by
  unfold drawn at h
  obtain ⟨i, hi, rfl⟩ := List.mem_map.1 h
  have := metL_mem ((srt_mem _ _ _).1 hi)
  obtain ⟨j, rfl⟩ : ∃ j : Nat, i = (j : Int) := ⟨i.toNat, by omega⟩
  exact rd26_mem (by omega)
theorem drawn_len (b0 b1 b2 b3 : Int) (l : List S26) : (drawn b0 b1 b2 b3 l).length ≤ l.length := by
  unfold drawn
  rw [List.length_map, srt_len]
  exact metL_len _ _ _ _ _ _
theorem draw_l0 (l : List S26) (hl : l.length < 20) (ho : ∀ t ∈ l, OKT t) (S : List Int) (hS : ∀ z ∈ S, 0 ≤ z ∧ z < (l.length : Int)) (hn : S.length ≤ 20) :
    ∀ (d j : Nat) (acc : List S26), j + d = S.length → acc.length = j → Ev fun k => cull_Draw.l0 k l S acc (S.length : Int) (j : Int) = some (acc ++ (S.drop j).map (fun i => rd_T26 l i), 0)
  | 0, j, acc, hd, ha => ⟨1, fun k hk => by
    obtain ⟨k, rfl⟩ : ∃ j, k = j + 1 := ⟨k - 1, by omega⟩
    simp only [cull_Draw.l0]
    rw [if_neg (by omega), List.drop_eq_nil_of_le (by omega), List.map_nil, List.append_nil]⟩
  | d + 1, j, acc, hd, ha => by
    have hj : j < S.length := by omega
    have e : rd S (j : Int) = S[j] := by unfold rd; rw [Int.toNat_natCast, List.getD_eq_getElem?_getD, List.getElem?_eq_getElem hj]; rfl
    have hz := hS _ (List.getElem_mem hj)
    have hot : OKT (rd_T26 l S[j]) := by
      generalize S[j] = z at hz
      obtain ⟨q, rfl⟩ : ∃ q : Nat, z = (q : Int) := ⟨z.toNat, by omega⟩
      exact ho _ (rd26_mem (by omega))
    refine (draw_l0 l hl ho S hS hn d (j + 1) (acc ++ [rd_T26 l S[j]]) (by omega) (by rw [List.length_append]; simp; omega)).succ fun k hk hq => ?_
    simp only [cull_Draw.l0]
    rw [if_pos (by omega), if_pos (by omega), if_pos (by omega), e, if_pos hz.1, if_pos hz.2]
    have hcl : api_Vec.f (rd_T26 l S[j]).f3 = some (rd_T26 l S[j]).f3 := by
      unfold api_Vec.f
      rw [if_pos (by have := okt_len hot; omega)]
    rw [hcl, Option.bind_some, if_pos (by omega), show wrap64 ((j : Int) + 1) = ((j + 1 : Nat) : Int) by unfold wrap64; omega]
    show cull_Draw.l0 k l S (acc ++ [rd_T26 l S[j]]) _ _ = _
    rw [hq, List.drop_eq_getElem_cons hj, List.map_cons, List.append_assoc]
    rfl
theorem draw_f (l : List S26) (hl : l.length < 20) (ho : ∀ t ∈ l, OKT t) (b0 b1 b2 b3 : Int) : Ev fun k => cull_Draw.f k l b0 b1 b2 b3 = some (drawn b0 b1 b2 b3 l, 0) := by
  obtain ⟨K, h⟩ := draw_l0 l hl ho (srt (lay l) (metL b0 b1 b2 b3 l l.length)) (fun z hz => metL_mem ((srt_mem _ _ _).1 hz)) (by rw [srt_len]; have := metL_len b0 b1 b2 b3 l l.length; omega) _ 0 [] (Nat.zero_add _) rfl
  refine ⟨K, fun k hk => ?_⟩
  show cull_Draw.f k l b0 b1 b2 b3 = _
  unfold cull_Draw.f cull_Seen.f
  rw [if_pos ⟨hl, ho⟩, Option.bind_some, if_pos rfl]
  exact h k hk
theorem colAt_filter (f : Int → S26) (p : Int → Bool) (x y : Int) : ∀ (L : List Int) (c : Int), (∀ i ∈ L, p i = false → draws (f i) x y = false) → colAt ((L.filter p).map f) c x y = colAt (L.map f) c x y
  | [], c, _ => rfl
  | i :: L, c, H => by
    by_cases h : p i = true
    · rw [List.filter_cons_of_pos h]
      exact colAt_filter f p x y L _ (fun j hj => H j (List.mem_cons_of_mem _ hj))
    · rw [List.filter_cons_of_neg h, colAt_filter f p x y L c (fun j hj => H j (List.mem_cons_of_mem _ hj))]
      have := H i List.mem_cons_self (by simpa using h)
      show _ = colAt (L.map f) (if draws (f i) x y then (f i).f2 else c) x y
      rw [this]
      rfl
/-- what a view leaves out covers no pixel of its area -/
theorem out_of_view {X Y : Int} {w h : Nat} (hA : OKA X Y w h) {t : S26} (ht : OKT t) (hm : meetB (X * 65536) (Y * 65536) ((X + w) * 65536) ((Y + h) * 65536) t = false) (a b : Nat) (ha : a < w) (hb : b < h) : draws t (X + a) (Y + b) = false := by
  obtain ⟨hib, _⟩ := bounds_some ht
  unfold InBox at hib
  have hm' : ¬ (max (bo t).1 (X * 65536) ≤ min (bo t).2.2.1 ((X + w) * 65536) ∧ max (bo t).2.1 (Y * 65536) ≤ min (bo t).2.2.2 ((Y + h) * 65536)) := fun e => by
    rw [(meet_iff _ _ _ _ t).2 e] at hm
    cases hm
  unfold draws
  rw [Bool.and_eq_false_iff]
  left
  rw [decide_eq_false_iff_not]
  omega
theorem met_all (l : List S26) (ho : ∀ t ∈ l, OKT t) (b0 b1 b2 b3 : Int) (n : Nat) (hn : n ≤ l.length) : metL b0 b1 b2 b3 l n = (metL (-1099511627776) (-1099511627776) 1099511627776 1099511627776 l n).filter (fun i => meetB b0 b1 b2 b3 (rd_T26 l i)) := by
  have : metL (-1099511627776) (-1099511627776) 1099511627776 1099511627776 l n = (List.range n).map (fun i : Nat => (i : Int)) := by
    unfold metL
    rw [List.filter_eq_self]
    intro z hz
    obtain ⟨i, hi, rfl⟩ := List.mem_map.1 hz
    have := List.mem_range.1 hi
    obtain ⟨hib, _⟩ := bounds_some (ho _ (rd26_mem (l := l) (i := i) (by omega)))
    unfold InBox at hib
    rw [meet_iff]
    omega
  rw [this]
  rfl
/-- culled or not, the same pixels -/
theorem drawn_same {X Y : Int} {w h : Nat} (hA : OKA X Y w h) (l : List S26) (ho : ∀ t ∈ l, OKT t) (a b : Nat) (ha : a < w) (hb : b < h) :
    colAt (drawn (X * 65536) (Y * 65536) ((X + w) * 65536) ((Y + h) * 65536) l) 0 (X + a) (Y + b) = colAt (drawn (-1099511627776) (-1099511627776) 1099511627776 1099511627776 l) 0 (X + a) (Y + b) := by
  unfold drawn
  rw [met_all l ho _ _ _ _ _ (Nat.le_refl _), srt_filter]
  refine colAt_filter _ _ _ _ _ _ fun i hi hp => ?_
  have := metL_mem ((srt_mem _ _ _).1 hi)
  obtain ⟨q, rfl⟩ : ∃ q : Nat, i = (q : Int) := ⟨i.toNat, by omega⟩
  exact out_of_view hA (ho _ (rd26_mem (by omega))) hp a b ha hb
end Go.Proofs.Ytffbonfgbmohdaa.P
namespace Go.Proofs.Ytffbonfgbmohdaa.P
open Go Go.RowKit Go.Proofs.YtffbonfgbmohdaaW.PrintWords Go.Proofs.YtffbonfgbmohdaaW.PrintLast Go.Proofs.YtffbonfgbmohdaaW.PrintMore
set_option linter.unusedVariables false
set_option linter.unusedSimpArgs false

/-- a tile of an area -/
structure Tile (X Y : Int) (w h : Nat) (t : S32) (tx ty tw th : Nat) : Prop where
  f0 : t.f0 = X + tx
  f1 : t.f1 = Y + ty
  f2 : t.f2 = tw
  f3 : t.f3 = th
  w1 : 1 ≤ tw
  h1 : 1 ≤ th
  w2 : tx + tw ≤ w
  h2 : ty + th ≤ h
def AllT (X Y : Int) (w h : Nat) (T : List S32) : Prop := ∀ t ∈ T, ∃ tx ty tw th, Tile X Y w h t tx ty tw th
def Cov (X Y : Int) (w h : Nat) (T : List S32) (a b : Nat) : Prop := ∃ t ∈ T, ∃ tx ty tw th, Tile X Y w h t tx ty tw th ∧ tx ≤ a ∧ a < tx + tw ∧ ty ≤ b ∧ b < ty + th
section
variable {X Y : Int} {w h : Nat} (hA : OKA X Y w h) (wt ht : Nat) (hwt : 1 ≤ wt ∧ wt ≤ 64) (hht : 1 ≤ ht ∧ ht ≤ 64)
include hA hwt hht
theorem TL1 (y : Nat) (hy : y < h) (G : List S32 → Prop) :
    ∀ (d x : Nat) (acc : List S32), w - x ≤ d → acc.length ≤ 128 * y + x → x ≤ w + 64 → AllT X Y w h acc → (∀ a b, a < w → b < h → (b < y ∨ (b < y + ht ∧ a < x)) → Cov X Y w h acc a b) →
    (∀ acc', acc'.length ≤ 128 * y + w + 64 → AllT X Y w h acc' → (∀ a b, a < w → b < h → b < y + ht → Cov X Y w h acc' a b) → ∃ T, G T ∧ Ev fun k => raster_Tiles.l0 k wt ht acc' ((y + ht : Nat) : Int) X Y w h = some (T, 0)) →
    ∃ T, G T ∧ Ev fun k => raster_Tiles.l1 k wt ht acc (y : Int) (x : Int) X Y w h = some (T, 0)
  | d, x, acc, hd, hl, hx, hT, hC, H => by
    have hA' := hA
    obtain ⟨w1, w2, h1, h2, x1', x2, y1', y2⟩ := hA'
    by_cases hxw : x < w
    · cases d with
      | zero => omega
      | succ d =>
        have hk : Tile X Y w h (⟨wrap64 (X + x), wrap64 (Y + y), mn wt (wrap64 (w - x)), mn ht (wrap64 (h - y))⟩ : S32) x y (min wt (w - x)) (min ht (h - y)) :=
          ⟨by show wrap64 _ = _; unfold wrap64; omega, by show wrap64 _ = _; unfold wrap64; omega, by show mn _ _ = _; rw [mn_eq]; unfold wrap64; omega, by show mn _ _ = _; rw [mn_eq]; unfold wrap64; omega, by omega, by omega, by omega, by omega⟩
        obtain ⟨T, hG, he⟩ := TL1 y hy G d (x + wt) (acc ++ [⟨wrap64 (X + x), wrap64 (Y + y), mn wt (wrap64 (w - x)), mn ht (wrap64 (h - y))⟩]) (by omega) (by rw [List.length_append, List.length_singleton]; omega) (by omega)
          (fun t ht => by
            rcases List.mem_append.1 ht with ht | ht
            · exact hT t ht
            · rw [List.mem_singleton.1 ht]
              exact ⟨_, _, _, _, hk⟩)
          (fun a b ha hb hab => by
            by_cases e : b < y ∨ (b < y + ht ∧ a < x)
            · obtain ⟨t, ht, tx, ty, tw, th, h'⟩ := hC a b ha hb e
              exact ⟨t, List.mem_append.2 (.inl ht), tx, ty, tw, th, h'⟩
            · exact ⟨_, List.mem_append.2 (.inr (List.mem_singleton.2 rfl)), _, _, _, _, hk, by omega, by omega, by omega, by omega⟩) H
        refine ⟨T, hG, he.succ fun k hk hq => ?_⟩
        simp only [raster_Tiles.l1]
        rw [if_pos (by omega), if_pos (by omega), show wrap64 ((x : Int) + mn wt 64) = ((x + wt : Nat) : Int) by rw [mn_eq]; unfold wrap64; omega]
        exact hq
    · obtain ⟨T, hG, he⟩ := H acc (by omega) hT (fun a b ha hb hab => hC a b ha hb (.inr ⟨hab, by omega⟩))
      refine ⟨T, hG, he.succ fun k hk hq => ?_⟩
      simp only [raster_Tiles.l1]
      rw [if_neg (by omega), show wrap64 ((y : Int) + mn ht 64) = ((y + ht : Nat) : Int) by rw [mn_eq]; unfold wrap64; omega]
      exact hq
theorem TL0 : ∀ (d y : Nat) (acc : List S32), h - y ≤ d → y ≤ h + 64 → acc.length ≤ 128 * y → AllT X Y w h acc → (∀ a b, a < w → b < h → b < y → Cov X Y w h acc a b) →
    ∃ T, (AllT X Y w h T ∧ T.length < 1000000 ∧ ∀ a b, a < w → b < h → Cov X Y w h T a b) ∧ Ev fun k => raster_Tiles.l0 k wt ht acc (y : Int) X Y w h = some (T, 0)
  | d, y, acc, hd, hy, hl, hT, hC => by
    have hA' := hA
    obtain ⟨w1, w2, h1, h2, x1', x2, y1', y2⟩ := hA'
    by_cases hyh : y < h
    · cases d with
      | zero => omega
      | succ d =>
        obtain ⟨T, hG, he⟩ := TL1 hA wt ht hwt hht y hyh (fun T => AllT X Y w h T ∧ T.length < 1000000 ∧ ∀ a b, a < w → b < h → Cov X Y w h T a b) w 0 acc (by omega) (by omega) (by omega) hT (fun a b ha hb hab => hC a b ha hb (by omega)) (fun acc' hl' hT' hC' =>
          TL0 d (y + ht) acc' (by omega) (by omega) (by omega) hT' hC')
        refine ⟨T, hG, he.succ fun k hk hq => ?_⟩
        simp only [raster_Tiles.l0]
        rw [if_pos (by omega)]
        exact hq
    · refine ⟨acc, ⟨hT, by omega, fun a b ha hb => hC a b ha hb (by omega)⟩, ⟨1, fun k hk => ?_⟩⟩
      obtain ⟨k, rfl⟩ : ∃ j, k = j + 1 := ⟨k - 1, by omega⟩
      simp only [raster_Tiles.l0]
      rw [if_neg (by omega)]
theorem tiles_f : ∃ T, (AllT X Y w h T ∧ T.length < 1000000 ∧ ∀ a b, a < w → b < h → Cov X Y w h T a b) ∧ Ev fun k => raster_Tiles.f k X Y w h wt ht = some (T, 0) := by
  obtain ⟨T, hG, he⟩ := TL0 hA wt ht hwt hht h 0 [] (by omega) (by omega) (by simp) (fun t ht => by cases ht) (fun a b ha hb hab => by omega)
  refine ⟨T, hG, he.succ fun k hk hq => ?_⟩
  show raster_Tiles.f (k + 1) X Y w h wt ht = some (T, 0)
  unfold raster_Tiles.f
  rw [okA_check hA (k + 1) (by omega), Option.bind_some, if_pos rfl, if_neg (by omega), decide_eq_false (by omega)]
  simp only [raster_Tiles.j0]
  rw [if_neg (by simp)]
  exact hq
end
/-- what is drawn already -/
def WInv (w h : Nat) (out : List Int) (p : Nat → Nat → Int) (D : Nat → Nat → Prop) : Prop := out.length = w * h ∧ ∀ a b, a < w → b < h → D a b → out.getD (b * w + a) 0 = p a b
theorem WInv.put {w h : Nat} {out : List Int} {p : Nat → Nat → Int} {D : Nat → Nat → Prop} (hI : WInv w h out p D) {a0 b0 : Nat} (ha0 : a0 < w) (hb0 : b0 < h) {D' : Nat → Nat → Prop} (hD : ∀ a b, D' a b → D a b ∨ a = a0 ∧ b = b0) :
    WInv w h (out.set (b0 * w + a0) (p a0 b0)) p D' := by
  refine ⟨by rw [List.length_set]; exact hI.1, fun a b ha hb hd => ?_⟩
  have hlt := idx_lt ha0 hb0
  rw [List.getD_eq_getElem?_getD, List.getElem?_set]
  by_cases e : a = a0 ∧ b = b0
  · obtain ⟨rfl, rfl⟩ := e
    rw [if_pos rfl, if_pos (by rw [hI.1]; exact hlt)]
    rfl
  · rw [if_neg (fun h => e (by obtain ⟨h1, h2⟩ := idx_inj ha0 ha h; exact ⟨h1.symm, h2.symm⟩))]
    have := hI.2 a b ha hb ((hD a b hd).resolve_right e)
    rwa [List.getD_eq_getElem?_getD] at this
theorem tile_at {tw th u z : Nat} (hu : u < tw) (hz : z < th) : u + z * tw < tw * th ∧ (u + z * tw) % tw = u ∧ (u + z * tw) / tw = z := by
  refine ⟨by have := idx_lt hu hz; omega, ?_, ?_⟩
  · rw [Nat.add_mul_mod_self_right, Nat.mod_eq_of_lt hu]
  · rw [Nat.add_mul_div_right _ _ (by omega), Nat.div_eq_of_lt hu, Nat.zero_add]
theorem w_in (x y : Int) (e : x = y) (h0 : -9223372036854775808 ≤ y) (h1 : y < 9223372036854775808) : wrap64 x = y := by subst e; unfold wrap64; omega
theorem idx2 (X Y F0 F1 J R : Int) (tx ty u z w : Nat) (hX : -1000 ≤ X ∧ X ≤ 1000) (hY : -1000 ≤ Y ∧ Y ≤ 1000) (hw : w ≤ 64) (hu : tx + u ≤ 64) (hz : ty + z ≤ 64) (e1 : F1 = Y + ty) (e0 : F0 = X + tx) (ej : J = z) (er : R = u) :
    wrap64 ((wrap64 ((wrap64 ((wrap64 ((wrap64 ((wrap64 (F1 - Y)) + J)) * (w : Int))) + F0)) - X)) + R) = (((ty + z) * w + (tx + u) : Nat) : Int) := by
  have hp : (ty + z) * w ≤ 4096 := pr_le (h := 0) (a := 0) (w := w) (b := ty + z) hw hz
  have a1 : wrap64 (F1 - Y) = ty := w_in _ _ (by omega) (by omega) (by omega)
  have a2 : wrap64 (wrap64 (F1 - Y) + J) = ((ty + z : Nat) : Int) := w_in _ _ (by rw [a1]; omega) (by omega) (by omega)
  rw [a2]
  clear a1 a2
  have a3 : wrap64 (((ty + z : Nat) : Int) * (w : Int)) = (((ty + z) * w : Nat) : Int) := w_in _ _ (Int.natCast_mul _ _).symm (by omega) (by omega)
  rw [a3]
  generalize (ty + z) * w = p at hp
  clear a3
  have a4 : wrap64 ((p : Int) + F0) = p + (X + tx) := w_in _ _ (by omega) (by omega) (by omega)
  rw [a4]
  have a5 : wrap64 ((p : Int) + (X + tx) - X) = p + tx := w_in _ _ (by omega) (by omega) (by omega)
  rw [a5]
  exact w_in _ _ (by omega) (by omega) (by omega)
theorem tdiv_nat (j tw : Nat) (hj : j ≤ 4096) : wrap64 (Int.tdiv (j : Int) (tw : Int)) = ((j / tw : Nat) : Int) := by
  rw [Int.tdiv_eq_ediv_of_nonneg (by omega), ← Int.natCast_ediv]
  have : j / tw ≤ j := Nat.div_le_self _ _
  generalize j / tw = z at this
  unfold wrap64
  omega
theorem tmod_nat (j tw : Nat) : Int.tmod (j : Int) (tw : Int) = ((j % tw : Nat) : Int) := by
  rw [Int.tmod_eq_emod_of_nonneg (by omega), ← Int.natCast_emod]
section
variable {X Y : Int} {w h : Nat} (hA : OKA X Y w h) (ts : List S26)
include hA
set_option maxHeartbeats 1000000 in
theorem WL1 (T : List S32) (n i : Int) (hi : 0 ≤ i ∧ i < 1000000000) (t : S32) (tx ty tw th : Nat) (hk : Tile X Y w h t tx ty tw th) (P : List Int) (hP : Inv tw th P (fun a b => colAt ts 0 (X + tx + a) (Y + ty + b))) (D : Nat → Nat → Prop) (G : List Int → Prop) :
    ∀ (d j : Nat) (out : List Int), j + d = tw * th → WInv w h out (fun a b => colAt ts 0 (X + a) (Y + b)) (fun a b => D a b ∨ ∃ q, q < j ∧ a = tx + q % tw ∧ b = ty + q / tw) →
    (∀ out', WInv w h out' (fun a b => colAt ts 0 (X + a) (Y + b)) (fun a b => D a b ∨ (tx ≤ a ∧ a < tx + tw ∧ ty ≤ b ∧ b < ty + th)) → ∃ o, G o ∧ Ev fun k => raster_Whole.l0 k ts T out' n (i + 1) X Y w h = some (o, 0)) →
    ∃ o, G o ∧ Ev fun k => raster_Whole.l1 k ts T out P n i (P.length : Int) (j : Int) X Y w h t.f0 t.f1 t.f2 t.f3 = some (o, 0)
  | 0, j, out, hd, hI, H => by
    obtain ⟨o, hG, he⟩ := H out ⟨hI.1, fun a b ha hb hab => hI.2 a b ha hb (by
      rcases hab with hab | ⟨e1, e2, e3, e4⟩
      · exact .inl hab
      · obtain ⟨u, rfl⟩ : ∃ u, a = tx + u := ⟨a - tx, by omega⟩
        obtain ⟨z, rfl⟩ : ∃ z, b = ty + z := ⟨b - ty, by omega⟩
        obtain ⟨q1, q2, q3⟩ := tile_at (tw := tw) (th := th) (u := u) (z := z) (by omega) (by omega)
        exact .inr ⟨u + z * tw, by omega, by rw [q2], by rw [q3]⟩)⟩
    refine ⟨o, hG, he.succ fun k hkk hq => ?_⟩
    simp only [raster_Whole.l1]
    rw [hP.1, if_neg (by omega), show wrap64 (i + 1) = i + 1 by unfold wrap64; omega]
    exact hq
  | d + 1, j, out, hd, hI, H => by
    have hA' := hA
    obtain ⟨w1, w2, h1, h2, x1', x2, y1', y2⟩ := hA'
    obtain ⟨g0, g1, g2, g3, k1, k2, k3, k4⟩ := hk
    have hjl : j < tw * th := by omega
    have hb' : j / tw < th := Nat.div_lt_of_lt_mul hjl
    have ha' : j % tw < tw := Nat.mod_lt _ (by omega)
    have ej : j / tw * tw + j % tw = j := by rw [Nat.mul_comm]; exact Nat.div_add_mod j tw
    have hp : tw * th ≤ 4096 := pr_le (h := h) (a := 0) (w := th) (b := tw) (by omega) (by omega)
    have hv : rd P (j : Int) = colAt ts 0 (X + (tx + j % tw : Nat)) (Y + (ty + j / tw : Nat)) := by
      have h0 : P.getD (j / tw * tw + j % tw) 0 = colAt ts 0 (X + tx + ((j % tw : Nat) : Int)) (Y + ty + ((j / tw : Nat) : Int)) := hP.2 _ _ ha' hb'
      rw [ej] at h0
      unfold rd
      rw [Int.toNat_natCast, h0, Int.natCast_add, Int.natCast_add, Int.add_assoc, Int.add_assoc]
    have hX : tx + j % tw < w := by omega
    have hY : ty + j / tw < h := by omega
    have e3 : wrap64 ((wrap64 ((wrap64 ((wrap64 ((wrap64 ((wrap64 (t.f1 - Y)) + (wrap64 (Int.tdiv (j : Int) t.f2)))) * (w : Int))) + t.f0)) - X)) + (Int.tmod (j : Int) t.f2)) = (((ty + j / tw) * w + (tx + j % tw) : Nat) : Int) := by
      exact idx2 X Y _ _ _ _ tx ty _ _ w ⟨x1', x2⟩ ⟨y1', y2⟩ w2 (by omega) (by omega) g1 g0 (by rw [g2]; exact tdiv_nat j tw (by omega)) (by rw [g2]; exact tmod_nat j tw)
    have hil := idx_lt hX hY
    have hI' : WInv w h (out.set ((ty + j / tw) * w + (tx + j % tw)) (rd P (j : Int))) (fun a b => colAt ts 0 (X + a) (Y + b)) (fun a b => D a b ∨ ∃ q, q < j + 1 ∧ a = tx + q % tw ∧ b = ty + q / tw) := by
      rw [hv]
      exact hI.put (p := fun a b => colAt ts 0 (X + a) (Y + b)) hX hY (fun a b hab => by
        rcases hab with hab | ⟨q, hq, e1, e2⟩
        · exact .inl (.inl hab)
        · by_cases e : q = j
          · subst e
            exact .inr ⟨e1, e2⟩
          · exact .inl (.inr ⟨q, by omega, e1, e2⟩))
    obtain ⟨o, hG, he⟩ := WL1 T n i hi t tx ty tw th ⟨g0, g1, g2, g3, k1, k2, k3, k4⟩ P hP D G d (j + 1) _ (by omega) hI' H
    refine ⟨o, hG, he.succ fun k hkk hq => ?_⟩
    simp only [raster_Whole.l1]
    have hIl := hI.1
    have hPl := hP.1
    clear hI' hI H he hv hP
    rw [if_pos (by omega), if_pos (by omega), if_pos (by omega), if_neg (by omega), e3, if_pos (Int.natCast_nonneg _), if_pos (by rw [hIl]; exact Int.ofNat_lt.2 hil), Int.toNat_natCast, show wrap64 ((j : Int) + 1) = ((j + 1 : Nat) : Int) by unfold wrap64; omega]
    exact hq
variable (hts : ∀ t ∈ ts, OKT t) (hl : ts.length ≤ 400)
include hts hl
theorem WL0 (hXw : X + w ≤ 1000) (hYh : Y + h ≤ 1000) (T : List S32) (hT : AllT X Y w h T) (hTl : T.length < 1000000) :
    ∀ (d i : Nat) (out : List Int), i + d = T.length → WInv w h out (fun a b => colAt ts 0 (X + a) (Y + b)) (fun a b => Cov X Y w h (T.take i) a b) →
    ∃ o, WInv w h o (fun a b => colAt ts 0 (X + a) (Y + b)) (fun a b => Cov X Y w h T a b) ∧ Ev fun k => raster_Whole.l0 k ts T out (T.length : Int) (i : Int) X Y w h = some (o, 0)
  | 0, i, out, hd, hI => by
    refine ⟨out, by rw [List.take_of_length_le (by omega)] at hI; exact hI, ⟨1, fun k hk => ?_⟩⟩
    obtain ⟨k, rfl⟩ : ∃ j, k = j + 1 := ⟨k - 1, by omega⟩
    simp only [raster_Whole.l0]
    rw [if_neg (by omega)]
  | d + 1, i, out, hd, hI => by
    have hi : i < T.length := by omega
    have e : rd_T32 T (i : Int) = T[i] := by unfold rd_T32; rw [Int.toNat_natCast, List.getD_eq_getElem?_getD, List.getElem?_eq_getElem hi]; rfl
    obtain ⟨tx, ty, tw, th, hk⟩ := hT _ (List.getElem_mem hi)
    have hk' := hk
    obtain ⟨g0, g1, g2, g3, k1, k2, k3, k4⟩ := hk'
    have hA' := hA
    obtain ⟨w1, w2, h1, h2, x1', x2, y1', y2⟩ := hA'
    have hAt : OKA (X + tx) (Y + ty) tw th := ⟨k1, by omega, k2, by omega, by omega, by omega, by omega, by omega⟩
    obtain ⟨P, hP, hPe⟩ := picture hAt ts hts hl
    obtain ⟨o, ho, he⟩ := WL1 hA ts T (T.length : Int) (i : Int) (by omega) T[i] tx ty tw th hk P hP (fun a b => Cov X Y w h (T.take i) a b) (fun o => WInv w h o (fun a b => colAt ts 0 (X + a) (Y + b)) (fun a b => Cov X Y w h T a b)) _ 0 out (Nat.zero_add _)
      ⟨hI.1, fun a b ha hb hab => hI.2 a b ha hb (by
        rcases hab with hab | ⟨q, hq, _⟩
        · exact hab
        · omega)⟩
      (fun out' h' => by
        have := WL0 hXw hYh T hT hTl d (i + 1) out' (by omega) ⟨h'.1, fun a b ha hb hab => h'.2 a b ha hb (by
          obtain ⟨t', ht', x', y', w', h2', hk', hc1, hc2, hc3, hc4⟩ := hab
          rw [List.take_succ_eq_append_getElem hi] at ht'
          rcases List.mem_append.1 ht' with ht' | ht'
          · exact .inl ⟨t', ht', x', y', w', h2', hk', hc1, hc2, hc3, hc4⟩
          · rw [List.mem_singleton.1 ht'] at hk'
            obtain ⟨q0, q1, q2, q3, _⟩ := hk'
            exact .inr (by omega))⟩
        rwa [show (((i + 1 : Nat) : Int)) = (i : Int) + 1 by omega] at this)
    obtain ⟨K, hPe⟩ := hPe
    obtain ⟨K2, he⟩ := he
    refine ⟨o, ho, K + K2 + 1, fun k hk => ?_⟩
    obtain ⟨k, rfl⟩ : ∃ j, k = j + 1 := ⟨k - 1, by omega⟩
    have e1 := hPe k (by omega)
    have e2 := he k (by omega)
    simp only [raster_Whole.l0]
    rw [if_pos (by omega), if_pos (by omega), if_pos (by omega), e]
    rw [← g0, ← g1, ← g2, ← g3] at e1
    rw [e1, Option.bind_some, if_pos rfl]
    exact e2
/-- an area that is drawn tile by tile has the same pixels -/
theorem whole (hXw : X + w ≤ 1000) (hYh : Y + h ≤ 1000) (wt ht : Nat) (hwt : 1 ≤ wt ∧ wt ≤ 64) (hht : 1 ≤ ht ∧ ht ≤ 64) : ∃ o, Inv w h o (fun a b => colAt ts 0 (X + a) (Y + b)) ∧ Ev fun k => raster_Whole.f k ts X Y w h wt ht = some (o, 0) := by
  obtain ⟨T, ⟨hT, hTl, hC⟩, K1, hTe⟩ := tiles_f hA wt ht hwt hht
  have hA' := hA
  obtain ⟨w1, w2, h1, h2, x1', x2, y1', y2⟩ := hA'
  have hp : w * h ≤ 4096 := pr_le (h := h) (a := 0) (w := h) (b := w) h2 w2
  obtain ⟨o, ho, K2, he⟩ := WL0 hA ts hts hl hXw hYh T hT hTl _ 0 (List.replicate (w * h) 0) (Nat.zero_add _) ⟨by simp, fun a b ha hb hab => by
    obtain ⟨t, ht, _⟩ := hab
    rw [List.take_zero] at ht
    cases ht⟩
  refine ⟨o, ⟨ho.1, fun a b ha hb => ho.2 a b ha hb (hC a b ha hb)⟩, K1 + K2, fun k hk => ?_⟩
  show raster_Whole.f k ts X Y w h wt ht = some (o, 0)
  have e1 := hTe k (by omega)
  have e2 := he k (by omega)
  clear hTe he ho hC hT hA
  unfold raster_Whole.f
  rw [e1, Option.bind_some, if_pos rfl]
  clear e1
  have e : wrap64 ((w : Int) * (h : Int)) = ((w * h : Nat) : Int) := w_in _ _ (Int.natCast_mul _ _).symm (by omega) (by omega)
  rw [e, if_pos (Int.natCast_nonneg _), Int.toNat_natCast]
  generalize w * h = p at hp e2
  rw [if_pos (by omega)]
  exact e2
end
end Go.Proofs.Ytffbonfgbmohdaa.P
namespace Go.Proofs.Ytffbonfgbmohdaa.P
open Go.RowKit Go.Proofs.YtffbonfgbmohdaaW.PrintWords Go.Proofs.YtffbonfgbmohdaaW.PrintLast Go.Proofs.YtffbonfgbmohdaaW.PrintMore
set_option linter.unusedVariables false
set_option linter.unusedSimpArgs false

theorem below5 (x n : Int) (h0 : 1 ≤ n) (h1 : n ≤ 4611686018427387904) : ∃ r, tourref5_Below.f x n = some r ∧ 0 ≤ r ∧ r < n := by
  unfold tourref5_Below.f
  rw [if_neg (by omega)]
  have a1 : Int.tmod x n < n := Int.tmod_lt_of_pos x (by omega)
  have a2 : -n < Int.tmod x n := by
    have := Int.tmod_lt_of_pos (-x) (show 0 < n by omega)
    rw [Int.neg_tmod] at this; omega
  by_cases h : Int.tmod x n < 0
  · rw [if_pos h, show wrap64 (Int.tmod x n + n) = Int.tmod x n + n from by unfold wrap64; omega]
    exact ⟨_, rfl, by omega, by omega⟩
  · rw [if_neg h]
    exact ⟨_, rfl, by omega, by omega⟩
/-- where a source stands -/
def SrcAt (l : List Int) (j : Int) : Prop := (l.length : Int) ≤ 4611686018427387904 ∧ 0 ≤ j ∧ j ≤ l.length
theorem src_some (l : List Int) (j n : Int) (hj : SrcAt l j) (h0 : 1 ≤ n) (h1 : n ≤ 4611686018427387904) : ∃ r j', tourref5_Source_N.f l j n = some (r, j') ∧ 0 ≤ r ∧ r < n ∧ SrcAt l j' := by
  obtain ⟨hl, hj0, hj1⟩ := hj
  unfold tourref5_Source_N.f
  by_cases h : j ≥ (l.length : Int)
  · rw [if_pos h]
    exact ⟨_, _, rfl, by omega, by omega, hl, hj0, hj1⟩
  · rw [if_neg h, show wrap64 (wrap64 (j + 1) - 1) = j by unfold wrap64; omega, if_pos (by omega), if_pos (by omega)]
    obtain ⟨r, hr, r0, r1⟩ := below5 (rd l j) n h0 h1
    rw [hr]
    exact ⟨_, _, rfl, r0, r1, hl, by unfold wrap64; omega, by unfold wrap64; omega⟩
/-- a thing as it is made -/
def Made (ts : List S26) : Prop := ts.length ≤ 6 ∧ ∀ t ∈ ts, t.f3.length ≤ 3
theorem things_l1 (l : List Int) (x4 : List S26) (x9 x10 x23 : Int) (h23 : x23 ≤ 3) (a b c : Int) (P : List S26 → Prop)
    (next : ∀ (pts : List S43) (j : Int), pts.length ≤ 3 → SrcAt l j → ∃ k r, tourref5_Things.l0 k (x4 ++ [(⟨a, b, c, pts⟩ : S26)]) x9 (wrap64 (x10 + 1)) l j = some r ∧ P r) (h4 : x4.length < 100) :
    ∀ (d : Nat) (i : Nat) (pts : List S43) (j : Int), x23 - i ≤ d → (i : Int) ≤ 3 → pts.length = i → SrcAt l j → ∃ k r, tourref5_Things.l1 k x4 x9 x10 x23 i l j a b c pts = some r ∧ P r
  | d, i, pts, j, hd, hi, hp, hj => by
    by_cases h : (i : Int) < x23
    · obtain ⟨d, rfl⟩ : ∃ d', d = d' + 1 := ⟨d - 1, by omega⟩
      obtain ⟨r1, j1, e1, _, _, hj1⟩ := src_some l j 24 hj (by decide) (by decide)
      obtain ⟨r2, j2, e2, _, _, hj2⟩ := src_some l j1 3 hj1 (by decide) (by decide)
      obtain ⟨r3, j3, e3, _, _, hj3⟩ := src_some l j2 24 hj2 (by decide) (by decide)
      obtain ⟨r4, j4, e4, _, _, hj4⟩ := src_some l j3 3 hj3 (by decide) (by decide)
      obtain ⟨k, r, e, hP⟩ := things_l1 l x4 x9 x10 x23 h23 a b c P next h4 d (i + 1) (pts ++ [⟨wrap64 ((wrap64 ((wrap64 (r1 - 6)) * 65536)) + (wrap64 (Int.tdiv (wrap64 ((wrap64 (r2 - 1)) * 65536)) 2))), wrap64 ((wrap64 ((wrap64 (r3 - 6)) * 65536)) + (wrap64 (Int.tdiv (wrap64 ((wrap64 (r4 - 1)) * 65536)) 2)))⟩]) j4 (by omega) (by omega) (by simp [hp]) hj4
      refine ⟨k + 1, r, ?_, hP⟩
      simp only [tourref5_Things.l1]
      rw [if_pos h, e1]
      simp only [Option.bind_some]
      rw [e2]
      simp only [Option.bind_some]
      rw [e3]
      simp only [Option.bind_some]
      rw [e4]
      simp only [Option.bind_some]
      rw [if_pos (by omega), show wrap64 ((i : Int) + 1) = ((i + 1 : Nat) : Int) by unfold wrap64; omega]
      exact e
    · obtain ⟨k, r, e, hP⟩ := next pts j (by omega) hj
      refine ⟨k + 1, r, ?_, hP⟩
      simp only [tourref5_Things.l1]
      rw [if_neg h, if_pos (by omega)]
      exact e
theorem things_l0 (l : List Int) (n : Int) (hn : n ≤ 6) : ∀ (d : Nat) (i : Nat) (ts : List S26) (j : Int), n - i ≤ d → (i : Int) ≤ 6 → ts.length = i → (∀ t ∈ ts, t.f3.length ≤ 3) → SrcAt l j → ∃ k r, tourref5_Things.l0 k ts n i l j = some r ∧ Made r
  | d, i, ts, j, hd, hi, ht, hm, hj => by
    by_cases h : (i : Int) < n
    · obtain ⟨d, rfl⟩ : ∃ d', d = d' + 1 := ⟨d - 1, by omega⟩
      obtain ⟨r1, j1, e1, _, _, hj1⟩ := src_some l j 2 hj (by decide) (by decide)
      obtain ⟨r2, j2, e2, _, _, hj2⟩ := src_some l j1 3 hj1 (by decide) (by decide)
      obtain ⟨r3, j3, e3, _, _, hj3⟩ := src_some l j2 9 hj2 (by decide) (by decide)
      obtain ⟨k, r, e, hP⟩ := things_l1 l ts n i (wrap64 ((wrap64 (1 + r1)) + 1)) (by unfold wrap64; omega) (wrap64 (1 + r1)) r2 (wrap64 (1 + r3)) Made (fun pts j' hp hj' => by
        have := things_l0 l n hn d (i + 1) (ts ++ [⟨wrap64 (1 + r1), r2, wrap64 (1 + r3), pts⟩]) j' (by omega) (by omega) (by simp [ht]) (fun t h => by
          rcases List.mem_append.1 h with h | h
          · exact hm t h
          · rw [List.mem_singleton.1 h]; exact hp) hj'
        rw [show wrap64 ((i : Int) + 1) = ((i + 1 : Nat) : Int) by unfold wrap64; omega]
        exact this) (by omega) 3 0 [] j3 (by unfold wrap64; omega) (by omega) rfl hj3
      refine ⟨k + 1, r, ?_, hP⟩
      simp only [tourref5_Things.l0]
      rw [if_pos h, e1]
      simp only [Option.bind_some]
      rw [e2]
      simp only [Option.bind_some]
      rw [e3]
      simp only [Option.bind_some]
      exact e
    · exact ⟨1, ts, by simp only [tourref5_Things.l0]; rw [if_neg h], by omega, hm⟩
theorem things_f (l : List Int) (hl : (l.length : Int) ≤ 4611686018427387904) : ∃ k r, tourref5_Things.f k l = some r ∧ Made r := by
  obtain ⟨r1, j1, e1, r0, r6, hj1⟩ := src_some l 0 7 ⟨hl, by omega, by omega⟩ (by decide) (by decide)
  obtain ⟨k, r, e, hP⟩ := things_l0 l r1 (by omega) 6 0 [] j1 (by omega) (by omega) rfl (fun _ h => by cases h) hj1
  refine ⟨k, r, ?_, hP⟩
  unfold tourref5_Things.f tourref5_From.f
  simp only [Option.bind_some]
  rw [e1]
  exact e
theorem ck_l0 (l : List S43) (hl : l.length ≤ 3) : ∀ (d i : Nat), l.length ≤ i + d → i ≤ l.length → ∃ k r, cull_Check.l0 k l (l.length : Int) i = some r ∧ (r = 0 → ∀ j, i ≤ j → j < l.length → InP (rd_T43 l (j : Int)))
  | d, i, hd, hi => by
    by_cases h : i < l.length
    · obtain ⟨d, rfl⟩ : ∃ d', d = d' + 1 := ⟨d - 1, by omega⟩
      by_cases h1 : mn ((rd_T43 l (i : Int)).f0) ((rd_T43 l (i : Int)).f1) < (-65536000)
      · refine ⟨1, 2, ?_, fun h => by cases h⟩
        simp only [cull_Check.l0]
        rw [if_pos (by omega), if_pos (by omega), if_pos (by omega), if_pos h1]
      · by_cases h2 : mx ((rd_T43 l (i : Int)).f0) ((rd_T43 l (i : Int)).f1) > 65536000
        · refine ⟨1, 2, ?_, fun h => by cases h⟩
          simp only [cull_Check.l0]
          rw [if_pos (by omega), if_pos (by omega), if_pos (by omega), if_neg h1, if_pos h2]
        · obtain ⟨k, r, e, hr⟩ := ck_l0 l hl d (i + 1) (by omega) (by omega)
          refine ⟨k + 1, r, ?_, fun h0 j hj hjl => ?_⟩
          · simp only [cull_Check.l0]
            rw [if_pos (by omega), if_pos (by omega), if_pos (by omega), if_neg h1, if_neg h2, show wrap64 ((i : Int) + 1) = ((i + 1 : Nat) : Int) by unfold wrap64; omega]
            exact e
          · rcases Nat.eq_or_lt_of_le hj with rfl | hj
            · rw [mn_eq] at h1
              rw [mx_eq] at h2
              exact ⟨by omega, by omega, by omega, by omega⟩
            · exact hr h0 j hj hjl
    · refine ⟨1, 0, ?_, fun _ j hj hjl => by omega⟩
      simp only [cull_Check.l0]
      rw [if_neg (by omega)]
theorem check_f (t : S26) (ht : t.f3.length ≤ 3) : ∃ k r, cull_Check.f k t.f0 t.f1 t.f2 t.f3 = some r ∧ (r = 0 → OKT t) := by
  obtain ⟨k, r, e, hr⟩ := ck_l0 t.f3 ht 3 0 (by omega) (by omega)
  have j1 : ∀ b : Bool, ∃ k' r', cull_Check.j1 k' b t.f0 t.f1 t.f2 t.f3 = some r' ∧ (r' = 0 → b = false ∧ r = 0) := by
    intro b
    cases b
    · exact ⟨k + 1, r, by simp only [cull_Check.j1]; rw [if_neg (by simp)]; exact e, fun h => ⟨rfl, h⟩⟩
    · exact ⟨1, 1, by simp only [cull_Check.j1]; rw [if_pos trivial], fun h => by cases h⟩
  have j0 : ∀ b : Bool, ∃ k' r', cull_Check.j0 k' b t.f0 t.f1 t.f2 t.f3 = some r' ∧ (r' = 0 → b = false ∧ 0 ≤ t.f1 ∧ t.f1 ≤ 100 ∧ 1 ≤ t.f2 ∧ t.f2 ≤ 255 ∧ r = 0) := by
    intro b
    cases b
    · obtain ⟨kt, rt, et, ht1⟩ := j1 true
      by_cases h1 : t.f1 < 0
      · exact ⟨kt + 1, rt, by simp only [cull_Check.j0]; rw [if_neg (by simp), if_pos h1]; exact et, fun h => by cases (ht1 h).1⟩
      · by_cases h2 : t.f1 > 100
        · exact ⟨kt + 1, rt, by simp only [cull_Check.j0]; rw [if_neg (by simp), if_neg h1, if_pos h2]; exact et, fun h => by cases (ht1 h).1⟩
        · by_cases h3 : t.f2 < 1
          · exact ⟨kt + 1, rt, by simp only [cull_Check.j0]; rw [if_neg (by simp), if_neg h1, if_neg h2, if_pos h3]; exact et, fun h => by cases (ht1 h).1⟩
          · obtain ⟨kq, rq, eq, hq⟩ := j1 (decide (t.f2 > 255))
            exact ⟨kq + 1, rq, by simp only [cull_Check.j0]; rw [if_neg (by simp), if_neg h1, if_neg h2, if_neg h3]; exact eq, fun h => by
              obtain ⟨h4, h5⟩ := hq h
              have := of_decide_eq_false h4
              exact ⟨rfl, by omega, by omega, by omega, by omega, h5⟩⟩
    · exact ⟨1, 3, by simp only [cull_Check.j0]; rw [if_pos trivial], fun h => by cases h⟩
  have main : ∀ b : Bool, (b = false → (t.f0 = 1 ∨ t.f0 = 2) ∧ (t.f3.length : Int) = t.f0 + 1) → ∃ k' r', cull_Check.j0 k' b t.f0 t.f1 t.f2 t.f3 = some r' ∧ (r' = 0 → OKT t) := by
    intro b hb
    obtain ⟨k', r', e', h'⟩ := j0 b
    refine ⟨k', r', e', fun h => ?_⟩
    obtain ⟨h1, h2, h3, h4, h5, h6⟩ := h' h
    obtain ⟨h7, h8⟩ := hb h1
    refine ⟨h7, h8, h2, h3, h4, h5, fun p hp => ?_⟩
    obtain ⟨i, hi, rfl⟩ := mem_rd43 hp
    exact hr h6 i (by omega) hi
  unfold cull_Check.f
  have hw : ∀ a : Int, a = 1 ∨ a = 2 → wrap64 (a + 1) = a + 1 := fun a h => by unfold wrap64; omega
  by_cases h1 : t.f0 = 1
  · simp only [if_pos h1]
    refine main _ fun h => ⟨.inl h1, ?_⟩
    rw [hw _ (.inl h1)] at h
    simpa using h
  · simp only [if_neg h1]
    by_cases h2 : t.f0 = 2
    · simp only [if_pos h2]
      refine main _ fun h => ⟨.inr h2, ?_⟩
      rw [hw _ (.inr h2)] at h
      simpa using h
    · simp only [if_neg h2]
      exact main true (fun h => by cases h)
theorem fits_f (p : S45) (h0 : -262144 ≤ p.f0.f0 ∧ p.f0.f0 ≤ 262144) (h1 : -262144 ≤ p.f0.f1 ∧ p.f0.f1 ≤ 262144) (h2 : 0 ≤ p.f2 ∧ p.f2 ≤ 1048576) : graph_fits.f 50 p.f0.f0 p.f0.f1 p.f1 p.f2 = some true := by
  obtain ⟨⟨x, y⟩, a, s⟩ := p
  simp only at h0 h1 h2 ⊢
  unfold graph_fits.f
  simp only [Option.bind_some]
  have w1 : wrap64 (0 + 1) = 1 := by unfold wrap64; omega
  have w2 : wrap64 (1 + 1) = 2 := by unfold wrap64; omega
  have r0 : rd [x, y] 0 = x := rfl
  have r1 : rd [x, y] 1 = y := rfl
  have key : ∀ k, graph_fits.l0 (k + 3) [x, y] (([x, y] : List Int).length : Int) 0 x y a s = some true := by
    intro k
    rw [show (([x, y] : List Int).length : Int) = 2 from rfl]
    simp only [graph_fits.l0]
    have hl : (([x, y] : List Int).length : Int) = 2 := rfl
    rw [if_pos (by decide), if_pos (by decide), if_pos (by rw [hl]; decide), r0, if_neg (by omega), if_neg (by omega), w1, if_pos (by decide), if_pos (by decide), if_pos (by rw [hl]; decide), r1, if_neg (by omega), if_neg (by omega), w2, if_neg (by decide), if_pos (by omega), decide_eq_true (by omega)]
  exact key 47
theorem first_pic : raster_Picture.f 200 [(⟨1, 0, 3, [⟨0, 0⟩, ⟨0, 0⟩]⟩ : S26)] 0 0 1 1 = some ([3], 0) := by kernel_rfl
end Go.Proofs.Ytffbonfgbmohdaa.P
namespace Go.Proofs.Ytffbonfgbmohdaa.P
open Go.RowKit Go.Proofs.YtffbonfgbmohdaaW.PrintWords Go.Proofs.YtffbonfgbmohdaaW.PrintLast Go.Proofs.YtffbonfgbmohdaaW.PrintMore
set_option linter.unusedVariables false
set_option linter.unusedSimpArgs false

theorem eq_l0 (l : List Int) (hl : l.length ≤ 100000) : ∀ (d i : Nat), l.length ≤ i + d → ∃ k, slices_Equal_int_int.l0 k l l (l.length : Int) i = some true
  | 0, i, hd => ⟨1, by simp only [slices_Equal_int_int.l0]; rw [if_neg (by omega)]⟩
  | d + 1, i, hd => by
    by_cases h : i < l.length
    · obtain ⟨k, hk⟩ := eq_l0 l hl d (i + 1) (by omega)
      refine ⟨k + 1, ?_⟩
      simp only [slices_Equal_int_int.l0]
      rw [if_pos (by omega), if_pos (by omega), if_pos (by omega), if_pos (by omega), if_pos trivial, show wrap64 ((i : Int) + 1) = ((i + 1 : Nat) : Int) by unfold wrap64; omega]
      exact hk
    · exact ⟨1, by simp only [slices_Equal_int_int.l0]; rw [if_neg (by omega)]⟩
theorem eq_self (l : List Int) (hl : l.length ≤ 100000) : Ev fun k => slices_Equal_int_int.f k l l = some true := by
  obtain ⟨k, hk⟩ := eq_l0 l hl l.length 0 (by omega)
  refine ⟨k, fun j hj => ?_⟩
  have h : slices_Equal_int_int.f k l l = some true := by
    unfold slices_Equal_int_int.f
    rw [if_pos rfl]
    exact hk
  exact lift_k (fun k => slices_Equal_int_int.mono l l k) h j hj
theorem view_f (X Y : Int) (w h : Nat) (hA : OKA X Y w h) : raster_View.f X Y w h = some (X * 65536, Y * 65536, (X + w) * 65536, (Y + h) * 65536) := by
  obtain ⟨w1, w2, h1, h2, x1, x2, y1, y2⟩ := hA
  unfold raster_View.f
  rw [w_in (X * 65536) _ rfl (by omega) (by omega), w_in (Y * 65536) _ rfl (by omega) (by omega), w_in (X + w) _ rfl (by omega) (by omega), w_in ((X + w) * 65536) _ rfl (by omega) (by omega), w_in (Y + h) _ rfl (by omega) (by omega), w_in ((Y + h) * 65536) _ rfl (by omega) (by omega)]
theorem pics_law (ts : List S26) (hl : ts.length ≤ 6) (ho : ∀ t ∈ ts, OKT t) (X Y : Int) (w h : Nat) (hA : OKA X Y w h) (hXw : X + w ≤ 1000) (hYh : Y + h ≤ 1000) (wt ht : Nat) (hwt : 1 ≤ wt ∧ wt ≤ 64) (hht : 1 ≤ ht ∧ ht ≤ 64) :
    ∃ (k : Nat) (da dv : List S26) (o : List Int), cull_Draw.f k ts (-1099511627776) (-1099511627776) 1099511627776 1099511627776 = some (da, 0) ∧ cull_Draw.f k ts (X * 65536) (Y * 65536) ((X + w) * 65536) ((Y + h) * 65536) = some (dv, 0) ∧
      raster_Picture.f k da X Y w h = some (o, 0) ∧ raster_Picture.f k dv X Y w h = some (o, 0) ∧ raster_Whole.f k dv X Y w h wt ht = some (o, 0) ∧ o.length = w * h ∧ slices_Equal_int_int.f k o o = some true := by
  have hw : w * h ≤ 4096 := pr_le (h := h) (a := 0) (w := h) (b := w) hA.h2 hA.w2
  obtain ⟨K1, d1⟩ := draw_f ts (by omega) ho (-1099511627776) (-1099511627776) 1099511627776 1099511627776
  obtain ⟨K2, d2⟩ := draw_f ts (by omega) ho (X * 65536) (Y * 65536) ((X + w) * 65536) ((Y + h) * 65536)
  have m1 : ∀ t ∈ drawn (-1099511627776) (-1099511627776) 1099511627776 1099511627776 ts, OKT t := fun t h => ho t (drawn_mem h)
  have m2 : ∀ t ∈ drawn (X * 65536) (Y * 65536) ((X + w) * 65536) ((Y + h) * 65536) ts, OKT t := fun t h => ho t (drawn_mem h)
  have n1 := drawn_len (-1099511627776) (-1099511627776) 1099511627776 1099511627776 ts
  have n2 := drawn_len (X * 65536) (Y * 65536) ((X + w) * 65536) ((Y + h) * 65536) ts
  obtain ⟨o1, i1, K3, d3⟩ := picture hA _ m1 (by omega)
  obtain ⟨o2, i2, K4, d4⟩ := picture hA _ m2 (by omega)
  obtain ⟨o3, i3, K5, d5⟩ := whole hA _ m2 (by omega) hXw hYh wt ht hwt hht
  have e2 : o2 = o1 := inv_eq hA.w1 (i2.congr fun a b ha hb => drawn_same hA ts ho a b ha hb) i1
  have e3 : o3 = o1 := inv_eq hA.w1 (i3.congr fun a b ha hb => drawn_same hA ts ho a b ha hb) i1
  subst e2 e3
  obtain ⟨K6, d6⟩ := eq_self o3 (by rw [i3.1]; omega)
  exact ⟨K1 + K2 + K3 + K4 + K5 + K6, _, _, o3, d1 _ (by omega), d2 _ (by omega), d3 _ (by omega), d4 _ (by omega), d5 _ (by omega), i3.1, d6 _ (by omega)⟩
end Go.Proofs.Ytffbonfgbmohdaa.P
