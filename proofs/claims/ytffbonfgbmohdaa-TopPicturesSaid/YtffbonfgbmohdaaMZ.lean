/- Package tourtop: TopPictures, its walk. Condition: the rows of numbers are read. TopPictures: its walk, over rows as the row of the law has them. -/
import Derived.Test.YtffbonfgbmohdaaMG
import Derived.Test.YtffbonfgbmohdaaMB
import Derived.Test.YtffbonfgbmohdaaMR
import Derived.Test.YtffbonfgbmohdaaPAllx11
import Derived.Test.YtffbonfgbmohdaaPAllx12
import Derived.Test.YtffbonfgbmohdaaPAllx1
import Derived.Test.YtffbonfgbmohdaaPAllx10
import Derived.Test.YtffbonfgbmohdaaPAllx25
import Derived.Test.YtffbonfgbmohdaaPM2
import Derived.Test.YtffbonfgbmohdaaPAllx9
import Derived.Test.YtffbonfgbmohdaaPAllx23
namespace Go.Proofs.Ytffbonfgbmohdaa.P
open Go.RowKit Go.Proofs.YtffbonfgbmohdaaW.PrintWords Go.Proofs.YtffbonfgbmohdaaW.PrintLast Go.Proofs.YtffbonfgbmohdaaW.PrintMore
set_option linter.unusedVariables false
set_option linter.unusedSimpArgs false

theorem k26_one {W : World} {g : Nat} {a b c : Int} {v : Value} {l : List S43} (HL : W.heap[g]? = some (.cells #[.int .i64 a, .int .i64 b, .int .i64 c, v] 26 (0, 0))) {base : Nat} {ok : Nat → Prop} (hv : k43.R 43 W base ok v l) :
    Kd.C k26 W (some ⟨g, 0, none⟩) [(⟨a, b, c, l⟩ : S26)].length [(⟨a, b, c, l⟩ : S26)] := by
  refine ReadsRow.imp_ (lit_reads k26 (p := ⟨a, b, c, l⟩) (cs := [.int .i64 a, .int .i64 b, .int .i64 c, v]) rfl HL) (Below.refl _ _) ?_
  rintro _ _ ⟨rfl, rfl⟩
  obtain ⟨A, n, e, hl, hC⟩ := Kd.R_reads hv
  exact ⟨_, _, rfl, rfl, ⟨_, _, rfl, rfl, ⟨_, _, rfl, rfl, ⟨A, n, by rw [e], hl, hC⟩⟩⟩⟩
theorem int_one {W : World} {g : Nat} {x : Int} (HL : W.heap[g]? = some (.cells #[.int .i64 x] 3 (0, 0))) : Kd.C (Kd.int .i64) W (some ⟨g, 0, none⟩) [x].length [x] := by
  refine ReadsRow.imp_ (lit_reads (Kd.int .i64) (p := x) (cs := [.int .i64 x]) rfl HL) (Below.refl _ _) ?_
  rintro _ _ ⟨rfl, rfl⟩
  rfl
theorem eq_33 : slices_Equal_int_int.f 20 [3] [3] = some true := by kernel_rfl
theorem below_of_drawn {w w' : World} (h : Drawn0 w w') : Below w.heap.size w w' := by
  obtain ⟨m, rfl⟩ := h
  exact pw_below_drewN (Below.refl _ _) m
theorem ad_off (g m j : Nat) : (⟨g, 0, none⟩ : Addr).add (m + j) = ⟨((⟨g, 0, none⟩ : Addr).add m).block, ((⟨g, 0, none⟩ : Addr).add m).off + j, none⟩ := by
  rw [add_at, add_at, Nat.zero_add, Nat.zero_add]
theorem R43_put {W : World} {base gx n cap : Nat} {ok : Nat → Prop} {xs : List S43} (h : k43.R 43 W base ok (.slice (some ⟨gx, 0, none⟩) n cap) xs) (m : Nat) (hm : m < n) (x : S43) :
    k43.R 43 ((W.setCell ⟨gx, m * 2, none⟩ (.int .i64 x.f0)).setCell ⟨gx, m * 2 + 1, none⟩ (.int .i64 x.f1)) base ok (.slice (some ⟨gx, 0, none⟩) n cap) (xs.set m x) ∧ W.grownBy ((W.setCell ⟨gx, m * 2, none⟩ (.int .i64 x.f0)).setCell ⟨gx, m * 2 + 1, none⟩ (.int .i64 x.f1)) (some gx) := by
  obtain ⟨c, hcl, hM, hcc, _⟩ := Kd.R_elem h z43 (m : Int) (by omega) (by omega)
  exact Kd.R_seg h (m : Int) (by omega) (by omega) (j := 0) (seg := [.int .i64 x.f0, .int .i64 x.f1]) (x' := x) (okp := fun _ => False) hcl hcc (by show 2 ≤ 2; omega) (by
    have : c.length = 2 := hcl
    have e : c.take 0 ++ [.int .i64 x.f0, .int .i64 x.f1] ++ c.drop (0 + [Value.int .i64 x.f0, .int .i64 x.f1].length) = [.int .i64 x.f0, .int .i64 x.f1] := by simp [this]
    rw [e]
    exact k43_mkM _ _ _ x) (fun _ hk => hk.elim)
theorem cfar2 {W : World} {a : Addr} {g : Nat} {v : Value} (hc : W.cell? a = some v) (h : a.block ≠ g) (i j : Nat) (x y : Value) : ((W.setCell ⟨g, i, none⟩ x).setCell ⟨g, j, none⟩ y).cell? a = some v :=
  ((cell_far (p := ⟨g, j, none⟩) h y).trans (cell_far (p := ⟨g, i, none⟩) h x)).trans hc
theorem rd26_set_self (ts : List S26) (x : S26) {i : Nat} (h : i < ts.length) : rd_T26 (ts.set i x) (i : Int) = x := by
  unfold rd_T26
  rw [Int.toNat_natCast, List.getD_eq_getElem?_getD, List.getElem?_set_self h]
  rfl
theorem rd26_set_ne (ts : List S26) (x : S26) {i k : Nat} (h : i ≠ k) : rd_T26 (ts.set i x) (k : Int) = rd_T26 ts (k : Int) := by
  unfold rd_T26
  rw [Int.toNat_natCast, List.getD_eq_getElem?_getD, List.getElem?_set_ne h, ← List.getD_eq_getElem?_getD]
theorem mem_rd26 {l : List S26} {p : S26} (h : p ∈ l) : ∃ i : Nat, i < l.length ∧ rd_T26 l (i : Int) = p := by
  obtain ⟨i, hi, e⟩ := List.getElem_of_mem h
  refine ⟨i, hi, ?_⟩
  unfold rd_T26
  rw [Int.toNat_natCast, List.getD_eq_getElem?_getD, List.getElem?_eq_getElem hi]
  exact e
theorem i64w (n : Int) (h : -9223372036854775808 ≤ n ∧ n ≤ 9223372036854775807) : IntKind.i64.wrap n = n := by rw [IntKind.wrap_i64]; omega
theorem zero5 (m : Nat) (h : m < 5) : (#[.int .i64 0, .int .i64 0, .int .i64 0, .int .i64 0, .int .i64 0] : Array Value)[m]? = some (.int .i64 0) := by
  rcases (by omega : m = 0 ∨ m = 1 ∨ m = 2 ∨ m = 3 ∨ m = 4) with rfl | rfl | rfl | rfl | rfl <;> rfl
theorem T_new (w : World) : Calls Try.prog 6 #[] w fun e w' => ∃ g, e = .returned (.pointer (some ⟨g, 0, none⟩)) ∧ w'.heap[g]? = some (.cells #[.slice none 0 0, .slice none 0 0, .slice none 0 0, .slice none 0 0, .int .i64 0] 67 (0, 0)) ∧ w.heap.size ≤ g ∧ Below w.heap.size w w' := by
  have HB := below_alloc (Below.refl w.heap.size w) (.cells #[.slice none 0 0, .slice none 0 0, .slice none 0 0, .slice none 0 0, .int .i64 0] 67)
  have HX := blk_new w (.cells #[.slice none 0 0, .slice none 0 0, .slice none 0 0, .slice none 0 0, .int .i64 0] 67)
  go_enter Try.func6, Try.ntmps6
  go_wp2_with (fail)
  go_ret
  exact ⟨_, rfl, HX, Nat.le_refl _, HB⟩
set_option maxHeartbeats 16000000 in
set_option maxRecDepth 100000 in
theorem T_pics (w : World) (A0 A1 : Option Addr) (c0 c1 : Nat) (L0 L1 : List Int) (v0 v1 v2 v3 kw kh : Int) (hC0 : Kd.C (Kd.int .i64) w A0 L0.length L0) (hc0 : L0.length ≤ c0) (hl0 : (L0.length : Int) ≤ 4611686018427387904)
    (hC1 : Kd.C (Kd.int .i64) w A1 L1.length L1) (hc1 : L1.length ≤ c1) (hl1 : (L1.length : Int) ≤ 4611686018427387904) :
    Calls Try.prog 3 #[.slice A0 L0.length c0, .slice A1 L1.length c1, .agg #[.int .i64 v0, .int .i64 v1, .int .i64 v2, .int .i64 v3], .int .i64 kw, .int .i64 kh] w fun e w' => e = .returned (.bool true) ∧ Below w.heap.size w w' := by
  have HA := Aside0.mk (And.intro hC0 (And.intro hc0 hl0))
  have HA1 := Aside0.mk (And.intro hC1 (And.intro hc1 hl1))
  clear hC0 hc0 hl0 hC1 hc1 hl1
  go_enter Try.func3, Try.ntmps3
  go_upto_region 1 with (fail)
  have HX := Aside0.mk (blk_new w (.cells #[.int .i64 v0, .int .i64 v1, .int .i64 v2, .int .i64 v3] 23))
  have HB := Aside0.mk (below_alloc (Below.refl w.heap.size w) (.cells #[.int .i64 v0, .int .i64 v1, .int .i64 v2, .int .i64 v3] 23))
  have HG := Aside0.mk (Nat.le_refl w.heap.size)
  generalize w.alloc (.cells #[.int .i64 v0, .int .i64 v1, .int .i64 v2, .int .i64 v3] 23) = w1 at HX HB ⊢
  obtain ⟨b7, hb7⟩ : ∃ b, w.heap.size = b := ⟨_, rfl⟩
  rw [show (Value.pointer (some ⟨w.heap.size, 0, none⟩)) = Value.pointer (some ⟨b7, 0, none⟩) from by rw [hb7]]
  rw [hb7] at HX
  have HG := Aside0.mk (show w.heap.size ≤ b7 by omega)
  clear hb7
  go_upto_region 2 with (((with_reducible refine gate_dst (N := 38) rfl ?_); refine Kd.R_make k43 (w0 := w) w.heap.size 43 rfl (N := 38) rfl 24 _ _ rfl 2 rfl rfl Try.underlying24 (.agg #[.int .i64 0, .int .i64 0]) 16 info43 rfl (by decide) (by decide) z43 (ok := fun _ => True) (okp := fun _ => False) (k43_mkM _ _ _ z43) (fun _ hk => hk.elim) trivial (by decide) (by decide) HB.out HB.out.size ?_; intro vp w2 hp hb hg hat; obtain ⟨Ap, cp, ep⟩ := Kd.R_slice hp; replace ep : vp = .slice Ap 2 cp := (by rw [ep]; rfl); subst ep))
  have HT := Aside0.mk (blk_new w2 (.cells #[.int .i64 1, .int .i64 0, .int .i64 3, .slice Ap 2 cp] 26))
  have b1 := below_alloc (Below.refl w2.heap.size w2) (.cells #[.int .i64 1, .int .i64 0, .int .i64 3, .slice Ap 2 cp] 26)
  have HP := Aside0.mk (Kd.R_below hp b1)
  have HB := Aside0.mk (below_step hb b1)
  have HX := Aside0.mk (blk_below (blk_grown HX.out hg (by simp)) b1)
  generalize w2.heap.size = b11 at HT ⊢
  generalize w2.alloc (.cells #[.int .i64 1, .int .i64 0, .int .i64 3, .slice Ap 2 cp] 26) = w3 at HT HP HB HX ⊢
  clear hp hb hg hat b1
  obtain ⟨r0, r1, r2, r3, _⟩ := f4 HT.out
  go_wp2_with (fail)
  have b1 := below_alloc (Below.refl w3.heap.size w3) (.cells #[.int .i64 1, .int .i64 0, .int .i64 3, .slice Ap 2 cp] 26)
  refine (raster_Picture.calls 200 (some ⟨w3.heap.size, 0, none⟩) 1 [(⟨1, 0, 3, [z43, z43]⟩ : S26)] 0 0 1 1 [3] 0 _ (k26_one (blk_new w3 (.cells #[.int .i64 1, .int .i64 0, .int .i64 3, .slice Ap 2 cp] 26)) (Kd.R_below HP.out b1)) (Nat.le_refl _) first_pic).mono ?_
  rintro e w4 ⟨vq, rfl, hq, hb⟩
  obtain ⟨Aq, cq, eq⟩ := Kd.R_slice hq
  subst eq
  have hb := below_step b1 hb
  have HB := Aside0.mk (below_step HB.out hb)
  have HX := Aside0.mk (blk_below HX.out hb)
  have HQ := Aside0.mk hq
  clear HT HP hb hq b1 r0 r1 r2 r3
  go_wp2_with (fail)
  have b1 := below_alloc (Below.refl w4.heap.size w4) (.cells #[.int .i64 3] 3)
  have hc := (Kd.R_reads' (Kd.R_below HQ.out b1))
  refine (slices_Equal_int_int.calls 20 Aq cq [3] (some ⟨w4.heap.size, 0, none⟩) 1 [3] true _ hc.2.2 hc.2.1 (int_one (blk_new w4 (.cells #[.int .i64 3] 3))) (Nat.le_refl _) eq_33).mono ?_
  rintro e w5 ⟨rfl, hb⟩
  have hb := below_step b1 (below_of_drawn hb)
  have HB := Aside0.mk (below_step HB.out hb)
  have HX := Aside0.mk (blk_below HX.out hb)
  clear HQ hb b1 hc
  go_wp2_with (fail)
  refine (T_new w5).mono ?_
  rintro e w6 ⟨g14, rfl, hg, hgb, hb⟩
  have HG := Aside0.mk (And.intro hg (Nat.le_trans HB.out.size hgb))
  have HB := Aside0.mk (below_step HB.out hb)
  have HX := Aside0.mk (blk_below HX.out hb)
  clear hb hg hgb
  go_wp2_with (fail)
  refine (tourref5_From.calls A1 c1 L1 L1 0 w w6 HB.out HA1.out.1 HA1.out.2.1 rfl).mono ?_
  rintro e w7 ⟨g15, rfl, hS, _, hb⟩
  have HG := Aside0.mk (And.intro (blk_below HG.out.1 hb) HG.out.2)
  have HB := Aside0.mk (below_step HB.out hb)
  have HX := Aside0.mk (blk_below HX.out hb)
  have HS := Aside0.mk hS
  clear hb hS
  obtain ⟨kT, ts, hT, hm⟩ := things_f L0 HA.out.2.2
  have HM := Aside0.mk hm
  have HTT := Aside0.mk hT
  clear hT hm
  go_wp2_with (fail)
  refine (tourref5_Things.calls kT A0 c0 L0 ts w7 (Kd.C_below HA.out.1 HB.out) HA.out.2.1 HTT.out).mono ?_
  rintro e w8 ⟨vr, rfl, hr, hb⟩
  obtain ⟨Ar, cr, er⟩ := Kd.S_slice hr
  subst er
  have HR := Aside0.mk (Kd.S_lower hr HB.out.size)
  have HG := Aside0.mk (And.intro (blk_below HG.out.1 hb) HG.out.2)
  have HB := Aside0.mk (below_step HB.out hb)
  have HX := Aside0.mk (blk_below HX.out hb)
  have HS := Aside0.mk (HS.out.below hb)
  clear hb hr HTT
  have HN := Aside0.mk (show ts.length ≤ 6 from HM.out.1)
  have HPS := Aside0.mk (show PS w w8 b7 g14 g15 #[.int .i64 v0, .int .i64 v1, .int .i64 v2, .int .i64 v3] L1 (.slice Ar ts.length cr) 0 ⟨none, none, none, none, 0, 0, 0, 0, 0, [], [], [], []⟩ 0 ts from
    ⟨⟨HB.out, KT.refl _, HG.out.2, HG.out.1, Kd.R_nil _ _ _ _ _, Kd.R_nil _ _ _ _ _, Kd.R_nil _ _ _ _ _, Kd.R_nil _ _ _ _ _⟩, HS.out, HX.out, HR.out⟩)
  have HSA := Aside0.mk (show SrcAt L1 0 from ⟨HA1.out.2.2, by omega, by omega⟩)
  obtain ⟨n, hn⟩ : ∃ n, ts.length = n := ⟨_, rfl⟩
  rw [show (Value.slice Ar ts.length cr) = Value.slice Ar n cr from by rw [hn]] at HPS
  have HM2 := Aside0.mk (And.intro hn HM.out.2)
  rw [hn] at HN
  clear HX HB HG HS HR HM HA
  rw [hn]
  clear hn
  go_wp2_with (fail)
  go_loopg [64] n (fun kq v64 w' => ∃ (i : Nat) (s : Scn) (j : Int) (ts : List S26), v64 = .int .i64 (i : Int) ∧ Aside0 (kq = n - i ∧ i ≤ n ∧ ts.length = n ∧ SrcAt L1 j ∧ (∀ q, q < i → OKT (rd_T26 ts (q : Int))) ∧ (∀ t ∈ ts, t.f3.length ≤ 3) ∧ (∀ q, q < i → s.kn.getD q false = true)) ∧ Aside0 (PS w w' b7 g14 g15 #[.int .i64 v0, .int .i64 v1, .int .i64 v2, .int .i64 v3] L1 (.slice Ar n cr) i s j ts))
  case atStart => exact ⟨0, _, 0, ts, rfl, ⟨by omega, by omega, HM2.out.1, HSA.out, fun q h => by omega, HM2.out.2, fun q h => by omega⟩, HPS⟩
  case round =>
    clear HPS HSA HM2
    obtain ⟨i, s, j, ts, rfl, HJ, HPS⟩ := hrel
    by_cases hi : i < n
    · have i0 : (0 : Int) ≤ (i : Int) := by omega
      have i1 : (i : Int) < (n : Int) := by omega
      obtain ⟨r1, j1, e1, a1, b1, hj1⟩ := src_some L1 j (wrap64 ((i : Int) + 1)) HJ.out.2.2.2.1 (by have := HN.out; unfold wrap64; omega) (by have := HN.out; unfold wrap64; omega)
      obtain ⟨r2, j2, e2, a2, b2, hj2⟩ := src_some L1 j1 524288 hj1 (by decide) (by decide)
      obtain ⟨r3, j3, e3, a3, b3, hj3⟩ := src_some L1 j2 524288 hj2 (by decide) (by decide)
      obtain ⟨r4, j4, e4, a4, b4, hj4⟩ := src_some L1 j3 65536 hj3 (by decide) (by decide)
      obtain ⟨r5, j5, e5, a5, b5, hj5⟩ := src_some L1 j4 65536 hj4 (by decide) (by decide)
      have HE := Aside0.mk (And.intro e1 (And.intro e2 (And.intro e3 (And.intro e4 e5))))
      have HE1 := Aside0.mk (And.intro a1 (show r1 ≤ i by have := HN.out; unfold wrap64 at b1; omega))
      have HE2 := Aside0.mk (And.intro a2 (And.intro b2 (And.intro a3 (And.intro b3 (And.intro a5 b5)))))
      have HE5 := Aside0.mk hj5
      clear e1 e2 e3 e4 e5 a1 b1 a2 b2 a3 b3 a4 b4 a5 b5 hj1 hj2 hj3 hj4 hj5
      go_wp2_with (fail)
      refine (tourref5_Source_N.calls g15 L1 j _ r1 j1 w wr HPS.out.src HPS.out.mid.bel HE.out.1).mono ?_
      rintro e w9 ⟨rfl, hs, hb, hk⟩
      replace HPS := Aside0.mk (HPS.out.num hs hb hk)
      clear hs hb hk
      go_wp2_with (fail)
      refine (tourref5_Source_N.calls g15 L1 j1 _ r2 j2 w _ HPS.out.src HPS.out.mid.bel HE.out.2.1).mono ?_
      rintro e w10 ⟨rfl, hs, hb, hk⟩
      replace HPS := Aside0.mk (HPS.out.num hs hb hk)
      clear hs hb hk
      go_wp2_with (fail)
      refine (tourref5_Source_N.calls g15 L1 j2 _ r3 j3 w _ HPS.out.src HPS.out.mid.bel HE.out.2.2.1).mono ?_
      rintro e w11 ⟨rfl, hs, hb, hk⟩
      replace HPS := Aside0.mk (HPS.out.num hs hb hk)
      clear hs hb hk
      go_wp2_with (fail)
      refine (tourref5_Source_N.calls g15 L1 j3 _ r4 j4 w _ HPS.out.src HPS.out.mid.bel HE.out.2.2.2.1).mono ?_
      rintro e w12 ⟨rfl, hs, hb, hk⟩
      replace HPS := Aside0.mk (HPS.out.num hs hb hk)
      clear hs hb hk
      go_wp2_with (fail)
      refine (tourref5_Source_N.calls g15 L1 j4 _ r5 j5 w _ HPS.out.src HPS.out.mid.bel HE.out.2.2.2.2).mono ?_
      rintro e w13 ⟨rfl, hs, hb, hk⟩
      replace HPS := Aside0.mk (HPS.out.num hs hb hk)
      clear hs hb hk
      go_wp2_with (fail)
      have hup : -1 ≤ wrap64 (r1 - 1) ∧ wrap64 (r1 - 1) < i := by have h1 := HE1.out.1; have h2 := HE1.out.2; have := HN.out; unfold wrap64; omega
      have hf := fits_f (⟨⟨wrap64 (r2 - 262144), wrap64 (r3 - 262144)⟩, r4, wrap64 (32768 + r5)⟩ : S45)
        (by obtain ⟨h1, h2, h3, h4, h5, h6⟩ := HE2.out; show -262144 ≤ wrap64 (r2 - 262144) ∧ wrap64 (r2 - 262144) ≤ 262144; unfold wrap64; omega)
        (by obtain ⟨h1, h2, h3, h4, h5, h6⟩ := HE2.out; show -262144 ≤ wrap64 (r3 - 262144) ∧ wrap64 (r3 - 262144) ≤ 262144; unfold wrap64; omega)
        (by obtain ⟨h1, h2, h3, h4, h5, h6⟩ := HE2.out; show 0 ≤ wrap64 (32768 + r5) ∧ wrap64 (32768 + r5) ≤ 1048576; unfold wrap64; omega)
      obtain ⟨AU, AO, AK, AW, cU, cO, cK, cW, cnt, ups, own, kn, who⟩ := s
      refine (T_add w w13 w13 g14 AU AO AK AW cU cO cK cW i cnt ups own kn who HPS.out.mid (by have := HN.out; omega) (wrap64 (r1 - 1)) hup.1 hup.2 ⟨⟨wrap64 (r2 - 262144), wrap64 (r3 - 262144)⟩, r4, wrap64 (32768 + r5)⟩ hf).mono ?_
      rintro e w14 ⟨rfl, BU, BO, BK, BW, dU, dO, dK, dW, hM⟩
      have hln : ups.length = i ∧ kn.length = i := ⟨(Kd.R_reads' HPS.out.mid.rU).1.symm, (Kd.R_reads' HPS.out.mid.rK).1.symm⟩
      replace HPS := Aside0.mk (HPS.out.scene (s' := ⟨BU, BO, BK, BW, dU, dO, dK, dW, cnt, ups ++ [wrap64 (r1 - 1)], own ++ [⟨⟨wrap64 (r2 - 262144), wrap64 (r3 - 262144)⟩, r4, wrap64 (32768 + r5)⟩], kn ++ [false], who ++ [⟨⟨0, 0⟩, 0, 0⟩]⟩) (i' := i + 1) hM)
      obtain ⟨gK, capK, eK, _, _, _⟩ := Kd.R_form hM.rK (by simp)
      injection eK with eK _ _
      subst eK
      obtain ⟨gW, capW, eW, _, _, _⟩ := Kd.R_form hM.rW (by simp)
      injection eW with eW _ _
      subst eW
      have hA := T_At w w14 w14 g14 BU BO gK gW dU dO dK dW (i + 1) cnt _ _ _ _ HPS.out.mid i (by omega) (by simp [List.getD_eq_getElem?_getD, List.getElem?_append_right, hln.2]) (wrap64 (r1 - 1)) (by simp [List.getD_eq_getElem?_getD, List.getElem?_append_right, hln.1]) (by
        rcases Int.le_iff_lt_or_eq.1 hup.1 with h | h
        · refine .inr ⟨(wrap64 (r1 - 1)).toNat, by omega, by omega, ?_⟩
          have h2 := HJ.out.2.2.2.2.2.2 (wrap64 (r1 - 1)).toNat (by omega)
          rw [List.getD_eq_getElem?_getD, List.getElem?_append_left (by have := hln.2; omega), ← List.getD_eq_getElem?_getD]
          exact h2
        · exact .inl h.symm)
      have HAt := Aside0.mk hA
      have HLN := Aside0.mk hln
      clear hup hf hM hA hln
      go_wp2_with (fail)
      refine HAt.out.mono ?_
      rintro e w15 ⟨q, rfl, cnt', hM, _⟩
      replace HPS := Aside0.mk (HPS.out.scene (s' := ⟨BU, BO, some ⟨gK, 0, none⟩, some ⟨gW, 0, none⟩, dU, dO, dK, dW, cnt', ups ++ [wrap64 (r1 - 1)], own ++ [⟨⟨wrap64 (r2 - 262144), wrap64 (r3 - 262144)⟩, r4, wrap64 (32768 + r5)⟩], (kn ++ [false]).set i true, (who ++ [(⟨⟨0, 0⟩, 0, 0⟩ : S45)]).set i q⟩) (i' := i + 1) hM)
      have HKN := Aside0.mk (show ∀ x, x < i + 1 → ((kn ++ [false]).set i true).getD x false = true from fun x hx => by
        rw [List.getD_eq_getElem?_getD]
        by_cases he : x = i
        · subst he
          rw [List.getElem?_set_self (by simp [HLN.out.2])]
          rfl
        · rw [List.getElem?_set_ne (Ne.symm he), List.getElem?_append_left (by have := HLN.out.2; omega), ← List.getD_eq_getElem?_getD]
          exact HJ.out.2.2.2.2.2.2 x (by omega))
      clear hM HAt HLN HE HE1 HE2
      generalize hs' : (⟨BU, BO, some ⟨gK, 0, none⟩, some ⟨gW, 0, none⟩, dU, dO, dK, dW, cnt', ups ++ [wrap64 (r1 - 1)], own ++ [⟨⟨wrap64 (r2 - 262144), wrap64 (r3 - 262144)⟩, r4, wrap64 (32768 + r5)⟩], (kn ++ [false]).set i true, (who ++ [(⟨⟨0, 0⟩, 0, 0⟩ : S45)]).set i q⟩ : Scn) = s at HPS
      replace HKN : Aside0 (∀ x, x < i + 1 → s.kn.getD x false = true) := ⟨by rw [← hs']; exact HKN.out⟩
      clear hs'
      go_upto_region 17 with (fail)
      have b1 := below_alloc (Below.refl w15.heap.size w15) (.cells #[.int .i64 q.f0.f0, .int .i64 q.f0.f1, .int .i64 q.f1, .int .i64 q.f2] 45)
      have HQ := Aside0.mk (blk_new w15 (.cells #[.int .i64 q.f0.f0, .int .i64 q.f0.f1, .int .i64 q.f1, .int .i64 q.f2] 45))
      replace HPS := Aside0.mk (HPS.out.below b1)
      generalize w15.heap.size = b20 at HQ ⊢
      generalize w15.alloc (.cells #[.int .i64 q.f0.f0, .int .i64 q.f0.f1, .int .i64 q.f1, .int .i64 q.f2] 45) = w16 at HQ HPS ⊢
      clear b1
      have htn : ts.length = n := HJ.out.2.2.1
      obtain ⟨gr, capr, er, hgb, _, _⟩ := Kd.S_form HPS.out.row (by omega)
      injection er with er1 er2 er3
      subst er1 er3
      clear er2
      obtain ⟨oki, c, hcl, hMc, hcc, hok, hclose⟩ := Kd.S_borrow HPS.out.row z26 (i : Int) i0 i1
      obtain ⟨vp, ec, hRp⟩ := k26_openM hMc
      obtain ⟨Ax, cx, ep⟩ := Kd.R_slice hRp
      subst ep
      clear hMc
      obtain ⟨t, ht⟩ : ∃ t, rd_T26 ts (i : Int) = t := ⟨_, rfl⟩
      have ht' : ts.getD (i : Int).toNat z26 = t := ht
      rw [ht'] at ec hRp
      subst ec
      obtain ⟨ad, had⟩ : ∃ ad : Addr, ad = ⟨gr, 0, none⟩ := ⟨_, rfl⟩
      rw [Int.toNat_natCast] at hcc
      have hc0 : w16.cell? (ad.add (i * 4)) = some (.int .i64 t.f0) := by rw [had]; exact hcc 0 _ rfl
      have hc1 : w16.cell? ⟨(ad.add (i * 4)).block, (ad.add (i * 4)).off + 1, none⟩ = some (.int .i64 t.f1) := by rw [had, ← ad_off]; exact hcc 1 _ rfl
      have hc2 : w16.cell? ⟨(ad.add (i * 4)).block, (ad.add (i * 4)).off + 2, none⟩ = some (.int .i64 t.f2) := by rw [had, ← ad_off]; exact hcc 2 _ rfl
      have hc3 : w16.cell? ⟨(ad.add (i * 4)).block, (ad.add (i * 4)).off + 3, none⟩ = some (.slice Ax t.f3.length cx) := by rw [had, ← ad_off]; exact hcc 3 _ rfl
      have HCL := Aside0.mk (fun (w1 : World) (row : Option Nat) (x' : S26) => @hclose w1 row x')
      have HOK := Aside0.mk (And.intro hok had)
      have HRP := Aside0.mk hRp
      have HLEN := Aside0.mk (show t.f3.length ≤ 3 from HJ.out.2.2.2.2.2.1 t (by rw [← ht]; exact rd26_mem (by omega)))
      have HTN := Aside0.mk (And.intro htn (And.intro ht hgb))
      rw [show (Value.slice (some ⟨gr, 0, none⟩) n cr) = Value.slice (some ad) n cr from by rw [had]]
      clear hclose hok hcc hcl ht' htn had hRp ht hgb
      go_wp2_with (fail)
      go_loopg [113] t.f3.length (fun kq v113 w' => ∃ (m : Nat) (pts : List S43), v113 = .int .i64 (m : Int) ∧ Aside0 (kq = t.f3.length - m ∧ m ≤ t.f3.length ∧ pts.length = t.f3.length) ∧ Aside0 (k43.R 43 w' w.heap.size oki (.slice Ax t.f3.length cx) pts ∧ w16.grownBy w' (Value.slice Ax t.f3.length cx).ownBlock))
      case atStart => exact ⟨0, t.f3, rfl, ⟨by omega, by omega, rfl⟩, ⟨HRP.out, World.grownBy.refl _ _⟩⟩
      case round =>
        obtain ⟨m, pts, rfl, HL, HRG⟩ := hrel
        have HC := Aside0.mk (And.intro hc0 (And.intro hc1 (And.intro hc2 hc3)))
        clear hc0 hc1 hc2 hc3
        by_cases hm : m < t.f3.length
        · have m0 : (0 : Int) ≤ (m : Int) := by omega
          have m1 : (m : Int) < (t.f3.length : Int) := by omega
          obtain ⟨gx, capx, ex, hxb, _, _⟩ := Kd.R_form HRG.out.1 (by have := HL.out.2.2; omega)
          injection ex with ex1 ex2 ex3
          subst ex1 ex3
          obtain ⟨c, hcl, hM, hcc, hcf⟩ := Kd.R_elem HRG.out.1 z43 (m : Int) m0 m1
          have hec := k43_openM hM
          subst hec
          simp only [Int.toNat_natCast] at hcc hcf
          generalize pts.getD m z43 = p at hcc hcl
          have p0 : wr.cell? ⟨gx, m * 2, none⟩ = some (.int .i64 p.f0) := hcc 0 _ rfl
          have p1 : wr.cell? ⟨gx, m * 2 + 1, none⟩ = some (.int .i64 p.f1) := hcc 1 _ rfl
          clear hcc hcl hM ex2 hcf
          go_upto_region 20 with (fail)
          have b1 := below_alloc (Below.refl wr.heap.size wr) (.cells #[.int .i64 p.f0, .int .i64 p.f1] 43)
          have HZ := Aside0.mk (blk_new wr (.cells #[.int .i64 p.f0, .int .i64 p.f1] 43))
          have HRG2 := Aside0.mk (show k43.R 43 (wr.alloc (.cells #[.int .i64 p.f0, .int .i64 p.f1] 43)) w.heap.size oki (.slice (some ⟨gx, 0, none⟩) t.f3.length cx) pts ∧ w16.grownBy (wr.alloc (.cells #[.int .i64 p.f0, .int .i64 p.f1] 43)) (some gx) from ⟨Kd.R_below HRG.out.1 b1, HRG.out.2.trans (grown_of_below b1 _)⟩)
          have gz : wr.heap.size ≠ gx := fun e => by have := Kd.R_lt HRG.out.1 gx rfl; omega
          generalize wr.heap.size = b23 at HZ gz ⊢
          generalize wr.alloc (.cells #[.int .i64 p.f0, .int .i64 p.f1] 43) = w17 at HZ HRG2 ⊢
          clear b1 p0 p1
          have q20 : b20 ≠ gx := fun e => by
            obtain ⟨cs, h⟩ := Kd.R_typed HRP.out gx rfl
            rw [← e, HQ.out] at h
            injection h with h
            injection h with _ h
            exact absurd h (by decide)
          have qr : gr ≠ gx := fun e => (HOK.out.1 gx (HRP.out.1 gx rfl)).2 (by rw [e]; rfl)
          have har : (ad.add (i * 4)).block = gr := by rw [HOK.out.2, add_at]
          have qr2 : (ad.add (i * 4)).block ≠ gx := by rw [har]; exact qr
          have HQ2 := Aside0.mk (blk_grown HQ.out HRG2.out.2 (fun e => q20 (by injection e)))
          have y3 := World.grownBy.cell HRG2.out.2 HC.out.2.2.2 (fun e => qr2 (by injection e))
          obtain ⟨z0, z1, z2, z3, _⟩ := f4 HQ2.out
          have u0 : w17.cell? ⟨b23, 0, none⟩ = some (.int .i64 p.f0) := (blk_cell HZ.out 0).trans rfl
          have u1 : w17.cell? ⟨b23, 1, none⟩ = some (.int .i64 p.f1) := (blk_cell HZ.out 1).trans rfl
          have lr := World.block_lt_of_cell? w17 _ y3
          have lq := World.block_lt_of_cell? w17 _ z0
          have lz := World.block_lt_of_cell? w17 _ u0
          have HK := Aside0.mk (show ∀ W, Below w17.heap.size w17 W → W.cell? ⟨(ad.add (i * 4)).block, (ad.add (i * 4)).off + 3, none⟩ = some (.slice (some ⟨gx, 0, none⟩) t.f3.length cx) ∧ W.cell? ⟨b20, 0, none⟩ = some (.int .i64 q.f0.f0) ∧ W.cell? ⟨b20, 1, none⟩ = some (.int .i64 q.f0.f1) ∧ W.cell? ⟨b20, 2, none⟩ = some (.int .i64 q.f1) ∧ W.cell? ⟨b20, 3, none⟩ = some (.int .i64 q.f2) ∧ W.cell? ⟨b23, 0, none⟩ = some (.int .i64 p.f0) ∧ W.cell? ⟨b23, 1, none⟩ = some (.int .i64 p.f1) from fun W h =>
            ⟨(h.cell lr).trans y3, (h.cell (p := ⟨b20, 0, none⟩) lq).trans z0, (h.cell (p := ⟨b20, 1, none⟩) lq).trans z1, (h.cell (p := ⟨b20, 2, none⟩) lq).trans z2, (h.cell (p := ⟨b20, 3, none⟩) lq).trans z3, (h.cell (p := ⟨b23, 0, none⟩) lz).trans u0, (h.cell (p := ⟨b23, 1, none⟩) lz).trans u1⟩)
          have HRk := Aside0.mk (show ∀ W, Below w17.heap.size w17 W → W.frozen? ⟨gx, m * 2, none⟩ = false ∧ W.frozen? ⟨gx, m * 2 + 1, none⟩ = false ∧ gx < W.heap.size ∧ (∃ a b, W.cell? ⟨gx, m * 2, none⟩ = some a ∧ W.cell? ⟨gx, m * 2 + 1, none⟩ = some b) ∧ k43.R 43 W w.heap.size oki (.slice (some ⟨gx, 0, none⟩) t.f3.length cx) pts ∧ w16.grownBy W (some gx) from fun W h => by
            have hR := Kd.R_below HRG2.out.1 h
            obtain ⟨c, hcl, hM, hcc, hcf⟩ := Kd.R_elem hR z43 (m : Int) m0 m1
            have hec := k43_openM hM
            subst hec
            simp only [Int.toNat_natCast] at hcc hcf
            exact ⟨hcf 0, hcf 1, Kd.R_lt hR gx rfl, ⟨_, _, hcc 0 _ rfl, hcc 1 _ rfl⟩, hR, HRG2.out.2.trans (grown_of_below h _)⟩)
          obtain ⟨rx, ry, hpt⟩ := point_some q p.f0 p.f1
          have HPT := Aside0.mk hpt
          clear hpt lr lq lz har
          obtain ⟨n0, n1, n2, ⟨na, nb, n3, n4⟩, _⟩ := HRk.out w17 (Below.refl _ _)
          go_region_held3 (fun W => W.cell? ⟨(ad.add (i * 4)).block, (ad.add (i * 4)).off + 3, none⟩ = some (.slice (some ⟨gx, 0, none⟩) t.f3.length cx) ∧ W.cell? ⟨b20, 0, none⟩ = some (.int .i64 q.f0.f0) ∧ W.cell? ⟨b20, 1, none⟩ = some (.int .i64 q.f0.f1) ∧ W.cell? ⟨b20, 2, none⟩ = some (.int .i64 q.f1) ∧ W.cell? ⟨b20, 3, none⟩ = some (.int .i64 q.f2) ∧ W.cell? ⟨b23, 0, none⟩ = some (.int .i64 p.f0) ∧ W.cell? ⟨b23, 1, none⟩ = some (.int .i64 p.f1))
            (first
              | (with_reducible refine ⟨cfar2 k6.1 qr2 _ _ _ _, cfar2 k6.2.1 q20 _ _ _ _, cfar2 k6.2.2.1 q20 _ _ _ _, cfar2 k6.2.2.2.1 q20 _ _ _ _, cfar2 k6.2.2.2.2.1 q20 _ _ _ _, cfar2 k6.2.2.2.2.2.1 gz _ _ _ _, cfar2 k6.2.2.2.2.2.2 gz _ _ _ _⟩)
              | exact HK.out _ (by with_reducible repeat (first | exact Below.refl _ _ | apply below_drew1 | apply pw_below_drewN | (refine below_step ?_ h6))))
            (first | (go_at_call 12; (with_reducible refine (graph_Point.calls 50 q.f0.f0 q.f0.f1 q.f1 q.f2 p.f0 p.f1 rx ry _ HPT.out).mono ?_); rintro e w6 ⟨rfl, h6⟩; have k6 := HK.out w6 (below_step (w := w17) (by with_reducible repeat (first | exact Below.refl _ _ | apply below_drew1 | apply pw_below_drewN)) h6); obtain ⟨s0, s1, s2, ⟨sa, sb, s3, s4⟩, s5⟩ := HRk.out w6 (below_step (w := w17) (by with_reducible repeat (first | exact Below.refl _ _ | apply below_drew1 | apply pw_below_drewN)) h6)))
          all_goals go_wp2
          all_goals
            go_roundg (t.f3.length - (m + 1))
            case measure => have := HL.out.1; omega
            case rel => exact ⟨m + 1, pts.set m ⟨rx, ry⟩, congrArg (Value.int .i64) (by have := HLEN.out; unfold wrap64; omega), ⟨by omega, by omega, by rw [List.length_set]; exact HL.out.2.2⟩, by first
              | exact ⟨(R43_put s5.1 m hm ⟨rx, ry⟩).1, s5.2.trans (R43_put s5.1 m hm ⟨rx, ry⟩).2⟩
              | exact ⟨Kd.R_below (R43_put s5.1 m hm ⟨rx, ry⟩).1 (below_drew1 (Below.refl _ _)), (s5.2.trans (R43_put s5.1 m hm ⟨rx, ry⟩).2).trans (grown_of_below (below_drew1 (Below.refl _ _)) _)⟩⟩
        · have m1 : ¬ ((m : Int) < (t.f3.length : Int)) := by omega
          have hgo : ∀ k, (Value.slice Ax t.f3.length cx).ownBlock = some k → oki k := fun k hk => HRP.out.1 k hk
          have hS := HCL.out wr _ ⟨t.f0, t.f1, t.f2, pts⟩ HRG.out.2 hgo (by
            have h := k26_mkM wr w.heap.size oki ⟨t.f0, t.f1, t.f2, pts⟩ HRG.out.1
            exact h)
          rw [Int.toNat_natCast] at hS
          have HPS2 := Aside0.mk (HPS.out.points HRP.out HRG.out.2 (Nat.le_refl _) hS)
          have hne : ∀ k, some ((⟨(ad.add (i * 4)).block, k, none⟩ : Addr)).block ≠ (Value.slice Ax t.f3.length cx).ownBlock := fun k e => by
            have h1 : (ad.add (i * 4)).block = gr := by rw [HOK.out.2, add_at]
            rw [show ((⟨(ad.add (i * 4)).block, k, none⟩ : Addr)).block = gr from h1] at e
            exact (HOK.out.1 gr (hgo gr e.symm)).2 rfl
          have y0 := World.grownBy.cell HRG.out.2 HC.out.1 (hne (ad.add (i * 4)).off)
          have y1 := World.grownBy.cell HRG.out.2 HC.out.2.1 (hne _)
          have y2 := World.grownBy.cell HRG.out.2 HC.out.2.2.1 (hne _)
          have y3 := World.grownBy.cell HRG.out.2 HC.out.2.2.2 (hne _)
          have hpl : pts.length = t.f3.length := HL.out.2.2
          obtain ⟨kc, rc, hck, hck0⟩ := check_f ⟨t.f0, t.f1, t.f2, pts⟩ (by have := HLEN.out; show pts.length ≤ 3; omega)
          have hcl := cull_Check.calls kc t.f0 t.f1 t.f2 Ax cx pts rc wr (by have h := (Kd.R_reads' HRG.out.1).2.2; exact h) (by have h := (Kd.R_reads' HRG.out.1); omega) hck
          rw [hpl] at hcl
          have HCK := Aside0.mk hcl
          have HCK0 := Aside0.mk hck0
          clear hS hgo hne hpl hck hck0 hcl
          go_wp2_with (fail)
          refine HCK.out.mono ?_
          rintro e w18 ⟨rfl, hb⟩
          have HPS2 := Aside0.mk (HPS2.out.below hb)
          clear hb y0 y1 y2 y3 HCK
          by_cases h0 : rc = 0
          · subst h0
            go_wp2_with (fail)
            have had := HOK.out.2
            subst had
            go_roundg (n - (i + 1))
            case measure => have := HJ.out.1; omega
            case rel =>
              refine ⟨i + 1, s, j5, ts.set i ⟨t.f0, t.f1, t.f2, pts⟩, congrArg (Value.int .i64) (by have := HN.out; unfold wrap64; omega), ⟨by omega, by omega, by rw [List.length_set]; exact HTN.out.1, HE5.out, fun x hx => ?_, fun t' ht' => ?_, HKN.out⟩, HPS2⟩
              · by_cases he : x = i
                · subst he
                  rw [rd26_set_self _ _ (by rw [HTN.out.1]; exact hi)]
                  exact HCK0.out (by first | rfl | trivial)
                · rw [rd26_set_ne _ _ (Ne.symm he)]
                  exact HJ.out.2.2.2.2.1 x (by omega)
              · rcases List.mem_or_eq_of_mem_set ht' with h | h
                · exact HJ.out.2.2.2.2.2.1 t' h
                · rw [h]; have := HL.out.2.2; have := HLEN.out; show pts.length ≤ 3; omega
          · have d0 : (rc == 0) = false := by simp [h0]
            go_wp2_with (fail)
            go_ret
            exact ⟨rfl, HPS2.out.mid.bel⟩
    · have i1 : ¬ ((i : Int) < (n : Int)) := by omega
      have ein : i = n := by have := HJ.out.2.1; omega
      subst ein
      have HT := Aside0.mk (show ts.length = i ∧ ∀ t ∈ ts, OKT t from ⟨HJ.out.2.2.1, fun t ht => by
        obtain ⟨k, hk, rfl⟩ := mem_rd26 ht
        exact HJ.out.2.2.2.2.1 k (by have := HJ.out.2.2.1; omega)⟩)
      clear HJ hi
      go_upto_region 25 with (fail)
      obtain ⟨ra, ha, ha0, ha1⟩ := below5 v0 30 (by decide) (by decide)
      obtain ⟨rb, hb, hb0, hb1⟩ := below5 v1 30 (by decide) (by decide)
      obtain ⟨rc, hc, hc0, hc1⟩ := below5 v2 24 (by decide) (by decide)
      obtain ⟨rd, hd, hd0, hd1⟩ := below5 v3 24 (by decide) (by decide)
      have HR4 := Aside0.mk (And.intro ha (And.intro hb (And.intro hc hd)))
      have HRR := Aside0.mk (show (0 ≤ ra ∧ ra < 30) ∧ (0 ≤ rb ∧ rb < 30) ∧ (0 ≤ rc ∧ rc < 24) ∧ (0 ≤ rd ∧ rd < 24) from ⟨⟨ha0, ha1⟩, ⟨hb0, hb1⟩, ⟨hc0, hc1⟩, hd0, hd1⟩)
      obtain ⟨y0, y1, y2, y3, _⟩ := f4 HPS.out.box
      have HK := Aside0.mk (show ∀ W, Below wr.heap.size wr W → W.cell? ⟨b7, 0, none⟩ = some (.int .i64 v0) ∧ W.cell? ⟨b7, 1, none⟩ = some (.int .i64 v1) ∧ W.cell? ⟨b7, 2, none⟩ = some (.int .i64 v2) ∧ W.cell? ⟨b7, 3, none⟩ = some (.int .i64 v3) from fun W h => by
        obtain ⟨a, b, c, d, _⟩ := f4 (blk_below HPS.out.box h)
        exact ⟨a, b, c, d⟩)
      clear ha hb hc hd ha0 ha1 hb0 hb1 hc0 hc1 hd0 hd1
      go_cut [24] (fun v24 wc => ∃ b24, v24 = .pointer (some ⟨b24, 0, none⟩) ∧ Aside0 (wc.heap[b24]? = some (.cells #[.int .i64 (IntKind.i64.wrap (ra - 10)), .int .i64 (IntKind.i64.wrap (rb - 10)), .int .i64 (IntKind.i64.wrap (1 + rc)), .int .i64 (IntKind.i64.wrap (1 + rd))] 32 (0, 0)) ∧ Below wr.heap.size wr wc))
      case first =>
        go_region_held3 (fun W => W.cell? ⟨b7, 0, none⟩ = some (.int .i64 v0) ∧ W.cell? ⟨b7, 1, none⟩ = some (.int .i64 v1) ∧ W.cell? ⟨b7, 2, none⟩ = some (.int .i64 v2) ∧ W.cell? ⟨b7, 3, none⟩ = some (.int .i64 v3))
          (exact HK.out _ (by with_reducible repeat (first | exact Below.refl _ _ | exact h4 | exact h3 | exact h2 | exact h1 | apply below_drew1 | apply pw_below_drewN | apply below_alloc | (refine Below.setCell ?_ (p := ⟨_, _, none⟩) ?_ _) | exact h3.size | exact h2.size | exact h1.size | exact Nat.le_refl _)))
          (first
            | (go_at_call 14; (with_reducible refine (tourref5_Below.calls v0 30 ra _ HR4.out.1).mono ?_); rintro e w21 ⟨rfl, hd1⟩; have h1 := below_step (w := wr) (by with_reducible repeat (first | exact Below.refl _ _ | apply below_alloc | apply below_drew1 | apply pw_below_drewN)) (below_of_drawn hd1); (first | (have e1 := blk_below (o := (.cells #[.int .i64 0, .int .i64 0, .int .i64 0, .int .i64 0] 32 (0, 0))) (by with_reducible first | exact blk_new _ _ | exact blk_drew (blk_new _ _)) (below_of_drawn hd1); obtain ⟨_, _, _, _, _, _, _, _⟩ := f4 e1) | skip))
            | (go_at_call 14; (with_reducible refine (tourref5_Below.calls v1 30 rb _ HR4.out.2.1).mono ?_); rintro e w22 ⟨rfl, hd2⟩; have h2 := below_step (w := wr) (by with_reducible repeat (first | exact Below.refl _ _ | exact h1 | apply below_alloc | apply below_drew1 | apply pw_below_drewN)) (below_of_drawn hd2); (first | (have e2 := blk_below (o := (.cells #[.int .i64 0, .int .i64 0, .int .i64 0, .int .i64 0] 32 (0, 0))) (by with_reducible first | exact blk_new _ _ | exact blk_drew (blk_new _ _) | exact e1 | exact blk_drew e1) (below_of_drawn hd2); obtain ⟨_, _, _, _, _, _, _, _⟩ := f4 e2) | skip))
            | (go_at_call 14; (with_reducible refine (tourref5_Below.calls v2 24 rc _ HR4.out.2.2.1).mono ?_); rintro e w23 ⟨rfl, hd3⟩; have h3 := below_step (w := wr) (by with_reducible repeat (first | exact Below.refl _ _ | exact h2 | apply below_alloc | apply below_drew1 | apply pw_below_drewN)) (below_of_drawn hd3); (first | (have e3 := blk_below (o := (.cells #[.int .i64 0, .int .i64 0, .int .i64 0, .int .i64 0] 32 (0, 0))) (by with_reducible first | exact blk_new _ _ | exact blk_drew (blk_new _ _) | exact e2 | exact blk_drew e2) (below_of_drawn hd3); obtain ⟨_, _, _, _, _, _, _, _⟩ := f4 e3) | skip))
            | (go_at_call 14; (with_reducible refine (tourref5_Below.calls v3 24 rd _ HR4.out.2.2.2).mono ?_); rintro e w24 ⟨rfl, hd4⟩; have h4 := below_step (w := wr) (by with_reducible repeat (first | exact Below.refl _ _ | exact h3 | apply below_alloc | apply below_drew1 | apply pw_below_drewN)) (below_of_drawn hd4); (first | (have e4 := blk_below (o := (.cells #[.int .i64 0, .int .i64 0, .int .i64 0, .int .i64 0] 32 (0, 0))) (by with_reducible first | exact blk_new _ _ | exact blk_drew (blk_new _ _) | exact e3 | exact blk_drew e3) (below_of_drawn hd4); obtain ⟨_, _, _, _, _, _, _, _⟩ := f4 e4) | skip)))
        all_goals go_wp2
        all_goals go_meet
        all_goals (first
          | (with_reducible exact ⟨_, rfl, ⟨blk_new _ _, below_alloc h4 _⟩⟩)
          | (with_reducible exact ⟨_, rfl, ⟨put4 e4 _ _ _ _, below4 h4 h3.size _ _ _ _ _ _ _ _⟩⟩)
          | (with_reducible exact ⟨_, rfl, ⟨put4 e4 _ _ _ _, below4 h4 h2.size _ _ _ _ _ _ _ _⟩⟩)
          | (with_reducible exact ⟨_, rfl, ⟨put4 e4 _ _ _ _, below4 h4 h1.size _ _ _ _ _ _ _ _⟩⟩)
          | (with_reducible exact ⟨_, rfl, ⟨put4 e4 _ _ _ _, below4 h4 (Nat.le_refl _) _ _ _ _ _ _ _ _⟩⟩))
      case rest =>
        obtain ⟨b24, rfl, hX⟩ := hcut
        obtain ⟨⟨ra0, ra1⟩, ⟨rb0, rb1⟩, ⟨rc0, rc1⟩, rd0, rd1⟩ := HRR.out
        obtain ⟨ww, hww⟩ : ∃ ww : Nat, 1 + rc = ww := ⟨(1 + rc).toNat, by omega⟩
        obtain ⟨wh, hwh⟩ : ∃ wh : Nat, 1 + rd = wh := ⟨(1 + rd).toNat, by omega⟩
        obtain ⟨aX, haX⟩ : ∃ aX : Int, ra - 10 = aX := ⟨_, rfl⟩
        obtain ⟨aY, haY⟩ : ∃ aY : Int, rb - 10 = aY := ⟨_, rfl⟩
        rw [i64w (ra - 10) (by omega), i64w (rb - 10) (by omega), i64w (1 + rc) (by omega), i64w (1 + rd) (by omega), hww, hwh, haX, haY] at hX
        have HOA := Aside0.mk (show OKA aX aY ww wh ∧ aX + ww ≤ 1000 ∧ aY + wh ≤ 1000 ∧ ww ≤ 24 ∧ wh ≤ 24 from ⟨⟨by omega, by omega, by omega, by omega, by omega, by omega, by omega, by omega⟩, by omega, by omega, by omega, by omega⟩)
        obtain ⟨re, he, he0, he1⟩ := below5 kw 9 (by decide) (by decide)
        obtain ⟨rf, hf, hf0, hf1⟩ := below5 kh 9 (by decide) (by decide)
        obtain ⟨tw, htw⟩ : ∃ tw : Nat, 1 + re = tw := ⟨(1 + re).toNat, by omega⟩
        obtain ⟨th, hth⟩ : ∃ th : Nat, 1 + rf = th := ⟨(1 + rf).toNat, by omega⟩
        obtain ⟨kk, da, dv, o, l1, l2, l3, l4, l5, l6, l7⟩ := pics_law ts (by have := HT.out.1; have := HN.out; omega) HT.out.2 aX aY ww wh HOA.out.1 HOA.out.2.1 HOA.out.2.2.1 tw th (by omega) (by omega)
        have HL := Aside0.mk (And.intro l1 (And.intro l2 (And.intro l3 (And.intro l4 (And.intro l5 (And.intro l6 l7))))))
        have HW := Aside0.mk (And.intro he (And.intro hf (show raster_Whole.f kk dv aX aY ww wh (IntKind.i64.wrap (1 + re)) (IntKind.i64.wrap (1 + rf)) = some (o, 0) from by rw [i64w (1 + re) (by omega), i64w (1 + rf) (by omega), htw, hth]; exact l5)))
        have hR := Kd.S_below HPS.out.row hX.out.2
        have HB := Aside0.mk (below_step HPS.out.mid.bel hX.out.2)
        have HX := Aside0.mk hX.out.1
        have HR := Aside0.mk (show Kd.C k26 wc Ar ts.length ts ∧ ts.length ≤ cr from by have h := Kd.S_reads' hR; exact ⟨h.2.2, by omega⟩)
        have HTL := Aside0.mk HT.out.1
        clear hR hX l1 l2 l3 l4 l5 l6 l7 he he0 he1 hf hf0 hf1 htw hth hww hwh haX haY ra0 ra1 rb0 rb1 rc0 rc1 rd0 rd1 y0 y1 y2 y3 HK HPS HT HR4 HRR
        go_upto_region 27 with (fail)
        have b1 := below_alloc (Below.refl wc.heap.size wc) (.cells #[.int .i64 (-1099511627776), .int .i64 (-1099511627776), .int .i64 1099511627776, .int .i64 1099511627776] 52)
        have HY := Aside0.mk (blk_new wc (.cells #[.int .i64 (-1099511627776), .int .i64 (-1099511627776), .int .i64 1099511627776, .int .i64 1099511627776] 52))
        replace HX := Aside0.mk (blk_below HX.out b1)
        replace HB := Aside0.mk (below_step HB.out b1)
        replace HR := Aside0.mk (And.intro (Kd.C_below HR.out.1 b1) HR.out.2)
        generalize wc.heap.size = b25 at HY ⊢
        generalize wc.alloc (.cells #[.int .i64 (-1099511627776), .int .i64 (-1099511627776), .int .i64 1099511627776, .int .i64 1099511627776] 52) = w30 at HX HY HB HR ⊢
        clear b1
        obtain ⟨y0, y1, y2, y3, _⟩ := f4 HY.out
        have hln : ts.length = i := HTL.out
        have hcl := cull_Draw.calls kk Ar cr ts (-1099511627776) (-1099511627776) 1099511627776 1099511627776 da 0 w30 HR.out.1 HR.out.2 HL.out.1
        rw [hln] at hcl
        have HCL := Aside0.mk hcl
        clear hcl hln
        go_wp2_with (fail)
        refine HCL.out.mono ?_
        rintro e w31 ⟨vd, rfl, hd, hb⟩
        obtain ⟨Ad, cd, ed⟩ := Kd.S_slice hd
        subst ed
        have HDA := Aside0.mk (show Kd.C k26 w31 Ad da.length da ∧ da.length ≤ cd from by have h := Kd.S_reads' hd; exact ⟨h.2.2, by omega⟩)
        replace HX := Aside0.mk (blk_below HX.out hb)
        replace HB := Aside0.mk (below_step HB.out hb)
        replace HR := Aside0.mk (And.intro (Kd.C_below HR.out.1 hb) HR.out.2)
        clear hd hb HCL HY y0 y1 y2 y3
        obtain ⟨y0, y1, y2, y3, _⟩ := f4 HX.out
        go_wp2_with (fail)
        refine (raster_View.calls aX aY ww wh (aX * 65536) (aY * 65536) ((aX + ww) * 65536) ((aY + wh) * 65536) w31 (view_f aX aY ww wh HOA.out.1)).mono ?_
        rintro e w32 ⟨rfl, hb⟩
        replace HX := Aside0.mk (blk_below HX.out hb)
        replace HB := Aside0.mk (below_step HB.out hb)
        replace HR := Aside0.mk (And.intro (Kd.C_below HR.out.1 hb) HR.out.2)
        replace HDA := Aside0.mk (And.intro (Kd.C_below HDA.out.1 hb) HDA.out.2)
        have hln : ts.length = i := HTL.out
        have hcl := cull_Draw.calls kk Ar cr ts (aX * 65536) (aY * 65536) ((aX + ww) * 65536) ((aY + wh) * 65536) dv 0 w32 HR.out.1 HR.out.2 HL.out.2.1
        rw [hln] at hcl
        have HCL := Aside0.mk hcl
        clear hcl hln hb y0 y1 y2 y3
        go_wp2_with (fail)
        refine HCL.out.mono ?_
        rintro e w33 ⟨vd, rfl, hd, hb⟩
        obtain ⟨Av, cv, ev⟩ := Kd.S_slice hd
        subst ev
        have HDV := Aside0.mk (show Kd.C k26 w33 Av dv.length dv ∧ dv.length ≤ cv from by have h := Kd.S_reads' hd; exact ⟨h.2.2, by omega⟩)
        replace HX := Aside0.mk (blk_below HX.out hb)
        replace HB := Aside0.mk (below_step HB.out hb)
        replace HDA := Aside0.mk (And.intro (Kd.C_below HDA.out.1 hb) HDA.out.2)
        clear hd hb HCL HR
        obtain ⟨y0, y1, y2, y3, _⟩ := f4 HX.out
        go_wp2_with (fail)
        refine (raster_Picture.calls kk Ad cd da aX aY ww wh o 0 w33 HDA.out.1 HDA.out.2 HL.out.2.2.1).mono ?_
        rintro e w34 ⟨vp, rfl, hp, hb⟩
        obtain ⟨Ap1, cp1, ep⟩ := Kd.R_slice hp
        subst ep
        have HP1 := Aside0.mk (show Kd.C (Kd.int .i64) w34 Ap1 o.length o ∧ o.length ≤ cp1 from by have h := Kd.R_reads' hp; exact ⟨h.2.2, by omega⟩)
        replace HX := Aside0.mk (blk_below HX.out hb)
        replace HB := Aside0.mk (below_step HB.out hb)
        replace HDV := Aside0.mk (And.intro (Kd.C_below HDV.out.1 hb) HDV.out.2)
        clear hp hb HDA y0 y1 y2 y3
        obtain ⟨y0, y1, y2, y3, _⟩ := f4 HX.out
        go_wp2_with (fail)
        refine (raster_Picture.calls kk Av cv dv aX aY ww wh o 0 w34 HDV.out.1 HDV.out.2 HL.out.2.2.2.1).mono ?_
        rintro e w35 ⟨vp, rfl, hp, hb⟩
        obtain ⟨Ap2, cp2, ep⟩ := Kd.R_slice hp
        subst ep
        have HP2 := Aside0.mk (show Kd.C (Kd.int .i64) w35 Ap2 o.length o ∧ o.length ≤ cp2 from by have h := Kd.R_reads' hp; exact ⟨h.2.2, by omega⟩)
        replace HX := Aside0.mk (blk_below HX.out hb)
        replace HB := Aside0.mk (below_step HB.out hb)
        replace HDV := Aside0.mk (And.intro (Kd.C_below HDV.out.1 hb) HDV.out.2)
        replace HP1 := Aside0.mk (And.intro (Kd.C_below HP1.out.1 hb) HP1.out.2)
        clear hp hb y0 y1 y2 y3
        go_upto_region 31 with (fail)
        obtain ⟨y0, y1, y2, y3, _⟩ := f4 HX.out
        have HK := Aside0.mk (show ∀ W, Below w35.heap.size w35 W → W.cell? ⟨b24, 0, none⟩ = some (.int .i64 aX) ∧ W.cell? ⟨b24, 1, none⟩ = some (.int .i64 aY) ∧ W.cell? ⟨b24, 2, none⟩ = some (.int .i64 (ww : Int)) ∧ W.cell? ⟨b24, 3, none⟩ = some (.int .i64 (wh : Int)) from fun W h => by
          obtain ⟨a, b, c, d, _⟩ := f4 (blk_below HX.out h)
          exact ⟨a, b, c, d⟩)
        go_cut [34, 35] (fun v34 v35 wd => ∃ (A : Option Addr) (c : Nat), v34 = .slice A o.length c ∧ v35 = .int .i64 0 ∧ Aside0 (Kd.C (Kd.int .i64) wd A o.length o ∧ o.length ≤ c ∧ Below w35.heap.size w35 wd))
        case first =>
          go_region_held3 (fun W => W.cell? ⟨b24, 0, none⟩ = some (.int .i64 aX) ∧ W.cell? ⟨b24, 1, none⟩ = some (.int .i64 aY) ∧ W.cell? ⟨b24, 2, none⟩ = some (.int .i64 (ww : Int)) ∧ W.cell? ⟨b24, 3, none⟩ = some (.int .i64 (wh : Int)))
            (exact HK.out _ (by with_reducible repeat (first | exact Below.refl _ _ | exact h3 | exact h2 | exact h1 | apply below_drew1 | apply pw_below_drewN)))
            (first
              | (go_at_call 14; (with_reducible refine (tourref5_Below.calls kw 9 re _ HW.out.1).mono ?_); rintro e w41 ⟨rfl, hd1⟩; have h1 := below_step (w := w35) (by with_reducible repeat (first | exact Below.refl _ _ | apply below_drew1 | apply pw_below_drewN)) (below_of_drawn hd1))
              | (go_at_call 14; (with_reducible refine (tourref5_Below.calls kh 9 rf _ HW.out.2.1).mono ?_); rintro e w42 ⟨rfl, hd2⟩; have h2 := below_step (w := w35) (by with_reducible repeat (first | exact Below.refl _ _ | exact h1 | apply below_drew1 | apply pw_below_drewN)) (below_of_drawn hd2))
              | (go_at_call 17; (with_reducible refine (raster_Whole.calls kk Av cv dv aX aY ww wh (IntKind.i64.wrap (1 + re)) (IntKind.i64.wrap (1 + rf)) o 0 _ (Kd.C_below HDV.out.1 (by with_reducible repeat (first | exact Below.refl _ _ | exact h2 | apply below_drew1 | apply pw_below_drewN))) HDV.out.2 HW.out.2.2).mono ?_); rintro e w43 ⟨vw, rfl, hwr, hbw⟩; have h3 := below_step (w := w35) (by with_reducible repeat (first | exact Below.refl _ _ | exact h2 | apply below_drew1 | apply pw_below_drewN)) hbw; obtain ⟨Aw, cw, ew⟩ := Kd.R_slice hwr; subst ew))
          all_goals go_wp2
          all_goals go_meet
          all_goals (
            have hq := Kd.R_reads' hwr
            exact ⟨Aw, cw, rfl, rfl, ⟨by first | exact hq.2.2 | exact Kd.C_below hq.2.2 (below_drew1 (Below.refl _ _)), hq.2.1, by first | exact h3 | exact below_drew1 h3⟩⟩)
        case rest =>
          obtain ⟨Aw, cw, rfl, rfl, hC⟩ := hcut
          replace HX := Aside0.mk (blk_below HX.out hC.out.2.2)
          replace HB := Aside0.mk (below_step HB.out hC.out.2.2)
          replace HP1 := Aside0.mk (And.intro (Kd.C_below HP1.out.1 hC.out.2.2) HP1.out.2)
          replace HP2 := Aside0.mk (And.intro (Kd.C_below HP2.out.1 hC.out.2.2) HP2.out.2)
          have HP3 := Aside0.mk (And.intro hC.out.1 hC.out.2.1)
          clear hC y0 y1 y2 y3 HK HDV HW
          go_wp2_with (fail)
          have b1 := below_alloc (Below.refl wc.heap.size wc) (.cells #[.int .i64 0, .int .i64 0, .int .i64 0, .int .i64 0, .int .i64 0] 27)
          have HE := Aside0.mk (blk_new wc (.cells #[.int .i64 0, .int .i64 0, .int .i64 0, .int .i64 0, .int .i64 0] 27))
          replace HX := Aside0.mk (blk_below HX.out b1)
          replace HB := Aside0.mk (below_step HB.out b1)
          replace HP1 := Aside0.mk (And.intro (Kd.C_below HP1.out.1 b1) HP1.out.2)
          replace HP2 := Aside0.mk (And.intro (Kd.C_below HP2.out.1 b1) HP2.out.2)
          replace HP3 := Aside0.mk (And.intro (Kd.C_below HP3.out.1 b1) HP3.out.2)
          generalize wc.heap.size = b50 at HE ⊢
          generalize wc.alloc (.cells #[.int .i64 0, .int .i64 0, .int .i64 0, .int .i64 0, .int .i64 0] 27) = w50 at HE HX HB HP1 HP2 HP3 ⊢
          clear b1
          go_loopg [200] 5 (fun kq v200 w' => ∃ (m : Nat), v200 = .int .i64 (m : Int) ∧ Aside0 (kq = 5 - m ∧ m ≤ 5) ∧ Aside0 (Below w50.heap.size w50 w'))
          case atStart => exact ⟨0, rfl, ⟨by omega, by omega⟩, ⟨Below.refl _ _⟩⟩
          case round =>
            obtain ⟨m, rfl, HJ, HW5⟩ := hrel
            by_cases hm : m < 5
            · have m0 : (0 : Int) ≤ (m : Int) := by omega
              have m1 : (m : Int) < 5 := by omega
              have y0 : wr.cell? ⟨b50, m, none⟩ = some (.int .i64 0) := (blk_cell (blk_below HE.out HW5.out) m).trans (zero5 m hm)
              go_wp2_with (fail)
              go_roundg (5 - (m + 1))
              case measure => have := HJ.out.1; omega
              case rel => exact ⟨m + 1, congrArg (Value.int .i64) (by first | omega | (unfold wrap64; omega)), ⟨by omega, by omega⟩, HW5⟩
            · have m1 : ¬ ((m : Int) < 5) := by omega
              replace HX := Aside0.mk (blk_below HX.out HW5.out)
              replace HB := Aside0.mk (below_step HB.out HW5.out)
              replace HP1 := Aside0.mk (And.intro (Kd.C_below HP1.out.1 HW5.out) HP1.out.2)
              replace HP2 := Aside0.mk (And.intro (Kd.C_below HP2.out.1 HW5.out) HP2.out.2)
              replace HP3 := Aside0.mk (And.intro (Kd.C_below HP3.out.1 HW5.out) HP3.out.2)
              obtain ⟨y0, y1, y2, y3, _⟩ := f4 HX.out
              have hwl : wrap64 ((ww : Int) * (wh : Int)) = (o.length : Int) := by
                have h1 : ww * wh ≤ 24 * 24 := Nat.mul_le_mul HOA.out.2.2.2.1 HOA.out.2.2.2.2
                rw [HL.out.2.2.2.2.2.1, ← Int.natCast_mul]
                unfold wrap64
                omega
              clear hm
              go_upto_region 38 with (fail)
              go_wp2_with (fail)
              refine (slices_Equal_int_int.calls kk Ap1 cp1 o Ap2 cp2 o true wr HP1.out.1 HP1.out.2 HP2.out.1 HP2.out.2 HL.out.2.2.2.2.2.2).mono ?_
              rintro e w51 ⟨rfl, hd⟩
              have hb := below_of_drawn hd
              replace HB := Aside0.mk (below_step HB.out hb)
              replace HP1 := Aside0.mk (And.intro (Kd.C_below HP1.out.1 hb) HP1.out.2)
              replace HP3 := Aside0.mk (And.intro (Kd.C_below HP3.out.1 hb) HP3.out.2)
              clear hb hd hwl y0 y1 y2 y3
              go_wp2_with (fail)
              refine (slices_Equal_int_int.calls kk Ap1 cp1 o Aw cw o true w51 HP1.out.1 HP1.out.2 HP3.out.1 HP3.out.2 HL.out.2.2.2.2.2.2).mono ?_
              rintro e w52 ⟨rfl, hd⟩
              have HB := Aside0.mk (below_step HB.out (below_of_drawn hd))
              clear hd
              go_wp2_with (fail)
              go_ret
              exact ⟨rfl, HB.out⟩
end Go.Proofs.Ytffbonfgbmohdaa.P
namespace Go.Proofs.Ytffbonfgbmohdaa.P
open Go.RowKit Go.Proofs.YtffbonfgbmohdaaW.PrintWords Go.Proofs.YtffbonfgbmohdaaW.PrintLast Go.Proofs.YtffbonfgbmohdaaW.PrintMore
theorem tourtop_TopPictures.walk (a0 : Option Addr) (len0 cap0 : Nat) (z0 : List Int) (a1 : Option Addr) (len1 cap1 : Nat) (z1 : List Int) (b0 b1 b2 b3 a3 a4 : Int) (w : World) (w0 : (a0 = none ∧ len0 = 0 ∧ cap0 = 0 ∧ z0 = []) ∨ ∃ x, a0 = some x ∧ len0 ≤ cap0 ∧ cap0 ≤ maxLen ∧ z0.length = cap0 ∧ (∀ i, i < z0.length → w.cell? (x.add i) = some (.int .i64 (z0.getD i 0))) ∧ ∀ n ∈ z0, (Lit.int .i64 n).wf = true)
    (w1 : (a1 = none ∧ len1 = 0 ∧ cap1 = 0 ∧ z1 = []) ∨ ∃ x, a1 = some x ∧ len1 ≤ cap1 ∧ cap1 ≤ maxLen ∧ z1.length = cap1 ∧ (∀ i, i < z1.length → w.cell? (x.add i) = some (.int .i64 (z1.getD i 0))) ∧ ∀ n ∈ z1, (Lit.int .i64 n).wf = true) (y0 : len0 * 8 ≤ 140737488351232) (y1 : len1 * 8 ≤ 140737488351232) :
    Calls Try.prog 3 #[.slice a0 len0 cap0, .slice a1 len1 cap1, .agg #[.int .i64 b0, .int .i64 b1, .int .i64 b2, .int .i64 b3], .int .i64 a3, .int .i64 a4] w fun e w' => e = .returned (.bool true) ∧ Below w.heap.size w w' := by
  obtain ⟨l0, rfl, hr0, hm0, hw0, hc0⟩ := ReadsInt.ofRowC w0
  obtain ⟨l1, rfl, hr1, hm1, hw1, hc1⟩ := ReadsInt.ofRowC w1
  exact T_pics w _ _ _ _ l0 l1 b0 b1 b2 b3 a3 a4 (Kd.C_of_reads (d := (0 : Int)) (h1 := fun _ => rfl) hr0) hc0 (by omega) (Kd.C_of_reads (d := (0 : Int)) (h1 := fun _ => rfl) hr1) hc1 (by omega)
end Go.Proofs.Ytffbonfgbmohdaa.P
