/- Package graph: Add, its region 7. Condition: few nodes. Package graph: Add, its region 8. Condition: few nodes. Package graph: Add. Condition: few nodes, a place that fits. -/
import Derived.Test.YtffbonfgbmohdaaMG
import Derived.Test.YtffbonfgbmohdaaWTab
import Derived.Test.YtffbonfgbmohdaaWLast
namespace Go.Proofs.Ytffbonfgbmohdaa.P
open Go.RowKit Go.Proofs.YtffbonfgbmohdaaW.PrintWords Go.Proofs.YtffbonfgbmohdaaW.PrintLast Go.Proofs.YtffbonfgbmohdaaW.PrintMore
set_option linter.unusedVariables false
set_option linter.unusedSimpArgs false

set_option maxHeartbeats 16000000 in
set_option maxRecDepth 100000 in
theorem T_r7 (w0 wS w2 : World) (g b5 : Nat) (AU AO AK AW : Option Addr) (cU cO cK cW n : Nat) (cnt : Int) (ups : List Int) (own : List S45) (kn : List Bool) (who : List S45) (up : Int) (p : S45)
    (HM : Mid w0 wS w2 g #[.slice AU n cU, .slice AO n cO, .slice AK n cK, .slice AW n cW, .int .i64 cnt] (.slice AU n cU) (.slice AO n cO) (.slice AK n cK) (.slice AW n cW) ups own kn who)
    (HP : w2.heap[b5]? = some (.cells #[.int .i64 p.f0.f0, .int .i64 p.f0.f1, .int .i64 p.f1, .int .i64 p.f2] 45 (0, 0))) (hb5 : some b5 ≠ (Value.slice AO n cO).ownBlock) (hb6 : some b5 ≠ (Value.slice AU n cU).ownBlock) (hn : ups.length = n ∧ own.length = n ∧ kn.length = n ∧ who.length = n ∧ n ≤ 50)
    (a2 a3 a4 a6 a7 a8 a9 a10 a11 a12 a13 a14 a15 a16 a17 a18 a19 a20 a21 a22 a23 a24 a25 a26 a27 a28 a29 a30 a31 a32 a33 a34 a35 a36 a37 a38 a39 a40 a41 a42 a43 a44 a45 a46 a47 a48 a49 a50 a51 a52 a53 a54 a55 a56 a57 a58 a59 a60 a61 a62 a63 a64 a65 a66 a67 a68 a69 a70 a71 a72 : Value) (Q : Exit → Act → World → Prop)
    (hQ : ∀ (BU BO : Option Addr) (dU dO : Nat) (wc : World) (x28 x29 x30 x31 x32 x33 x34 x35 x36 x37 x38 x39 x40 x41 x42 x43 x44 x45 x46 x47 : Value), Mid w0 wS wc g #[.slice BU (n + 1) dU, .slice BO (n + 1) dO, .slice AK n cK, .slice AW n cW, .int .i64 cnt] (.slice BU (n + 1) dU) (.slice BO (n + 1) dO) (.slice AK n cK) (.slice AW n cW) (ups ++ [up]) (own ++ [p]) kn who → Q .normal { tmps := #[.pointer (some ⟨g, 0, none⟩), .int .i64 up, a2, a3, a4, .pointer (some ⟨b5, 0, none⟩), a6, a7, a8, a9, a10, a11, a12, a13, a14, a15, a16, a17, a18, a19, a20, a21, a22, a23, a24, a25, a26, a27, x28, x29, x30, x31, x32, x33, x34, x35, x36, x37, x38, x39, x40, x41, x42, x43, x44, x45, x46, x47, a48, a49, a50, a51, a52, a53, a54, a55, a56, a57, a58, a59, a60, a61, a62, a63, a64, a65, a66, a67, a68, a69, a70, a71, a72], defers := [] } wc) :
    Code.wp Try.prog (Code.region 7 (opsOf Try.f9 7) true) Q { tmps := #[.pointer (some ⟨g, 0, none⟩), .int .i64 up, a2, a3, a4, .pointer (some ⟨b5, 0, none⟩), a6, a7, a8, a9, a10, a11, a12, a13, a14, a15, a16, a17, a18, a19, a20, a21, a22, a23, a24, a25, a26, a27, a28, a29, a30, a31, a32, a33, a34, a35, a36, a37, a38, a39, a40, a41, a42, a43, a44, a45, a46, a47, a48, a49, a50, a51, a52, a53, a54, a55, a56, a57, a58, a59, a60, a61, a62, a63, a64, a65, a66, a67, a68, a69, a70, a71, a72], defers := [] } w2 := by
  simp only [opsOf, opsIn, Try.f9, Option.bind_some, Option.getD_some, Nat.reduceBEq, Bool.false_eq_true, if_true, if_false, ↓reduceIte]
  refine wp_region_noPanic ?_
  have HM := Aside0.mk HM.drew
  have HP := Aside0.mk (blk_drew HP)
  have HSK := Aside0.mk (show ∀ w' : World, w'.heap[g]? = some (.cells #[.slice AU n cU, .slice AO n cO, .slice AK n cK, .slice AW n cW, .int .i64 cnt] 67 (0, 0)) → w'.heap[b5]? = some (.cells #[.int .i64 p.f0.f0, .int .i64 p.f0.f1, .int .i64 p.f1, .int .i64 p.f2] 45 (0, 0)) → w'.cell? ⟨g, 0, none⟩ = some (.slice AU n cU) ∧ w'.cell? ⟨g, 1, none⟩ = some (.slice AO n cO) ∧ w'.cell? ⟨b5, 0, none⟩ = some (.int .i64 p.f0.f0) ∧ w'.cell? ⟨b5, 1, none⟩ = some (.int .i64 p.f0.f1) ∧ w'.cell? ⟨b5, 2, none⟩ = some (.int .i64 p.f1) ∧ w'.cell? ⟨b5, 3, none⟩ = some (.int .i64 p.f2) from fun w' h1 h2 => by
    obtain ⟨x0, x1, _⟩ := c5 h1
    obtain ⟨p0, p1, p2, p3, _⟩ := b4 h2
    exact ⟨x0, x1, p0, p1, p2, p3⟩)
  have HB5 := Aside0.mk hb5
  have HB6 := Aside0.mk hb6
  have HN := Aside0.mk hn
  clear hn hb5 hb6
  refine start_ (n := 22) (S := fun w' => w'.cell? ⟨g, 0, none⟩ = some (.slice AU n cU) ∧ w'.cell? ⟨g, 1, none⟩ = some (.slice AO n cO) ∧ w'.cell? ⟨b5, 0, none⟩ = some (.int .i64 p.f0.f0) ∧ w'.cell? ⟨b5, 1, none⟩ = some (.int .i64 p.f0.f1) ∧ w'.cell? ⟨b5, 2, none⟩ = some (.int .i64 p.f1) ∧ w'.cell? ⟨b5, 3, none⟩ = some (.int .i64 p.f2)) (ds := [18, 21]) #[false, false, false, false, false, false, false, false, false, false, false, false, false, false, false, false, false, false, false, false, false, false] (by kernel_rfl) rfl rfl (HSK.out _ HM.out.obj HP.out) (fun hHeld => ?_)
  generalize w2.drew = W0 at HM HP hHeld ⊢
  refine pure_ (i := 0) (N := some 28) (v := ?_) (a' := ?_) #[true, false, false, false, false, false, false, false, false, false, false, false, false, false, false, false, false, false, false, false, false, false] rfl rfl (by kernel_rfl) (fun _ _ _ h => h) (Or.inl ⟨by rfl, ?_⟩) ?_ ?_
  rotate_left
  · intro w'; go_simp; with_reducible rfl
  rotate_left
  · simp only [Act.put, List.setIfInBounds_toArray, List.set_cons_zero, List.set_cons_succ]; rfl
  refine pure_ (i := 1) (N := some 29) (v := ?_) (a' := ?_) #[true, true, false, false, false, false, false, false, false, false, false, false, false, false, false, false, false, false, false, false, false, false] rfl rfl (by kernel_rfl) (fun _ _ _ h => h) (Or.inl ⟨by rfl, ?_⟩) ?_ ?_
  rotate_left
  · intro w'; go_simp; with_reducible rfl
  rotate_left
  · simp only [Act.put, List.setIfInBounds_toArray, List.set_cons_zero, List.set_cons_succ]; rfl
  refine pure_ (i := 2) (N := some 30) (v := ?_) (a' := ?_) #[true, true, true, false, false, false, false, false, false, false, false, false, false, false, false, false, false, false, false, false, false, false] rfl rfl (by kernel_rfl) (fun _ _ _ h => h) (Or.inl ⟨by rfl, ?_⟩) ?_ ?_
  rotate_left
  · intro w'; go_simp; with_reducible rfl
  rotate_left
  · simp only [Act.put, List.setIfInBounds_toArray, List.set_cons_zero, List.set_cons_succ]; rfl
  refine pure_ (i := 3) (N := some 31) (v := ?_) (a' := ?_) #[true, true, true, true, false, false, false, false, false, false, false, false, false, false, false, false, false, false, false, false, false, false] rfl rfl (by kernel_rfl) (fun _ _ _ h => h) (Or.inl ⟨by rfl, ?_⟩) ?_ ?_
  rotate_left
  · intro w'; go_simp; with_reducible rfl
  rotate_left
  · simp only [Act.put, List.setIfInBounds_toArray, List.set_cons_zero, List.set_cons_succ]; rfl
  refine pure_ (i := 4) (N := some 32) (v := ?_) (a' := ?_) #[true, true, true, true, true, false, false, false, false, false, false, false, false, false, false, false, false, false, false, false, false, false] rfl rfl (by kernel_rfl) (fun _ _ _ h => h) (Or.inl ⟨by rfl, ?_⟩) ?_ ?_
  rotate_left
  · intro w'; go_simp; with_reducible rfl
  rotate_left
  · simp only [Act.put, List.setIfInBounds_toArray, List.set_cons_zero, List.set_cons_succ]; rfl
  refine pure_ (i := 6) (N := some 34) (v := ?_) (a' := ?_) #[true, true, true, true, true, false, true, false, false, false, false, false, false, false, false, false, false, false, false, false, false, false] rfl rfl (by kernel_rfl) (fun _ _ _ h => h) (Or.inl ⟨by rfl, ?_⟩) ?_ ?_
  rotate_left
  · intro w'; go_simp; with_reducible rfl
  rotate_left
  · simp only [Act.put, List.setIfInBounds_toArray, List.set_cons_zero, List.set_cons_succ]; rfl
  refine pure_ (i := 9) (N := some 37) (v := ?_) (a' := ?_) #[true, true, true, true, true, false, true, false, false, true, false, false, false, false, false, false, false, false, false, false, false, false] rfl rfl (by kernel_rfl) (fun _ _ _ h => h) (Or.inl ⟨by rfl, ?_⟩) ?_ ?_
  rotate_left
  · intro w'; go_simp; with_reducible rfl
  rotate_left
  · simp only [Act.put, List.setIfInBounds_toArray, List.set_cons_zero, List.set_cons_succ]; rfl
  refine pure_ (i := 10) (N := some 38) (v := ?_) (a' := ?_) #[true, true, true, true, true, false, true, false, false, true, true, false, false, false, false, false, false, false, false, false, false, false] rfl rfl (by kernel_rfl) (fun _ _ _ h => h) (Or.inl ⟨by rfl, ?_⟩) ?_ ?_
  rotate_left
  · intro w'; go_simp; with_reducible rfl
  rotate_left
  · simp only [Act.put, List.setIfInBounds_toArray, List.set_cons_zero, List.set_cons_succ]; rfl
  refine pure_ (i := 11) (N := some 39) (v := ?_) (a' := ?_) #[true, true, true, true, true, false, true, false, false, true, true, true, false, false, false, false, false, false, false, false, false, false] rfl rfl (by kernel_rfl) (fun _ _ _ h => h) (Or.inl ⟨by rfl, ?_⟩) ?_ ?_
  rotate_left
  · intro w'; go_simp; with_reducible rfl
  rotate_left
  · simp only [Act.put, List.setIfInBounds_toArray, List.set_cons_zero, List.set_cons_succ]; rfl
  refine take_ (i := 5) (N := some 33) (v := ?_) (a' := ?_) #[true, true, true, true, true, true, true, false, false, true, true, true, false, false, false, false, false, false, false, false, false, false] rfl rfl (by kernel_rfl) (fun _ _ _ h => h) (Or.inl ⟨by rfl, ?_⟩) hHeld ?_ ?_
  rotate_left
  · rintro w' ⟨t0, t1, t2, t3, t4, t5⟩; go_simp; with_reducible rfl
  rotate_left
  · simp only [Act.put, List.setIfInBounds_toArray, List.set_cons_zero, List.set_cons_succ]; rfl
  refine take_ (i := 12) (N := some 40) (v := ?_) (a' := ?_) #[true, true, true, true, true, true, true, false, false, true, true, true, true, false, false, false, false, false, false, false, false, false] rfl rfl (by kernel_rfl) (fun _ _ _ h => h) (Or.inl ⟨by rfl, ?_⟩) hHeld ?_ ?_
  rotate_left
  · rintro w' ⟨t0, t1, t2, t3, t4, t5⟩; go_simp; with_reducible rfl
  rotate_left
  · simp only [Act.put, List.setIfInBounds_toArray, List.set_cons_zero, List.set_cons_succ]; rfl
  refine take_ (i := 13) (N := some 41) (v := ?_) (a' := ?_) #[true, true, true, true, true, true, true, false, false, true, true, true, true, true, false, false, false, false, false, false, false, false] rfl rfl (by kernel_rfl) (fun _ _ _ h => h) (Or.inl ⟨by rfl, ?_⟩) hHeld ?_ ?_
  rotate_left
  · rintro w' ⟨t0, t1, t2, t3, t4, t5⟩; go_simp; with_reducible rfl
  rotate_left
  · simp only [Act.put, List.setIfInBounds_toArray, List.set_cons_zero, List.set_cons_succ]; rfl
  refine two_ (i := 7) (j := 14) (Ni := some 35) (Nj := some 42) #[true, true, true, true, true, true, true, true, false, true, true, true, true, true, false, false, false, false, false, false, false, false] #[true, true, true, true, true, true, true, false, false, true, true, true, true, true, true, false, false, false, false, false, false, false] rfl rfl rfl rfl (by kernel_rfl) (by decide) (by decide) (fun K hK => ?_) (fun K hK => ?_)
  ·
    refine value_ (w1 := ?_) (v := ?_) (by rfl) rfl ?_ ?_
    rotate_left 2
    · go_simp
      constructor
      · rfl
      · rfl
    refine hK.out _ _ (HSK.out _ (HM.out.alloc _).obj (blk_alloc HP.out _)) (fun hHeld => ?_)
    clear hK K
    refine norm_ (a' := ?_) ?_ ?_
    rotate_left
    · show Act.put _ (some 35) _ = _
      simp only [Act.put, List.setIfInBounds_toArray, List.set_cons_zero, List.set_cons_succ]; rfl
    refine two_ (i := 8) (j := 14) (Ni := some 36) (Nj := some 42) #[true, true, true, true, true, true, true, true, true, true, true, true, true, true, false, false, false, false, false, false, false, false] #[true, true, true, true, true, true, true, true, false, true, true, true, true, true, true, false, false, false, false, false, false, false] rfl rfl rfl rfl (by kernel_rfl) (by decide) (by decide) (fun K hK => ?_) (fun K hK => ?_)
    ·
      refine stepU (vU := .slice AU n cU) (p := up) (HM.out.alloc _) (blk_new _ _) (by have := HN.out; omega) (by rfl) (.tmp 33) (.tmp 35) rfl rfl rfl ?_
      intro A6 n6 c6 w6 h6 k6
      have e6 := blk_grown (blk_alloc HP.out _) k6.2 HB6.out
      refine hK.out _ _ (HSK.out _ (h6).obj (e6)) (fun hHeld => ?_)
      clear hK K
      refine norm_ (a' := ?_) ?_ ?_
      rotate_left
      · show Act.put _ (some 36) _ = _
        simp only [Act.put, List.setIfInBounds_toArray, List.set_cons_zero, List.set_cons_succ]; rfl
      refine one_ (i := 14) (N := some 42) #[true, true, true, true, true, true, true, true, true, true, true, true, true, true, true, false, false, false, false, false, false, false] rfl rfl (by kernel_rfl) (by decide) (fun K hK => ?_)
      refine value_ (w1 := ?_) (v := ?_) (by rfl) rfl ?_ ?_
      rotate_left 2
      · go_simp
        constructor
        · rfl
        · rfl
      refine hK.out _ _ (HSK.out _ (h6.alloc _).obj (blk_alloc e6 _)) (fun hHeld => ?_)
      clear hK K
      refine norm_ (a' := ?_) ?_ ?_
      rotate_left
      · show Act.put _ (some 42) _ = _
        simp only [Act.put, List.setIfInBounds_toArray, List.set_cons_zero, List.set_cons_succ]; rfl
      refine one_ (i := 15) (N := some 43) #[true, true, true, true, true, true, true, true, true, true, true, true, true, true, true, true, false, false, false, false, false, false] rfl rfl (by kernel_rfl) (by decide) (fun K hK => ?_)
      refine stepO (vO := .slice AO n cO) (p := p) (h6.alloc _) (blk_new _ _) (by have := HN.out; omega) (by rfl) (.tmp 40) (.tmp 42) rfl rfl rfl ?_
      intro A7 n7 c7 w7 h7 k7
      have e7 := blk_grown (blk_alloc e6 _) k7.2 HB5.out
      refine hK.out _ _ (HSK.out _ (h7).obj (e7)) (fun hHeld => ?_)
      clear hK K
      refine norm_ (a' := ?_) ?_ ?_
      rotate_left
      · show Act.put _ (some 43) _ = _
        simp only [Act.put, List.setIfInBounds_toArray, List.set_cons_zero, List.set_cons_succ]; rfl
      refine pure_ (i := 16) (N := some 44) (v := ?_) (a' := ?_) #[true, true, true, true, true, true, true, true, true, true, true, true, true, true, true, true, true, false, false, false, false, false] rfl rfl (by kernel_rfl) (fun _ _ _ h => h) (Or.inl ⟨by rfl, ?_⟩) ?_ ?_
      rotate_left
      · intro w'; go_simp; with_reducible rfl
      rotate_left
      · simp only [Act.put, List.setIfInBounds_toArray, List.set_cons_zero, List.set_cons_succ]; rfl
      refine pure_ (i := 17) (N := some 45) (v := ?_) (a' := ?_) #[true, true, true, true, true, true, true, true, true, true, true, true, true, true, true, true, true, true, false, false, false, false] rfl rfl (by kernel_rfl) (fun _ _ _ h => h) (Or.inl ⟨by rfl, ?_⟩) ?_ ?_
      rotate_left
      · intro w'; go_simp; with_reducible rfl
      rotate_left
      · simp only [Act.put, List.setIfInBounds_toArray, List.set_cons_zero, List.set_cons_succ]; rfl
      obtain ⟨r0, r1, r2, r3, r4, s0, s1, s2, s3, s4⟩ := c5 h7.obj
      have rl := blk_lt h7.obj
      refine last_ (i := 18) (N := none) #[true, true, true, true, true, true, true, true, true, true, true, true, true, true, true, true, true, true, true, false, false, false] rfl rfl (by kernel_rfl) (by decide) (fun K hK => ?_)
      refine skip_ (w1 := ?_) (by rfl) rfl ?_ ?_
      rotate_left
      · go_simp; rfl
      refine hK.out _ _ ?_
      clear hK K
      refine pure_ (i := 19) (N := some 46) (v := ?_) (a' := ?_) #[true, true, true, true, true, true, true, true, true, true, true, true, true, true, true, true, true, true, true, true, false, false] rfl rfl (by kernel_rfl) (fun _ _ _ h => h) (Or.inl ⟨by rfl, ?_⟩) ?_ ?_
      rotate_left
      · intro w'; go_simp; with_reducible rfl
      rotate_left
      · simp only [Act.put, List.setIfInBounds_toArray, List.set_cons_zero, List.set_cons_succ]; rfl
      refine pure_ (i := 20) (N := some 47) (v := ?_) (a' := ?_) #[true, true, true, true, true, true, true, true, true, true, true, true, true, true, true, true, true, true, true, true, true, false] rfl rfl (by kernel_rfl) (fun _ _ _ h => h) (Or.inl ⟨by rfl, ?_⟩) ?_ ?_
      rotate_left
      · intro w'; go_simp; with_reducible rfl
      rotate_left
      · simp only [Act.put, List.setIfInBounds_toArray, List.set_cons_zero, List.set_cons_succ]; rfl
      obtain ⟨q0, q1, q2, q3, q4, v0, v1, v2, v3, v4⟩ := c5 (h7.set 0 (.slice A6 n6 c6)).obj
      refine last_ (i := 21) (N := none) #[true, true, true, true, true, true, true, true, true, true, true, true, true, true, true, true, true, true, true, true, true, true] rfl rfl (by kernel_rfl) (by decide) (fun K hK => ?_)
      refine skip_ (w1 := ?_) (by rfl) rfl ?_ ?_
      rotate_left
      · go_simp; rfl
      refine hK.out _ _ ?_
      clear hK K
      refine done_ (by kernel_rfl) (NoPanic.normal ?_)
      have HZ := Aside0.mk h7
      have e6 : n6 = n + 1 := by have := (Kd.R_reads' HZ.out.rU).1; rw [List.length_append, HN.out.1] at this; exact this
      have e7 : n7 = n + 1 := by have := (Kd.R_reads' HZ.out.rO).1; rw [List.length_append, HN.out.2.1] at this; exact this
      subst e6
      subst e7
      exact hQ A6 A7 c6 c7 _ _ _ _ _ _ _ _ _ _ _ _ _ _ _ _ _ _ _ _ _ ((HZ.out.set 0 _).set 1 _)
    ·
      refine value_ (w1 := ?_) (v := ?_) (by rfl) rfl ?_ ?_
      rotate_left 2
      · go_simp
        constructor
        · rfl
        · rfl
      refine hK.out _ _ (HSK.out _ ((HM.out.alloc _).alloc _).obj (blk_alloc (blk_alloc HP.out _) _)) (fun hHeld => ?_)
      clear hK K
      refine norm_ (a' := ?_) ?_ ?_
      rotate_left
      · show Act.put _ (some 42) _ = _
        simp only [Act.put, List.setIfInBounds_toArray, List.set_cons_zero, List.set_cons_succ]; rfl
      refine one_ (i := 8) (N := some 36) #[true, true, true, true, true, true, true, true, true, true, true, true, true, true, true, false, false, false, false, false, false, false] rfl rfl (by kernel_rfl) (by decide) (fun K hK => ?_)
      refine stepU (vU := .slice AU n cU) (p := up) ((HM.out.alloc _).alloc _) (blk_alloc (blk_new _ _) _) (by have := HN.out; omega) (by rfl) (.tmp 33) (.tmp 35) rfl rfl rfl ?_
      intro A6 n6 c6 w6 h6 k6
      have e6 := blk_grown (blk_alloc (blk_alloc HP.out _) _) k6.2 HB6.out
      refine hK.out _ _ (HSK.out _ (h6).obj (e6)) (fun hHeld => ?_)
      clear hK K
      refine norm_ (a' := ?_) ?_ ?_
      rotate_left
      · show Act.put _ (some 36) _ = _
        simp only [Act.put, List.setIfInBounds_toArray, List.set_cons_zero, List.set_cons_succ]; rfl
      refine one_ (i := 15) (N := some 43) #[true, true, true, true, true, true, true, true, true, true, true, true, true, true, true, true, false, false, false, false, false, false] rfl rfl (by kernel_rfl) (by decide) (fun K hK => ?_)
      refine stepO (vO := .slice AO n cO) (p := p) (h6) (k6.1 _ _ _ no45_3 (nw2 (W := W0))) (by have := HN.out; omega) (by rfl) (.tmp 40) (.tmp 42) rfl rfl rfl ?_
      intro A7 n7 c7 w7 h7 k7
      have e7 := blk_grown e6 k7.2 HB5.out
      refine hK.out _ _ (HSK.out _ (h7).obj (e7)) (fun hHeld => ?_)
      clear hK K
      refine norm_ (a' := ?_) ?_ ?_
      rotate_left
      · show Act.put _ (some 43) _ = _
        simp only [Act.put, List.setIfInBounds_toArray, List.set_cons_zero, List.set_cons_succ]; rfl
      refine pure_ (i := 16) (N := some 44) (v := ?_) (a' := ?_) #[true, true, true, true, true, true, true, true, true, true, true, true, true, true, true, true, true, false, false, false, false, false] rfl rfl (by kernel_rfl) (fun _ _ _ h => h) (Or.inl ⟨by rfl, ?_⟩) ?_ ?_
      rotate_left
      · intro w'; go_simp; with_reducible rfl
      rotate_left
      · simp only [Act.put, List.setIfInBounds_toArray, List.set_cons_zero, List.set_cons_succ]; rfl
      refine pure_ (i := 17) (N := some 45) (v := ?_) (a' := ?_) #[true, true, true, true, true, true, true, true, true, true, true, true, true, true, true, true, true, true, false, false, false, false] rfl rfl (by kernel_rfl) (fun _ _ _ h => h) (Or.inl ⟨by rfl, ?_⟩) ?_ ?_
      rotate_left
      · intro w'; go_simp; with_reducible rfl
      rotate_left
      · simp only [Act.put, List.setIfInBounds_toArray, List.set_cons_zero, List.set_cons_succ]; rfl
      obtain ⟨r0, r1, r2, r3, r4, s0, s1, s2, s3, s4⟩ := c5 h7.obj
      have rl := blk_lt h7.obj
      refine last_ (i := 18) (N := none) #[true, true, true, true, true, true, true, true, true, true, true, true, true, true, true, true, true, true, true, false, false, false] rfl rfl (by kernel_rfl) (by decide) (fun K hK => ?_)
      refine skip_ (w1 := ?_) (by rfl) rfl ?_ ?_
      rotate_left
      · go_simp; rfl
      refine hK.out _ _ ?_
      clear hK K
      refine pure_ (i := 19) (N := some 46) (v := ?_) (a' := ?_) #[true, true, true, true, true, true, true, true, true, true, true, true, true, true, true, true, true, true, true, true, false, false] rfl rfl (by kernel_rfl) (fun _ _ _ h => h) (Or.inl ⟨by rfl, ?_⟩) ?_ ?_
      rotate_left
      · intro w'; go_simp; with_reducible rfl
      rotate_left
      · simp only [Act.put, List.setIfInBounds_toArray, List.set_cons_zero, List.set_cons_succ]; rfl
      refine pure_ (i := 20) (N := some 47) (v := ?_) (a' := ?_) #[true, true, true, true, true, true, true, true, true, true, true, true, true, true, true, true, true, true, true, true, true, false] rfl rfl (by kernel_rfl) (fun _ _ _ h => h) (Or.inl ⟨by rfl, ?_⟩) ?_ ?_
      rotate_left
      · intro w'; go_simp; with_reducible rfl
      rotate_left
      · simp only [Act.put, List.setIfInBounds_toArray, List.set_cons_zero, List.set_cons_succ]; rfl
      obtain ⟨q0, q1, q2, q3, q4, v0, v1, v2, v3, v4⟩ := c5 (h7.set 0 (.slice A6 n6 c6)).obj
      refine last_ (i := 21) (N := none) #[true, true, true, true, true, true, true, true, true, true, true, true, true, true, true, true, true, true, true, true, true, true] rfl rfl (by kernel_rfl) (by decide) (fun K hK => ?_)
      refine skip_ (w1 := ?_) (by rfl) rfl ?_ ?_
      rotate_left
      · go_simp; rfl
      refine hK.out _ _ ?_
      clear hK K
      refine done_ (by kernel_rfl) (NoPanic.normal ?_)
      have HZ := Aside0.mk h7
      have e6 : n6 = n + 1 := by have := (Kd.R_reads' HZ.out.rU).1; rw [List.length_append, HN.out.1] at this; exact this
      have e7 : n7 = n + 1 := by have := (Kd.R_reads' HZ.out.rO).1; rw [List.length_append, HN.out.2.1] at this; exact this
      subst e6
      subst e7
      exact hQ A6 A7 c6 c7 _ _ _ _ _ _ _ _ _ _ _ _ _ _ _ _ _ _ _ _ _ ((HZ.out.set 0 _).set 1 _)
  ·
    refine value_ (w1 := ?_) (v := ?_) (by rfl) rfl ?_ ?_
    rotate_left 2
    · go_simp
      constructor
      · rfl
      · rfl
    refine hK.out _ _ (HSK.out _ (HM.out.alloc _).obj (blk_alloc HP.out _)) (fun hHeld => ?_)
    clear hK K
    refine norm_ (a' := ?_) ?_ ?_
    rotate_left
    · show Act.put _ (some 42) _ = _
      simp only [Act.put, List.setIfInBounds_toArray, List.set_cons_zero, List.set_cons_succ]; rfl
    refine one_ (i := 7) (N := some 35) #[true, true, true, true, true, true, true, true, false, true, true, true, true, true, true, false, false, false, false, false, false, false] rfl rfl (by kernel_rfl) (by decide) (fun K hK => ?_)
    refine value_ (w1 := ?_) (v := ?_) (by rfl) rfl ?_ ?_
    rotate_left 2
    · go_simp
      constructor
      · rfl
      · rfl
    refine hK.out _ _ (HSK.out _ ((HM.out.alloc _).alloc _).obj (blk_alloc (blk_alloc HP.out _) _)) (fun hHeld => ?_)
    clear hK K
    refine norm_ (a' := ?_) ?_ ?_
    rotate_left
    · show Act.put _ (some 35) _ = _
      simp only [Act.put, List.setIfInBounds_toArray, List.set_cons_zero, List.set_cons_succ]; rfl
    refine one_ (i := 8) (N := some 36) #[true, true, true, true, true, true, true, true, true, true, true, true, true, true, true, false, false, false, false, false, false, false] rfl rfl (by kernel_rfl) (by decide) (fun K hK => ?_)
    refine stepU (vU := .slice AU n cU) (p := up) ((HM.out.alloc _).alloc _) (nw2 (W := W0)) (by have := HN.out; omega) (by rfl) (.tmp 33) (.tmp 35) rfl rfl rfl ?_
    intro A6 n6 c6 w6 h6 k6
    have e6 := blk_grown (blk_alloc (blk_alloc HP.out _) _) k6.2 HB6.out
    refine hK.out _ _ (HSK.out _ (h6).obj (e6)) (fun hHeld => ?_)
    clear hK K
    refine norm_ (a' := ?_) ?_ ?_
    rotate_left
    · show Act.put _ (some 36) _ = _
      simp only [Act.put, List.setIfInBounds_toArray, List.set_cons_zero, List.set_cons_succ]; rfl
    refine one_ (i := 15) (N := some 43) #[true, true, true, true, true, true, true, true, true, true, true, true, true, true, true, true, false, false, false, false, false, false] rfl rfl (by kernel_rfl) (by decide) (fun K hK => ?_)
    refine stepO (vO := .slice AO n cO) (p := p) (h6) (k6.1 _ _ _ no45_3 (blk_alloc (blk_new W0 _) _)) (by have := HN.out; omega) (by rfl) (.tmp 40) (.tmp 42) rfl rfl rfl ?_
    intro A7 n7 c7 w7 h7 k7
    have e7 := blk_grown e6 k7.2 HB5.out
    refine hK.out _ _ (HSK.out _ (h7).obj (e7)) (fun hHeld => ?_)
    clear hK K
    refine norm_ (a' := ?_) ?_ ?_
    rotate_left
    · show Act.put _ (some 43) _ = _
      simp only [Act.put, List.setIfInBounds_toArray, List.set_cons_zero, List.set_cons_succ]; rfl
    refine pure_ (i := 16) (N := some 44) (v := ?_) (a' := ?_) #[true, true, true, true, true, true, true, true, true, true, true, true, true, true, true, true, true, false, false, false, false, false] rfl rfl (by kernel_rfl) (fun _ _ _ h => h) (Or.inl ⟨by rfl, ?_⟩) ?_ ?_
    rotate_left
    · intro w'; go_simp; with_reducible rfl
    rotate_left
    · simp only [Act.put, List.setIfInBounds_toArray, List.set_cons_zero, List.set_cons_succ]; rfl
    refine pure_ (i := 17) (N := some 45) (v := ?_) (a' := ?_) #[true, true, true, true, true, true, true, true, true, true, true, true, true, true, true, true, true, true, false, false, false, false] rfl rfl (by kernel_rfl) (fun _ _ _ h => h) (Or.inl ⟨by rfl, ?_⟩) ?_ ?_
    rotate_left
    · intro w'; go_simp; with_reducible rfl
    rotate_left
    · simp only [Act.put, List.setIfInBounds_toArray, List.set_cons_zero, List.set_cons_succ]; rfl
    obtain ⟨r0, r1, r2, r3, r4, s0, s1, s2, s3, s4⟩ := c5 h7.obj
    have rl := blk_lt h7.obj
    refine last_ (i := 18) (N := none) #[true, true, true, true, true, true, true, true, true, true, true, true, true, true, true, true, true, true, true, false, false, false] rfl rfl (by kernel_rfl) (by decide) (fun K hK => ?_)
    refine skip_ (w1 := ?_) (by rfl) rfl ?_ ?_
    rotate_left
    · go_simp; rfl
    refine hK.out _ _ ?_
    clear hK K
    refine pure_ (i := 19) (N := some 46) (v := ?_) (a' := ?_) #[true, true, true, true, true, true, true, true, true, true, true, true, true, true, true, true, true, true, true, true, false, false] rfl rfl (by kernel_rfl) (fun _ _ _ h => h) (Or.inl ⟨by rfl, ?_⟩) ?_ ?_
    rotate_left
    · intro w'; go_simp; with_reducible rfl
    rotate_left
    · simp only [Act.put, List.setIfInBounds_toArray, List.set_cons_zero, List.set_cons_succ]; rfl
    refine pure_ (i := 20) (N := some 47) (v := ?_) (a' := ?_) #[true, true, true, true, true, true, true, true, true, true, true, true, true, true, true, true, true, true, true, true, true, false] rfl rfl (by kernel_rfl) (fun _ _ _ h => h) (Or.inl ⟨by rfl, ?_⟩) ?_ ?_
    rotate_left
    · intro w'; go_simp; with_reducible rfl
    rotate_left
    · simp only [Act.put, List.setIfInBounds_toArray, List.set_cons_zero, List.set_cons_succ]; rfl
    obtain ⟨q0, q1, q2, q3, q4, v0, v1, v2, v3, v4⟩ := c5 (h7.set 0 (.slice A6 n6 c6)).obj
    refine last_ (i := 21) (N := none) #[true, true, true, true, true, true, true, true, true, true, true, true, true, true, true, true, true, true, true, true, true, true] rfl rfl (by kernel_rfl) (by decide) (fun K hK => ?_)
    refine skip_ (w1 := ?_) (by rfl) rfl ?_ ?_
    rotate_left
    · go_simp; rfl
    refine hK.out _ _ ?_
    clear hK K
    refine done_ (by kernel_rfl) (NoPanic.normal ?_)
    have HZ := Aside0.mk h7
    have e6 : n6 = n + 1 := by have := (Kd.R_reads' HZ.out.rU).1; rw [List.length_append, HN.out.1] at this; exact this
    have e7 : n7 = n + 1 := by have := (Kd.R_reads' HZ.out.rO).1; rw [List.length_append, HN.out.2.1] at this; exact this
    subst e6
    subst e7
    exact hQ A6 A7 c6 c7 _ _ _ _ _ _ _ _ _ _ _ _ _ _ _ _ _ _ _ _ _ ((HZ.out.set 0 _).set 1 _)
end Go.Proofs.Ytffbonfgbmohdaa.P
namespace Go.Proofs.Ytffbonfgbmohdaa.P
open Go.RowKit Go.Proofs.YtffbonfgbmohdaaW.PrintWords Go.Proofs.YtffbonfgbmohdaaW.PrintLast Go.Proofs.YtffbonfgbmohdaaW.PrintMore
set_option linter.unusedVariables false
set_option linter.unusedSimpArgs false

set_option maxHeartbeats 16000000 in
set_option maxRecDepth 100000 in
theorem T_r8 (w0 wS w2 : World) (g b5 : Nat) (AU AO AK AW : Option Addr) (cU cO cK cW n : Nat) (cnt : Int) (ups : List Int) (own : List S45) (kn : List Bool) (who : List S45) (up : Int) (p : S45)
    (HM : Mid w0 wS w2 g #[.slice AU (n + 1) cU, .slice AO (n + 1) cO, .slice AK n cK, .slice AW n cW, .int .i64 cnt] (.slice AU (n + 1) cU) (.slice AO (n + 1) cO) (.slice AK n cK) (.slice AW n cW) ups own kn who)
    (hn : kn.length = n ∧ who.length = n ∧ n ≤ 50)
    (a2 a3 a4 a6 a7 a8 a9 a10 a11 a12 a13 a14 a15 a16 a17 a18 a19 a20 a21 a22 a23 a24 a25 a26 a27 a28 a29 a30 a31 a32 a33 a34 a35 a36 a37 a38 a39 a40 a41 a42 a43 a44 a45 a46 a47 a48 a49 a50 a51 a52 a53 a54 a55 a56 a57 a58 a59 a60 a61 a62 a63 a64 a65 a66 a67 a68 a69 a70 a71 a72 : Value) (Q : Exit → Act → World → Prop)
    (hQ : ∀ (BK BW : Option Addr) (dK dW : Nat) (wc : World) (x48 x49 x50 x51 x52 x53 x54 x55 x56 x57 x58 x59 x60 x61 x62 x63 x64 x65 x66 : Value), Mid w0 wS wc g #[.slice AU (n + 1) cU, .slice AO (n + 1) cO, .slice BK (n + 1) dK, .slice BW (n + 1) dW, .int .i64 cnt] (.slice AU (n + 1) cU) (.slice AO (n + 1) cO) (.slice BK (n + 1) dK) (.slice BW (n + 1) dW) ups own (kn ++ [false]) (who ++ [(⟨⟨0, 0⟩, 0, 0⟩ : S45)]) → Q .normal { tmps := #[.pointer (some ⟨g, 0, none⟩), .int .i64 up, a2, a3, a4, .pointer (some ⟨b5, 0, none⟩), a6, a7, a8, a9, a10, a11, a12, a13, a14, a15, a16, a17, a18, a19, a20, a21, a22, a23, a24, a25, a26, a27, a28, a29, a30, a31, a32, a33, a34, a35, a36, a37, a38, a39, a40, a41, a42, a43, a44, a45, a46, a47, x48, x49, x50, x51, x52, x53, x54, x55, x56, x57, x58, x59, x60, x61, x62, x63, x64, x65, x66, a67, a68, a69, a70, a71, a72], defers := [] } wc) :
    Code.wp Try.prog (Code.region 8 (opsOf Try.f9 8) true) Q { tmps := #[.pointer (some ⟨g, 0, none⟩), .int .i64 up, a2, a3, a4, .pointer (some ⟨b5, 0, none⟩), a6, a7, a8, a9, a10, a11, a12, a13, a14, a15, a16, a17, a18, a19, a20, a21, a22, a23, a24, a25, a26, a27, a28, a29, a30, a31, a32, a33, a34, a35, a36, a37, a38, a39, a40, a41, a42, a43, a44, a45, a46, a47, a48, a49, a50, a51, a52, a53, a54, a55, a56, a57, a58, a59, a60, a61, a62, a63, a64, a65, a66, a67, a68, a69, a70, a71, a72], defers := [] } w2 := by
  simp only [opsOf, opsIn, Try.f9, Option.bind_some, Option.getD_some, Nat.reduceBEq, Bool.false_eq_true, if_true, if_false, ↓reduceIte]
  refine wp_region_noPanic ?_
  have HM := Aside0.mk HM.drew
  have HSK := Aside0.mk (show ∀ w' : World, w'.heap[g]? = some (.cells #[.slice AU (n + 1) cU, .slice AO (n + 1) cO, .slice AK n cK, .slice AW n cW, .int .i64 cnt] 67 (0, 0)) → w'.cell? ⟨g, 2, none⟩ = some (.slice AK n cK) ∧ w'.cell? ⟨g, 3, none⟩ = some (.slice AW n cW) from fun w' h1 => by
    obtain ⟨_, _, x2, x3, _⟩ := c5 h1
    exact ⟨x2, x3⟩)
  have HN := Aside0.mk hn
  clear hn
  refine start_ (n := 21) (S := fun w' => w'.cell? ⟨g, 2, none⟩ = some (.slice AK n cK) ∧ w'.cell? ⟨g, 3, none⟩ = some (.slice AW n cW)) (ds := [17, 20]) #[false, false, false, false, false, false, false, false, false, false, false, false, false, false, false, false, false, false, false, false, false] (by kernel_rfl) rfl rfl (HSK.out _ HM.out.obj) (fun hHeld => ?_)
  generalize w2.drew = W0 at HM hHeld ⊢
  refine pure_ (i := 0) (N := some 48) (v := ?_) (a' := ?_) #[true, false, false, false, false, false, false, false, false, false, false, false, false, false, false, false, false, false, false, false, false] rfl rfl (by kernel_rfl) (fun _ _ _ h => h) (Or.inl ⟨by rfl, ?_⟩) ?_ ?_
  rotate_left
  · intro w'; go_simp; with_reducible rfl
  rotate_left
  · simp only [Act.put, List.setIfInBounds_toArray, List.set_cons_zero, List.set_cons_succ]; rfl
  refine pure_ (i := 1) (N := some 49) (v := ?_) (a' := ?_) #[true, true, false, false, false, false, false, false, false, false, false, false, false, false, false, false, false, false, false, false, false] rfl rfl (by kernel_rfl) (fun _ _ _ h => h) (Or.inl ⟨by rfl, ?_⟩) ?_ ?_
  rotate_left
  · intro w'; go_simp; with_reducible rfl
  rotate_left
  · simp only [Act.put, List.setIfInBounds_toArray, List.set_cons_zero, List.set_cons_succ]; rfl
  refine pure_ (i := 2) (N := some 50) (v := ?_) (a' := ?_) #[true, true, true, false, false, false, false, false, false, false, false, false, false, false, false, false, false, false, false, false, false] rfl rfl (by kernel_rfl) (fun _ _ _ h => h) (Or.inl ⟨by rfl, ?_⟩) ?_ ?_
  rotate_left
  · intro w'; go_simp; with_reducible rfl
  rotate_left
  · simp only [Act.put, List.setIfInBounds_toArray, List.set_cons_zero, List.set_cons_succ]; rfl
  refine pure_ (i := 3) (N := some 51) (v := ?_) (a' := ?_) #[true, true, true, true, false, false, false, false, false, false, false, false, false, false, false, false, false, false, false, false, false] rfl rfl (by kernel_rfl) (fun _ _ _ h => h) (Or.inl ⟨by rfl, ?_⟩) ?_ ?_
  rotate_left
  · intro w'; go_simp; with_reducible rfl
  rotate_left
  · simp only [Act.put, List.setIfInBounds_toArray, List.set_cons_zero, List.set_cons_succ]; rfl
  refine pure_ (i := 4) (N := some 52) (v := ?_) (a' := ?_) #[true, true, true, true, true, false, false, false, false, false, false, false, false, false, false, false, false, false, false, false, false] rfl rfl (by kernel_rfl) (fun _ _ _ h => h) (Or.inl ⟨by rfl, ?_⟩) ?_ ?_
  rotate_left
  · intro w'; go_simp; with_reducible rfl
  rotate_left
  · simp only [Act.put, List.setIfInBounds_toArray, List.set_cons_zero, List.set_cons_succ]; rfl
  refine pure_ (i := 8) (N := some 56) (v := ?_) (a' := ?_) #[true, true, true, true, true, false, false, false, true, false, false, false, false, false, false, false, false, false, false, false, false] rfl rfl (by kernel_rfl) (fun _ _ _ h => h) (Or.inl ⟨by rfl, ?_⟩) ?_ ?_
  rotate_left
  · intro w'; go_simp; with_reducible rfl
  rotate_left
  · simp only [Act.put, List.setIfInBounds_toArray, List.set_cons_zero, List.set_cons_succ]; rfl
  refine pure_ (i := 9) (N := some 57) (v := ?_) (a' := ?_) #[true, true, true, true, true, false, false, false, true, true, false, false, false, false, false, false, false, false, false, false, false] rfl rfl (by kernel_rfl) (fun _ _ _ h => h) (Or.inl ⟨by rfl, ?_⟩) ?_ ?_
  rotate_left
  · intro w'; go_simp; with_reducible rfl
  rotate_left
  · simp only [Act.put, List.setIfInBounds_toArray, List.set_cons_zero, List.set_cons_succ]; rfl
  refine pure_ (i := 10) (N := some 58) (v := ?_) (a' := ?_) #[true, true, true, true, true, false, false, false, true, true, true, false, false, false, false, false, false, false, false, false, false] rfl rfl (by kernel_rfl) (fun _ _ _ h => h) (Or.inl ⟨by rfl, ?_⟩) ?_ ?_
  rotate_left
  · intro w'; go_simp; with_reducible rfl
  rotate_left
  · simp only [Act.put, List.setIfInBounds_toArray, List.set_cons_zero, List.set_cons_succ]; rfl
  refine pure_ (i := 12) (N := some 60) (v := ?_) (a' := ?_) #[true, true, true, true, true, false, false, false, true, true, true, false, true, false, false, false, false, false, false, false, false] rfl rfl (by kernel_rfl) (fun _ _ _ h => h) (Or.inl ⟨by rfl, ?_⟩) ?_ ?_
  rotate_left
  · intro w'; go_simp; with_reducible rfl
  rotate_left
  · simp only [Act.put, List.setIfInBounds_toArray, List.set_cons_zero, List.set_cons_succ]; rfl
  refine take_ (i := 5) (N := some 53) (v := ?_) (a' := ?_) #[true, true, true, true, true, true, false, false, true, true, true, false, true, false, false, false, false, false, false, false, false] rfl rfl (by kernel_rfl) (fun _ _ _ h => h) (Or.inl ⟨by rfl, ?_⟩) hHeld ?_ ?_
  rotate_left
  · rintro w' ⟨t0, t1⟩; go_simp; with_reducible rfl
  rotate_left
  · simp only [Act.put, List.setIfInBounds_toArray, List.set_cons_zero, List.set_cons_succ]; rfl
  refine take_ (i := 11) (N := some 59) (v := ?_) (a' := ?_) #[true, true, true, true, true, true, false, false, true, true, true, true, true, false, false, false, false, false, false, false, false] rfl rfl (by kernel_rfl) (fun _ _ _ h => h) (Or.inl ⟨by rfl, ?_⟩) hHeld ?_ ?_
  rotate_left
  · rintro w' ⟨t0, t1⟩; go_simp; with_reducible rfl
  rotate_left
  · simp only [Act.put, List.setIfInBounds_toArray, List.set_cons_zero, List.set_cons_succ]; rfl
  refine two_ (i := 6) (j := 13) (Ni := some 54) (Nj := some 61) #[true, true, true, true, true, true, true, false, true, true, true, true, true, false, false, false, false, false, false, false, false] #[true, true, true, true, true, true, false, false, true, true, true, true, true, true, false, false, false, false, false, false, false] rfl rfl rfl rfl (by kernel_rfl) (by decide) (by decide) (fun K hK => ?_) (fun K hK => ?_)
  ·
    refine value_ (w1 := ?_) (v := ?_) (by rfl) rfl ?_ ?_
    rotate_left 2
    · go_simp
      constructor
      · rfl
      · rfl
    refine hK.out _ _ (HSK.out _ (HM.out.alloc _).obj) (fun hHeld => ?_)
    clear hK K
    refine norm_ (a' := ?_) ?_ ?_
    rotate_left
    · show Act.put _ (some 54) _ = _
      simp only [Act.put, List.setIfInBounds_toArray, List.set_cons_zero, List.set_cons_succ]; rfl
    refine two_ (i := 7) (j := 13) (Ni := some 55) (Nj := some 61) #[true, true, true, true, true, true, true, true, true, true, true, true, true, false, false, false, false, false, false, false, false] #[true, true, true, true, true, true, true, false, true, true, true, true, true, true, false, false, false, false, false, false, false] rfl rfl rfl rfl (by kernel_rfl) (by decide) (by decide) (fun K hK => ?_) (fun K hK => ?_)
    ·
      refine stepK (vK := .slice AK n cK) (p := false) (HM.out.alloc _) (blk_new _ _) (by have := HN.out; omega) (by rfl) (.tmp 53) (.tmp 54) rfl rfl rfl ?_
      intro A6 n6 c6 w6 h6 k6
      refine hK.out _ _ (HSK.out _ (h6).obj) (fun hHeld => ?_)
      clear hK K
      refine norm_ (a' := ?_) ?_ ?_
      rotate_left
      · show Act.put _ (some 55) _ = _
        simp only [Act.put, List.setIfInBounds_toArray, List.set_cons_zero, List.set_cons_succ]; rfl
      refine one_ (i := 13) (N := some 61) #[true, true, true, true, true, true, true, true, true, true, true, true, true, true, false, false, false, false, false, false, false] rfl rfl (by kernel_rfl) (by decide) (fun K hK => ?_)
      refine value_ (w1 := ?_) (v := ?_) (by rfl) rfl ?_ ?_
      rotate_left 2
      · go_simp
        constructor
        · rfl
        · rfl
      refine hK.out _ _ (HSK.out _ (h6.alloc _).obj) (fun hHeld => ?_)
      clear hK K
      refine norm_ (a' := ?_) ?_ ?_
      rotate_left
      · show Act.put _ (some 61) _ = _
        simp only [Act.put, List.setIfInBounds_toArray, List.set_cons_zero, List.set_cons_succ]; rfl
      refine one_ (i := 14) (N := some 62) #[true, true, true, true, true, true, true, true, true, true, true, true, true, true, true, false, false, false, false, false, false] rfl rfl (by kernel_rfl) (by decide) (fun K hK => ?_)
      refine stepW (vW := .slice AW n cW) (p := ⟨⟨0, 0⟩, 0, 0⟩) (h6.alloc _) (blk_new _ _) (by have := HN.out; omega) (by rfl) (.tmp 59) (.tmp 61) rfl rfl rfl ?_
      intro A7 n7 c7 w7 h7 k7
      refine hK.out _ _ (HSK.out _ (h7).obj) (fun hHeld => ?_)
      clear hK K
      refine norm_ (a' := ?_) ?_ ?_
      rotate_left
      · show Act.put _ (some 62) _ = _
        simp only [Act.put, List.setIfInBounds_toArray, List.set_cons_zero, List.set_cons_succ]; rfl
      refine pure_ (i := 15) (N := some 63) (v := ?_) (a' := ?_) #[true, true, true, true, true, true, true, true, true, true, true, true, true, true, true, true, false, false, false, false, false] rfl rfl (by kernel_rfl) (fun _ _ _ h => h) (Or.inl ⟨by rfl, ?_⟩) ?_ ?_
      rotate_left
      · intro w'; go_simp; with_reducible rfl
      rotate_left
      · simp only [Act.put, List.setIfInBounds_toArray, List.set_cons_zero, List.set_cons_succ]; rfl
      refine pure_ (i := 16) (N := some 64) (v := ?_) (a' := ?_) #[true, true, true, true, true, true, true, true, true, true, true, true, true, true, true, true, true, false, false, false, false] rfl rfl (by kernel_rfl) (fun _ _ _ h => h) (Or.inl ⟨by rfl, ?_⟩) ?_ ?_
      rotate_left
      · intro w'; go_simp; with_reducible rfl
      rotate_left
      · simp only [Act.put, List.setIfInBounds_toArray, List.set_cons_zero, List.set_cons_succ]; rfl
      obtain ⟨r0, r1, r2, r3, r4, s0, s1, s2, s3, s4⟩ := c5 h7.obj
      have rl := blk_lt h7.obj
      refine last_ (i := 17) (N := none) #[true, true, true, true, true, true, true, true, true, true, true, true, true, true, true, true, true, true, false, false, false] rfl rfl (by kernel_rfl) (by decide) (fun K hK => ?_)
      refine skip_ (w1 := ?_) (by rfl) rfl ?_ ?_
      rotate_left
      · go_simp; rfl
      refine hK.out _ _ ?_
      clear hK K
      refine pure_ (i := 18) (N := some 65) (v := ?_) (a' := ?_) #[true, true, true, true, true, true, true, true, true, true, true, true, true, true, true, true, true, true, true, false, false] rfl rfl (by kernel_rfl) (fun _ _ _ h => h) (Or.inl ⟨by rfl, ?_⟩) ?_ ?_
      rotate_left
      · intro w'; go_simp; with_reducible rfl
      rotate_left
      · simp only [Act.put, List.setIfInBounds_toArray, List.set_cons_zero, List.set_cons_succ]; rfl
      refine pure_ (i := 19) (N := some 66) (v := ?_) (a' := ?_) #[true, true, true, true, true, true, true, true, true, true, true, true, true, true, true, true, true, true, true, true, false] rfl rfl (by kernel_rfl) (fun _ _ _ h => h) (Or.inl ⟨by rfl, ?_⟩) ?_ ?_
      rotate_left
      · intro w'; go_simp; with_reducible rfl
      rotate_left
      · simp only [Act.put, List.setIfInBounds_toArray, List.set_cons_zero, List.set_cons_succ]; rfl
      obtain ⟨q0, q1, q2, q3, q4, v0, v1, v2, v3, v4⟩ := c5 (h7.set 2 (.slice A6 n6 c6)).obj
      refine last_ (i := 20) (N := none) #[true, true, true, true, true, true, true, true, true, true, true, true, true, true, true, true, true, true, true, true, true] rfl rfl (by kernel_rfl) (by decide) (fun K hK => ?_)
      refine skip_ (w1 := ?_) (by rfl) rfl ?_ ?_
      rotate_left
      · go_simp; rfl
      refine hK.out _ _ ?_
      clear hK K
      refine done_ (by kernel_rfl) (NoPanic.normal ?_)
      have HZ := Aside0.mk h7
      have e6 : n6 = n + 1 := by have := (Kd.R_reads' HZ.out.rK).1; rw [List.length_append, HN.out.1] at this; exact this
      have e7 : n7 = n + 1 := by have := (Kd.R_reads' HZ.out.rW).1; rw [List.length_append, HN.out.2.1] at this; exact this
      subst e6
      subst e7
      exact hQ A6 A7 c6 c7 _ _ _ _ _ _ _ _ _ _ _ _ _ _ _ _ _ _ _ _ ((HZ.out.set 2 _).set 3 _)
    ·
      refine value_ (w1 := ?_) (v := ?_) (by rfl) rfl ?_ ?_
      rotate_left 2
      · go_simp
        constructor
        · rfl
        · rfl
      refine hK.out _ _ (HSK.out _ ((HM.out.alloc _).alloc _).obj) (fun hHeld => ?_)
      clear hK K
      refine norm_ (a' := ?_) ?_ ?_
      rotate_left
      · show Act.put _ (some 61) _ = _
        simp only [Act.put, List.setIfInBounds_toArray, List.set_cons_zero, List.set_cons_succ]; rfl
      refine one_ (i := 7) (N := some 55) #[true, true, true, true, true, true, true, true, true, true, true, true, true, true, false, false, false, false, false, false, false] rfl rfl (by kernel_rfl) (by decide) (fun K hK => ?_)
      refine stepK (vK := .slice AK n cK) (p := false) ((HM.out.alloc _).alloc _) (blk_alloc (blk_new _ _) _) (by have := HN.out; omega) (by rfl) (.tmp 53) (.tmp 54) rfl rfl rfl ?_
      intro A6 n6 c6 w6 h6 k6
      refine hK.out _ _ (HSK.out _ (h6).obj) (fun hHeld => ?_)
      clear hK K
      refine norm_ (a' := ?_) ?_ ?_
      rotate_left
      · show Act.put _ (some 55) _ = _
        simp only [Act.put, List.setIfInBounds_toArray, List.set_cons_zero, List.set_cons_succ]; rfl
      refine one_ (i := 14) (N := some 62) #[true, true, true, true, true, true, true, true, true, true, true, true, true, true, true, false, false, false, false, false, false] rfl rfl (by kernel_rfl) (by decide) (fun K hK => ?_)
      refine stepW (vW := .slice AW n cW) (p := ⟨⟨0, 0⟩, 0, 0⟩) (h6) (k6.1 _ _ _ no45_4 (nw2 (W := W0))) (by have := HN.out; omega) (by rfl) (.tmp 59) (.tmp 61) rfl rfl rfl ?_
      intro A7 n7 c7 w7 h7 k7
      refine hK.out _ _ (HSK.out _ (h7).obj) (fun hHeld => ?_)
      clear hK K
      refine norm_ (a' := ?_) ?_ ?_
      rotate_left
      · show Act.put _ (some 62) _ = _
        simp only [Act.put, List.setIfInBounds_toArray, List.set_cons_zero, List.set_cons_succ]; rfl
      refine pure_ (i := 15) (N := some 63) (v := ?_) (a' := ?_) #[true, true, true, true, true, true, true, true, true, true, true, true, true, true, true, true, false, false, false, false, false] rfl rfl (by kernel_rfl) (fun _ _ _ h => h) (Or.inl ⟨by rfl, ?_⟩) ?_ ?_
      rotate_left
      · intro w'; go_simp; with_reducible rfl
      rotate_left
      · simp only [Act.put, List.setIfInBounds_toArray, List.set_cons_zero, List.set_cons_succ]; rfl
      refine pure_ (i := 16) (N := some 64) (v := ?_) (a' := ?_) #[true, true, true, true, true, true, true, true, true, true, true, true, true, true, true, true, true, false, false, false, false] rfl rfl (by kernel_rfl) (fun _ _ _ h => h) (Or.inl ⟨by rfl, ?_⟩) ?_ ?_
      rotate_left
      · intro w'; go_simp; with_reducible rfl
      rotate_left
      · simp only [Act.put, List.setIfInBounds_toArray, List.set_cons_zero, List.set_cons_succ]; rfl
      obtain ⟨r0, r1, r2, r3, r4, s0, s1, s2, s3, s4⟩ := c5 h7.obj
      have rl := blk_lt h7.obj
      refine last_ (i := 17) (N := none) #[true, true, true, true, true, true, true, true, true, true, true, true, true, true, true, true, true, true, false, false, false] rfl rfl (by kernel_rfl) (by decide) (fun K hK => ?_)
      refine skip_ (w1 := ?_) (by rfl) rfl ?_ ?_
      rotate_left
      · go_simp; rfl
      refine hK.out _ _ ?_
      clear hK K
      refine pure_ (i := 18) (N := some 65) (v := ?_) (a' := ?_) #[true, true, true, true, true, true, true, true, true, true, true, true, true, true, true, true, true, true, true, false, false] rfl rfl (by kernel_rfl) (fun _ _ _ h => h) (Or.inl ⟨by rfl, ?_⟩) ?_ ?_
      rotate_left
      · intro w'; go_simp; with_reducible rfl
      rotate_left
      · simp only [Act.put, List.setIfInBounds_toArray, List.set_cons_zero, List.set_cons_succ]; rfl
      refine pure_ (i := 19) (N := some 66) (v := ?_) (a' := ?_) #[true, true, true, true, true, true, true, true, true, true, true, true, true, true, true, true, true, true, true, true, false] rfl rfl (by kernel_rfl) (fun _ _ _ h => h) (Or.inl ⟨by rfl, ?_⟩) ?_ ?_
      rotate_left
      · intro w'; go_simp; with_reducible rfl
      rotate_left
      · simp only [Act.put, List.setIfInBounds_toArray, List.set_cons_zero, List.set_cons_succ]; rfl
      obtain ⟨q0, q1, q2, q3, q4, v0, v1, v2, v3, v4⟩ := c5 (h7.set 2 (.slice A6 n6 c6)).obj
      refine last_ (i := 20) (N := none) #[true, true, true, true, true, true, true, true, true, true, true, true, true, true, true, true, true, true, true, true, true] rfl rfl (by kernel_rfl) (by decide) (fun K hK => ?_)
      refine skip_ (w1 := ?_) (by rfl) rfl ?_ ?_
      rotate_left
      · go_simp; rfl
      refine hK.out _ _ ?_
      clear hK K
      refine done_ (by kernel_rfl) (NoPanic.normal ?_)
      have HZ := Aside0.mk h7
      have e6 : n6 = n + 1 := by have := (Kd.R_reads' HZ.out.rK).1; rw [List.length_append, HN.out.1] at this; exact this
      have e7 : n7 = n + 1 := by have := (Kd.R_reads' HZ.out.rW).1; rw [List.length_append, HN.out.2.1] at this; exact this
      subst e6
      subst e7
      exact hQ A6 A7 c6 c7 _ _ _ _ _ _ _ _ _ _ _ _ _ _ _ _ _ _ _ _ ((HZ.out.set 2 _).set 3 _)
  ·
    refine value_ (w1 := ?_) (v := ?_) (by rfl) rfl ?_ ?_
    rotate_left 2
    · go_simp
      constructor
      · rfl
      · rfl
    refine hK.out _ _ (HSK.out _ (HM.out.alloc _).obj) (fun hHeld => ?_)
    clear hK K
    refine norm_ (a' := ?_) ?_ ?_
    rotate_left
    · show Act.put _ (some 61) _ = _
      simp only [Act.put, List.setIfInBounds_toArray, List.set_cons_zero, List.set_cons_succ]; rfl
    refine one_ (i := 6) (N := some 54) #[true, true, true, true, true, true, true, false, true, true, true, true, true, true, false, false, false, false, false, false, false] rfl rfl (by kernel_rfl) (by decide) (fun K hK => ?_)
    refine value_ (w1 := ?_) (v := ?_) (by rfl) rfl ?_ ?_
    rotate_left 2
    · go_simp
      constructor
      · rfl
      · rfl
    refine hK.out _ _ (HSK.out _ ((HM.out.alloc _).alloc _).obj) (fun hHeld => ?_)
    clear hK K
    refine norm_ (a' := ?_) ?_ ?_
    rotate_left
    · show Act.put _ (some 54) _ = _
      simp only [Act.put, List.setIfInBounds_toArray, List.set_cons_zero, List.set_cons_succ]; rfl
    refine one_ (i := 7) (N := some 55) #[true, true, true, true, true, true, true, true, true, true, true, true, true, true, false, false, false, false, false, false, false] rfl rfl (by kernel_rfl) (by decide) (fun K hK => ?_)
    refine stepK (vK := .slice AK n cK) (p := false) ((HM.out.alloc _).alloc _) (nw2 (W := W0)) (by have := HN.out; omega) (by rfl) (.tmp 53) (.tmp 54) rfl rfl rfl ?_
    intro A6 n6 c6 w6 h6 k6
    refine hK.out _ _ (HSK.out _ (h6).obj) (fun hHeld => ?_)
    clear hK K
    refine norm_ (a' := ?_) ?_ ?_
    rotate_left
    · show Act.put _ (some 55) _ = _
      simp only [Act.put, List.setIfInBounds_toArray, List.set_cons_zero, List.set_cons_succ]; rfl
    refine one_ (i := 14) (N := some 62) #[true, true, true, true, true, true, true, true, true, true, true, true, true, true, true, false, false, false, false, false, false] rfl rfl (by kernel_rfl) (by decide) (fun K hK => ?_)
    refine stepW (vW := .slice AW n cW) (p := ⟨⟨0, 0⟩, 0, 0⟩) (h6) (k6.1 _ _ _ no45_4 (blk_alloc (blk_new W0 _) _)) (by have := HN.out; omega) (by rfl) (.tmp 59) (.tmp 61) rfl rfl rfl ?_
    intro A7 n7 c7 w7 h7 k7
    refine hK.out _ _ (HSK.out _ (h7).obj) (fun hHeld => ?_)
    clear hK K
    refine norm_ (a' := ?_) ?_ ?_
    rotate_left
    · show Act.put _ (some 62) _ = _
      simp only [Act.put, List.setIfInBounds_toArray, List.set_cons_zero, List.set_cons_succ]; rfl
    refine pure_ (i := 15) (N := some 63) (v := ?_) (a' := ?_) #[true, true, true, true, true, true, true, true, true, true, true, true, true, true, true, true, false, false, false, false, false] rfl rfl (by kernel_rfl) (fun _ _ _ h => h) (Or.inl ⟨by rfl, ?_⟩) ?_ ?_
    rotate_left
    · intro w'; go_simp; with_reducible rfl
    rotate_left
    · simp only [Act.put, List.setIfInBounds_toArray, List.set_cons_zero, List.set_cons_succ]; rfl
    refine pure_ (i := 16) (N := some 64) (v := ?_) (a' := ?_) #[true, true, true, true, true, true, true, true, true, true, true, true, true, true, true, true, true, false, false, false, false] rfl rfl (by kernel_rfl) (fun _ _ _ h => h) (Or.inl ⟨by rfl, ?_⟩) ?_ ?_
    rotate_left
    · intro w'; go_simp; with_reducible rfl
    rotate_left
    · simp only [Act.put, List.setIfInBounds_toArray, List.set_cons_zero, List.set_cons_succ]; rfl
    obtain ⟨r0, r1, r2, r3, r4, s0, s1, s2, s3, s4⟩ := c5 h7.obj
    have rl := blk_lt h7.obj
    refine last_ (i := 17) (N := none) #[true, true, true, true, true, true, true, true, true, true, true, true, true, true, true, true, true, true, false, false, false] rfl rfl (by kernel_rfl) (by decide) (fun K hK => ?_)
    refine skip_ (w1 := ?_) (by rfl) rfl ?_ ?_
    rotate_left
    · go_simp; rfl
    refine hK.out _ _ ?_
    clear hK K
    refine pure_ (i := 18) (N := some 65) (v := ?_) (a' := ?_) #[true, true, true, true, true, true, true, true, true, true, true, true, true, true, true, true, true, true, true, false, false] rfl rfl (by kernel_rfl) (fun _ _ _ h => h) (Or.inl ⟨by rfl, ?_⟩) ?_ ?_
    rotate_left
    · intro w'; go_simp; with_reducible rfl
    rotate_left
    · simp only [Act.put, List.setIfInBounds_toArray, List.set_cons_zero, List.set_cons_succ]; rfl
    refine pure_ (i := 19) (N := some 66) (v := ?_) (a' := ?_) #[true, true, true, true, true, true, true, true, true, true, true, true, true, true, true, true, true, true, true, true, false] rfl rfl (by kernel_rfl) (fun _ _ _ h => h) (Or.inl ⟨by rfl, ?_⟩) ?_ ?_
    rotate_left
    · intro w'; go_simp; with_reducible rfl
    rotate_left
    · simp only [Act.put, List.setIfInBounds_toArray, List.set_cons_zero, List.set_cons_succ]; rfl
    obtain ⟨q0, q1, q2, q3, q4, v0, v1, v2, v3, v4⟩ := c5 (h7.set 2 (.slice A6 n6 c6)).obj
    refine last_ (i := 20) (N := none) #[true, true, true, true, true, true, true, true, true, true, true, true, true, true, true, true, true, true, true, true, true] rfl rfl (by kernel_rfl) (by decide) (fun K hK => ?_)
    refine skip_ (w1 := ?_) (by rfl) rfl ?_ ?_
    rotate_left
    · go_simp; rfl
    refine hK.out _ _ ?_
    clear hK K
    refine done_ (by kernel_rfl) (NoPanic.normal ?_)
    have HZ := Aside0.mk h7
    have e6 : n6 = n + 1 := by have := (Kd.R_reads' HZ.out.rK).1; rw [List.length_append, HN.out.1] at this; exact this
    have e7 : n7 = n + 1 := by have := (Kd.R_reads' HZ.out.rW).1; rw [List.length_append, HN.out.2.1] at this; exact this
    subst e6
    subst e7
    exact hQ A6 A7 c6 c7 _ _ _ _ _ _ _ _ _ _ _ _ _ _ _ _ _ _ _ _ ((HZ.out.set 2 _).set 3 _)
end Go.Proofs.Ytffbonfgbmohdaa.P
namespace Go.Proofs.Ytffbonfgbmohdaa.P
open Go.RowKit Go.Proofs.YtffbonfgbmohdaaW.PrintWords Go.Proofs.YtffbonfgbmohdaaW.PrintLast Go.Proofs.YtffbonfgbmohdaaW.PrintMore
set_option linter.unusedVariables false
set_option linter.unusedSimpArgs false

set_option maxHeartbeats 64000000 in
set_option maxRecDepth 100000 in
theorem T_add (w0 wS w : World) (g : Nat) (AU AO AK AW : Option Addr) (cU cO cK cW n : Nat) (cnt : Int) (ups : List Int) (own : List S45) (kn : List Bool) (who : List S45)
    (HM : Mid w0 wS w g #[.slice AU n cU, .slice AO n cO, .slice AK n cK, .slice AW n cW, .int .i64 cnt] (.slice AU n cU) (.slice AO n cO) (.slice AK n cK) (.slice AW n cW) ups own kn who)
    (hn : n ≤ 50) (up : Int) (hu0 : -1 ≤ up) (hu1 : up < n) (p : S45) (hf : graph_fits.f 50 p.f0.f0 p.f0.f1 p.f1 p.f2 = some true) :
    Calls Try.prog 9 #[.pointer (some ⟨g, 0, none⟩), .int .i64 up, .agg #[.int .i64 p.f0.f0, .int .i64 p.f0.f1, .int .i64 p.f1, .int .i64 p.f2]] w fun e w' => e = .returned (.tuple #[.int .i64 (n : Int), .int .i64 0]) ∧
      ∃ BU BO BK BW dU dO dK dW, Mid w0 wS w' g #[.slice BU (n + 1) dU, .slice BO (n + 1) dO, .slice BK (n + 1) dK, .slice BW (n + 1) dW, .int .i64 cnt] (.slice BU (n + 1) dU) (.slice BO (n + 1) dO) (.slice BK (n + 1) dK) (.slice BW (n + 1) dW) (ups ++ [up]) (own ++ [p]) (kn ++ [false]) (who ++ [(⟨⟨0, 0⟩, 0, 0⟩ : S45)]) := by
  have HM := Aside0.mk HM
  have HF := Aside0.mk hf
  have h100 : ((n : Int) == 100) = false := by simp; omega
  have hu2 : ¬ up < -1 := by omega
  have hu3 : ¬ (n : Int) ≤ up := by omega
  have HN := Aside0.mk (show ups.length = n ∧ own.length = n ∧ kn.length = n ∧ who.length = n ∧ n ≤ 50 from ⟨(Kd.R_reads' HM.out.rU).1.symm, (Kd.R_reads' HM.out.rO).1.symm, (Kd.R_reads' HM.out.rK).1.symm, (Kd.R_reads' HM.out.rW).1.symm, hn⟩)
  clear hf hn hu0
  go_enter Try.func9, Try.ntmps9
  go_upto_region 1 with (fail)
  have bn := below_alloc (Below.refl w.heap.size w) (.cells #[.int .i64 p.f0.f0, .int .i64 p.f0.f1, .int .i64 p.f1, .int .i64 p.f2] 45)
  have HP := Aside0.mk (blk_new w (.cells #[.int .i64 p.f0.f0, .int .i64 p.f0.f1, .int .i64 p.f1, .int .i64 p.f2] 45))
  have HM0 := HM
  have HM := Aside0.mk (HM.out.below bn)
  change Code.wp _ _ _ _ (w.alloc (.cells #[.int .i64 p.f0.f0, .int .i64 p.f0.f1, .int .i64 p.f1, .int .i64 p.f2] 45))
  have HB5 := Aside0.mk (show some w.heap.size ≠ (Value.slice AO n cO).ownBlock from fun he => by have := Kd.R_lt HM0.out.rO _ he.symm; omega)
  have HB6 := Aside0.mk (show some w.heap.size ≠ (Value.slice AU n cU).ownBlock from fun he => by have := Kd.R_lt HM0.out.rU _ he.symm; omega)
  generalize w.heap.size = b5 at HP HB5 HB6 ⊢
  generalize w.alloc (.cells #[.int .i64 p.f0.f0, .int .i64 p.f0.f1, .int .i64 p.f1, .int .i64 p.f2] 45) = w1 at HP HM ⊢
  clear bn HM0
  obtain ⟨x0, x1, x2, x3, x4, y0, y1, y2, y3, y4⟩ := c5 HM.out.obj
  obtain ⟨p0, p1, p2, p3, q0, q1, q2, q3⟩ := b4 HP.out
  go_wp2_with (fail)
  refine (graph_fits.calls 50 p.f0.f0 p.f0.f1 p.f1 p.f2 true _ HF.out).mono ?_
  rintro e w2 ⟨rfl, hb⟩
  have HM := Aside0.mk ((HM.out.drewN 0).below hb)
  have HP := Aside0.mk (blk_below HP.out hb)
  clear hb x0 x1 x2 x3 x4 y0 y1 y2 y3 y4 p0 p1 p2 p3 q0 q1 q2 q3
  obtain ⟨x0, x1, x2, x3, x4, y0, y1, y2, y3, y4⟩ := c5 HM.out.obj
  obtain ⟨p0, p1, p2, p3, q0, q1, q2, q3⟩ := b4 HP.out
  go_upto_region 7 with (fail)
  refine Eq.mp (congrArg (fun o => Code.wp Try.prog (Code.region 7 o true) _ _ _) (show opsOf Try.f9 7 = _ from by kernel_rfl)) ?_
  refine T_r7 w0 wS w2 g b5 AU AO AK AW cU cO cK cW n cnt ups own kn who up p HM.out HP.out HB5.out HB6.out HN.out _ _ _ _ _ _ _ _ _ _ _ _ _ _ _ _ _ _ _ _ _ _ _ _ _ _ _ _ _ _ _ _ _ _ _ _ _ _ _ _ _ _ _ _ _ _ _ _ _ _ _ _ _ _ _ _ _ _ _ _ _ _ _ _ _ _ _ _ _ _ _ ?_
  intro BU BO dU dO w3 u28 u29 u30 u31 u32 u33 u34 u35 u36 u37 u38 u39 u40 u41 u42 u43 u44 u45 u46 u47 hM
  have HM1 := Aside0.mk hM
  clear x0 x1 x2 x3 x4 y0 y1 y2 y3 y4 p0 p1 p2 p3 q0 q1 q2 q3 HP HB5 HB6 HM hM
  obtain ⟨x0, x1, x2, x3, x4, y0, y1, y2, y3, y4⟩ := c5 HM1.out.obj
  go_upto_region 8 with (fail)
  refine Eq.mp (congrArg (fun o => Code.wp Try.prog (Code.region 8 o true) _ _ _) (show opsOf Try.f9 8 = _ from by kernel_rfl)) ?_
  refine T_r8 w0 wS w3 g b5 BU BO AK AW dU dO cK cW n cnt (ups ++ [up]) (own ++ [p]) kn who up p HM1.out ⟨HN.out.2.2.1, HN.out.2.2.2.1, HN.out.2.2.2.2⟩ _ _ _ _ _ _ _ _ _ _ _ _ _ _ _ _ _ _ _ _ _ _ _ _ _ _ _ _ _ _ _ _ _ _ _ _ _ _ _ _ _ _ _ _ _ _ _ _ _ _ _ _ _ _ _ _ _ _ _ _ _ _ _ _ _ _ _ _ _ _ _ ?_
  intro BK BW dK dW w4 u48 u49 u50 u51 u52 u53 u54 u55 u56 u57 u58 u59 u60 u61 u62 u63 u64 u65 u66 hM
  have HM2 := Aside0.mk hM
  clear x0 x1 x2 x3 x4 y0 y1 y2 y3 y4 HM1 hM
  obtain ⟨x0, x1, x2, x3, x4, y0, y1, y2, y3, y4⟩ := c5 HM2.out.obj
  go_wp2_with (fail)
  go_ret2
  refine ⟨?_, BU, BO, BK, BW, dU, dO, dK, dW, HM2.out⟩
  have e9 : wrap64 (n : Int) = (n : Int) := by have := HN.out; unfold wrap64; omega
  first
    | (rw [e9]; done)
    | (simp only [e9]; done)
    | (simp [e9]; done)
end Go.Proofs.Ytffbonfgbmohdaa.P
