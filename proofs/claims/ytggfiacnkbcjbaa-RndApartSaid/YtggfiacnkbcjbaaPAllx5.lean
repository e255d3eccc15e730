/- Functions of this seat in plain Lean and their contracts, written by a turned copy of the kit's print (turns: wip/pr/make.py of this session). No condition. -/
import Derived.Maps.OwnSet
import Derived.Carry
import Derived.Test.YtggfiacnkbcjbaaPAllx0
import Derived.Test.YtggfiacnkbcjbaaPAllx1
import Derived.Test.YtggfiacnkbcjbaaPAllx3
import Derived.Test.YtggfiacnkbcjbaaPAllx4
namespace Go.Proofs.Ytggfiacnkbcjbaa.P
open Go.RowKit Go.Proofs.YtggfiacnkbcjbaaW.PrintWords Go.Proofs.YtggfiacnkbcjbaaW.PrintLast Go.Proofs.YtggfiacnkbcjbaaW.PrintMore
attribute [local go_sem] max2_int min2_int max_two min_two max_three min_three max_four min_four   -- for this text's walks alone
attribute [local go_sem] fld25_0 fld25_1
set_option linter.unusedVariables false
set_option linter.unusedSimpArgs false

/-! ### tourkeep1_RndApart: function 5 -/
/-- the stream's states and numbers -/
def raSt (s g : Int) : Nat → Int × Int
  | 0 => (s, g)
  | n + 1 => match rnd_Next.f (raSt s g n).1 (raSt s g n).2 with
    | some (_, a, b) => (a, b)
    | none => raSt s g n
def raKey (s g : Int) (n : Nat) : Int := match rnd_Next.f (raSt s g n).1 (raSt s g n).2 with
  | some (x, _, _) => x
  | none => 0
def raKeys (s g : Int) (n : Nat) : List Lit := (List.range n).map fun j => .int .u64 (raKey s g j)
def raSet (s g : Int) (n : Nat) : DataW Unit := Go.Maps.setOf (.lit (.bool true)) (raKeys s g n)
def raCount (s g : Int) : Int := Go.Maps.size (raSet s g 50)
theorem raSet_zero (s g : Int) : raSet s g 0 = .map [] := by simp [raSet, raKeys, Go.Maps.setOf]
theorem raSet_succ (s g : Int) (n : Nat) : raSet s g (n + 1) = (raSet s g n).put (.int .u64 (raKey s g n)) (.lit (.bool true)) := by
  unfold raSet
  rw [← Go.Maps.setOf_snoc]
  simp [raKeys, List.range_succ]
theorem ra_below {H : Type} {P : Program} {k : TypeId} {R : Value → Option (DataW H × List MemPlace)} {w w' : World} {b n : Nat} {D : DataW H} (h : w.ownsMap P k R b n D) (hb : Below w.heap.size w w') : w'.ownsMap P k R b n D := by
  have hlt := h.lt
  obtain ⟨es, clock, hb', F, hs, hD⟩ := h
  exact ⟨es, clock, (hb.block b hlt).trans hb', F, hs, hD⟩
theorem ra_drewN {H : Type} {P : Program} {k : TypeId} {R : Value → Option (DataW H × List MemPlace)} {w : World} {b n : Nat} {D : DataW H} (h : w.ownsMap P k R b n D) (m : Nat) : (w.drewN m).ownsMap P k R b n D := h
theorem ra_obj {H : Type} {P : Program} {k : TypeId} {R : Value → Option (DataW H × List MemPlace)} {w : World} {b n : Nat} {D : DataW H} (h : w.ownsMap P k R b n D) : ∃ es c, w.heap[b]? = some (.map es c) := by
  obtain ⟨es, clock, hb', _⟩ := h
  exact ⟨es, clock, hb'⟩
theorem ra_row {α : Type} {d : Kd α} {e base : Nat} {ok : Nat → Prop} {w w1 : World} {v : Value} {xs : List α} {gm : Nat} (h : d.R e w base ok v xs) (hm : ∃ es c, w.heap[gm]? = some (.map es c)) (hg : w.grownBy w1 (some gm)) : d.R e w1 base ok v xs :=
  Kd.R_mono (Kd.R_grown (Kd.R_bound h) hg (fun k hk he => by
    injection he with he
    subst he
    obtain ⟨_, _, _, q, _, cells, hc⟩ := hk
    obtain ⟨es, c, hm⟩ := hm
    rw [hm] at hc
    injection hc with hc
    cases hc)) (fun _ hk => hk.1)
theorem ra_blk {w w1 : World} {gm g : Nat} {cs : Array Value} {t : TypeId} {fr : Nat × Nat} (h : w.heap[g]? = some (.cells cs t fr)) (hm : ∃ es c, w.heap[gm]? = some (.map es c)) (hg : w.grownBy w1 (some gm)) : w1.heap[g]? = some (.cells cs t fr) := by
  refine (hg.block g (blk_lt h) (fun he => ?_)).trans h
  injection he with he
  subst he
  obtain ⟨es, c, hm⟩ := hm
  rw [hm] at h
  injection h with h
  cases h
theorem ra_bits (op : BinOp) (x y : Int) : 0 ≤ Go.bits op .u64 x y ∧ Go.bits op .u64 x y < 18446744073709551616 := by
  unfold Go.bits
  simp only [IntKind.wrap_u64]
  omega
theorem ra_wf {s g x a b : Int} (h : rnd_Next.f s g = some (x, a, b)) : (Lit.int .u64 x).wf = true := by
  unfold rnd_Next.f rnd_Mix.f at h
  simp only [Option.bind_some, Option.some.injEq, Prod.mk.injEq] at h
  have hx := h.1
  have e1 : IntKind.u64.min = 0 := by decide +kernel
  have e2 : IntKind.u64.max = 18446744073709551615 := by decide +kernel
  simp only [Lit.wf, Bool.and_eq_true, decide_eq_true_eq, e1, e2]
  rw [← hx]
  have r := ra_bits
  exact ⟨(ra_bits _ _ _).1, Int.le_of_lt_add_one (ra_bits _ _ _).2⟩
theorem ra_wrap (n : Nat) (h : n ≤ 50) : wrap64 ((n : Int) + 1) = ((n + 1 : Nat) : Int) := by unfold wrap64; omega
theorem raLaw : Maps.Keyed Try.prog 23 := Maps.int_keyed Try.underlying23
theorem raKey_ok (x : Int) (h : (Lit.int .u64 x).wf = true) : keyOf Try.prog 23 (.int .u64 x) = some (.int .u64 x) := Maps.keyOf_int_mk Try.underlying23 h
def tourkeep1_RndApart.l0 : Nat → List Int → Int → List Int → Int → Int → Int → Int → Int → Option (Bool)
  | 0, _, _, _, _, _, _, _, _ => none
  | k + 1, x0, x1, x7, x11, x142000, x142001, x143000, x143001 => if x11 < 50 then ((rnd_Next.f x143000 x143001).bind fun bt143 => (tourkeep1_RndApart.l0 k x0 x1 x7 (wrap64 (x11 + 1)) x142000 x142001 bt143.2.1 bt143.2.2)) else (if (raCount x142000 x142001) = 50 then (if 0 ≤ x1 then (if x1 < (x0.length : Int) then ((rnd_Mix.f (IntKind.u64.wrap (rd x0 x1))).bind fun t148 => (if x1 < (x7.length : Int) then ((rnd_Mix.f (IntKind.u64.wrap (rd x7 x1))).bind fun t150 => (if t148 = t150 then (none) else ((rnd_Of.f k x7).bind fun bt151 => (if bt151.1 = x142000 then (none) else (some ((Int.tmod x142001 2) == 1)))))) else (none))) else (none)) else (none)) else (none))
def tourkeep1_RndApart.f (k : Nat) (l0 : List Int) (a1 : Int) (a2 : Int) : Option (Bool) := (tourkeep1_rndBegun.f k).bind fun t125 => (if t125 = true then ((slices_Clone_int_int.f l0).bind fun t126 => (if t126.length < 17592186044416 then ((some (t126 ++ [a2] : List Int)).bind fun y129 => ((slices_Clone_int_int.f y129).bind fun t132 => ((tourmake_Below.f a1 (y129.length : Int)).bind fun t135 => (if 0 ≤ t135 then (if t135 < (t132.length : Int) then ((tourmake_Below.f a2 1099511627776).bind fun t137 => ((rnd_Of.f k y129).bind fun bt139 => (tourkeep1_RndApart.l0 k y129 t135 (t132.set (t135 : Int).toNat (Go.bits .xor .i64 (rd t132 t135) (wrap64 (1 + t137)))) 0 bt139.1 bt139.2 bt139.1 bt139.2))) else (none)) else (none))))) else (none))) else (none))
theorem tourkeep1_RndApart.mono_l : ∀ k, (∀ y0 y1 y2 y3 y4 y5 y6 y7, LeO (tourkeep1_RndApart.l0 k y0 y1 y2 y3 y4 y5 y6 y7) (tourkeep1_RndApart.l0 (k + 1) y0 y1 y2 y3 y4 y5 y6 y7))
  | 0 => fun _ _ _ _ _ _ _ _ r h => by simp [tourkeep1_RndApart.l0] at h
  | k + 1 => by
    have ih0 := tourkeep1_RndApart.mono_l k
    · intro y0 y1 y2 y3 y4 y5 y6 y7
      unfold tourkeep1_RndApart.l0
      repeat' first
      | (with_reducible exact ih0 _ _ _ _ _ _ _ _)
      | (with_reducible exact rnd_Of.mono _ _)
      | (with_reducible exact tourkeep1_rndBegun.mono _)
      | (with_reducible exact LeO.refl _)
      | (with_reducible exact LeO.none _)
      | (with_reducible refine LeO.ite ?_ ?_)
      | (with_reducible refine LeO.bind ?_ (fun _ => ?_))
      | exact ih0 _ _ _ _ _ _ _ _
      | exact rnd_Of.mono _ _
      | exact tourkeep1_rndBegun.mono _
      | exact LeO.none _
      | refine LeO.ite ?_ ?_
      | refine LeO.bind ?_ (fun _ => ?_)
theorem tourkeep1_RndApart.mono : ∀ a0 a1 a2 k, LeO (tourkeep1_RndApart.f k a0 a1 a2) (tourkeep1_RndApart.f (k + 1) a0 a1 a2) := by
  intro a0 a1 a2 k
  have ih0 := tourkeep1_RndApart.mono_l k
  unfold tourkeep1_RndApart.f
  repeat' first
      | (with_reducible exact ih0 _ _ _ _ _ _ _ _)
      | (with_reducible exact rnd_Of.mono _ _)
      | (with_reducible exact tourkeep1_rndBegun.mono _)
      | (with_reducible exact LeO.refl _)
      | (with_reducible exact LeO.none _)
      | (with_reducible refine LeO.ite ?_ ?_)
      | (with_reducible refine LeO.bind ?_ (fun _ => ?_))
      | exact ih0 _ _ _ _ _ _ _ _
      | exact rnd_Of.mono _ _
      | exact tourkeep1_rndBegun.mono _
      | exact LeO.none _
      | refine LeO.ite ?_ ?_
      | refine LeO.bind ?_ (fun _ => ?_)
def tourkeep1_RndApart.T6 : Bool × List (List Nat × List Nat) := (true, [([], []), ([], []), ([0, 1], [0, 1]), ([2], [2]), ([], []), ([4], [4]), ([5], [5]), ([3, 6], [3, 6]), ([0, 1, 0, 1, 2, 3, 4, 5, 6, 7], [0, 1]), ([8, 7, 5, 0, 1, 2, 3, 4, 5, 6, 7], [7, 8])])
def tourkeep1_RndApart.B6 : List Nat := [0, 0, 3, 7, 0, 16, 48, 127, 255, 511]
theorem tourkeep1_RndApart.tab6 : rtab .any (opsOf Try.f5 6) = tourkeep1_RndApart.T6 := by kernel_rfl
theorem tourkeep1_RndApart.bits6 : waitsOk tourkeep1_RndApart.T6.2 tourkeep1_RndApart.B6 = true := by kernel_rfl
def tourkeep1_RndApart.T17 : Bool × List (List Nat × List Nat) := (true, [([], []), ([0], [0]), ([1], [1]), ([2, 1], [2]), ([3], [3]), ([3], [3]), ([4, 5, 3], [3, 4, 5]), ([6, 3], [3, 6]), ([7, 3], [3, 7]), ([8, 3, 3], [3, 8]), ([3], [3]), ([3], [3]), ([10, 11, 3], [3, 10, 11]), ([12, 3], [3, 12]), ([13, 3], [3, 13]), ([14, 9, 3], [3, 14]), ([9, 15, 3], [3, 9, 15]), ([3, 16], [3, 16]), ([17, 15], [17]), ([18], [18]), ([19, 18, 18], [18, 19]), ([20, 18], [18, 20]), ([18], [18]), ([22, 18], [18, 22]), ([21, 23, 18], [18, 21, 23]), ([18, 24], [18, 24]), ([25, 20], [25]), ([26], [26]), ([27, 26], [26, 27]), ([28, 26], [26, 28]), ([29, 26], [26, 29]), ([26, 30], [26, 30]), ([31, 26, 0, 1, 2, 3, 4, 5, 6, 7, 8, 9, 10, 11, 12, 13, 14, 15, 16, 17, 18, 19, 20, 21, 22, 23, 24, 25, 26, 27, 28, 29, 30, 31], [31])])
def tourkeep1_RndApart.B17 : List Nat := [0, 1, 3, 7, 15, 15, 63, 127, 255, 511, 15, 15, 3087, 7183, 15375, 32767, 65535, 131071, 262143, 524287, 1048575, 2097151, 524287, 4718591, 16777215, 33554431, 67108863, 134217727, 268435455, 536870911, 1073741823, 2147483647, 4294967295]
theorem tourkeep1_RndApart.tab17 : rtab .any (opsOf Try.f5 17) = tourkeep1_RndApart.T17 := by kernel_rfl
theorem tourkeep1_RndApart.bits17 : waitsOk tourkeep1_RndApart.T17.2 tourkeep1_RndApart.B17 = true := by kernel_rfl
set_option maxHeartbeats 8000000 in
set_option maxRecDepth 100000 in
theorem tourkeep1_RndApart.calls (k : Nat) (A0 : Option Addr) (c0 : Nat) (l0 : List Int) (a1 : Int) (a2 : Int) (r : Bool) (w : World) (hr0 : Kd.C (Kd.int .i64) w A0 l0.length l0) (hc0 : l0.length ≤ c0) (h : tourkeep1_RndApart.f k l0 a1 a2 = some r) :
    Calls Try.prog 5 #[.slice A0 l0.length c0, .int .i64 a1, .int .i64 a2] w fun e w' => e = .returned (.bool r) ∧ Below w.heap.size w w' := by
  have hu25 := Try.underlying25
  have HR0 := Aside0.mk hr0
  have HC0 := Aside0.mk hc0
  clear hr0 hc0
  have HB := Aside0.mk (Below.refl w.heap.size w)
  have H : ((tourkeep1_rndBegun.f k).bind fun t125 => (if t125 = true then ((slices_Clone_int_int.f l0).bind fun t126 => (if t126.length < 17592186044416 then ((some (t126 ++ [a2] : List Int)).bind fun y129 => ((slices_Clone_int_int.f y129).bind fun t132 => ((tourmake_Below.f a1 (y129.length : Int)).bind fun t135 => (if 0 ≤ t135 then (if t135 < (t132.length : Int) then ((tourmake_Below.f a2 1099511627776).bind fun t137 => ((rnd_Of.f k y129).bind fun bt139 => (tourkeep1_RndApart.l0 k y129 t135 (t132.set (t135 : Int).toNat (Go.bits .xor .i64 (rd t132 t135) (wrap64 (1 + t137)))) 0 bt139.1 bt139.2 bt139.1 bt139.2))) else (none)) else (none))))) else (none))) else (none))) = some r := h
  clear h
  replace H := Option.bind_eq_some_iff.mp H
  obtain ⟨t125, A40, H⟩ := H
  replace H : (if t125 = true then ((slices_Clone_int_int.f l0).bind fun t126 => (if t126.length < 17592186044416 then ((some (t126 ++ [a2] : List Int)).bind fun y129 => ((slices_Clone_int_int.f y129).bind fun t132 => ((tourmake_Below.f a1 (y129.length : Int)).bind fun t135 => (if 0 ≤ t135 then (if t135 < (t132.length : Int) then ((tourmake_Below.f a2 1099511627776).bind fun t137 => ((rnd_Of.f k y129).bind fun bt139 => (tourkeep1_RndApart.l0 k y129 t135 (t132.set (t135 : Int).toNat (Go.bits .xor .i64 (rd t132 t135) (wrap64 (1 + t137)))) 0 bt139.1 bt139.2 bt139.1 bt139.2))) else (none)) else (none))))) else (none))) else (none)) = some r := H
  have A4 := Aside0.mk A40
  clear A40
  by_cases c5 : t125 = true
  · subst c5
    have H1 : ((slices_Clone_int_int.f l0).bind fun t126 => (if t126.length < 17592186044416 then ((some (t126 ++ [a2] : List Int)).bind fun y129 => ((slices_Clone_int_int.f y129).bind fun t132 => ((tourmake_Below.f a1 (y129.length : Int)).bind fun t135 => (if 0 ≤ t135 then (if t135 < (t132.length : Int) then ((tourmake_Below.f a2 1099511627776).bind fun t137 => ((rnd_Of.f k y129).bind fun bt139 => (tourkeep1_RndApart.l0 k y129 t135 (t132.set (t135 : Int).toNat (Go.bits .xor .i64 (rd t132 t135) (wrap64 (1 + t137)))) 0 bt139.1 bt139.2 bt139.1 bt139.2))) else (none)) else (none))))) else (none))) = some r := by rw [if_pos rfl] at H; exact H
    clear H
    have H := H1
    clear H1
    replace H := Option.bind_eq_some_iff.mp H
    obtain ⟨t126, A60, H⟩ := H
    replace H : (if t126.length < 17592186044416 then ((some (t126 ++ [a2] : List Int)).bind fun y129 => ((slices_Clone_int_int.f y129).bind fun t132 => ((tourmake_Below.f a1 (y129.length : Int)).bind fun t135 => (if 0 ≤ t135 then (if t135 < (t132.length : Int) then ((tourmake_Below.f a2 1099511627776).bind fun t137 => ((rnd_Of.f k y129).bind fun bt139 => (tourkeep1_RndApart.l0 k y129 t135 (t132.set (t135 : Int).toNat (Go.bits .xor .i64 (rd t132 t135) (wrap64 (1 + t137)))) 0 bt139.1 bt139.2 bt139.1 bt139.2))) else (none)) else (none))))) else (none)) = some r := H
    have A6 := Aside0.mk A60
    clear A60
    by_cases c7 : t126.length < 17592186044416
    · rw [if_pos c7] at H
      have LMc7 := Aside0.mk c7
      clear c7
      obtain ⟨y129, hy129⟩ : ∃ y_ : List Int, y_ = (t126 ++ [a2]) := ⟨_, rfl⟩
      replace H : ((slices_Clone_int_int.f y129).bind fun t132 => ((tourmake_Below.f a1 (y129.length : Int)).bind fun t135 => (if 0 ≤ t135 then (if t135 < (t132.length : Int) then ((tourmake_Below.f a2 1099511627776).bind fun t137 => ((rnd_Of.f k y129).bind fun bt139 => (tourkeep1_RndApart.l0 k y129 t135 (t132.set (t135 : Int).toNat (Go.bits .xor .i64 (rd t132 t135) (wrap64 (1 + t137)))) 0 bt139.1 bt139.2 bt139.1 bt139.2))) else (none)) else (none)))) = some r := by first | (rw [hy129]; with_reducible exact H) | (have H2_ := (Option.bind_some _ _).symm.trans H; rw [hy129]; with_reducible exact H2_) | (have H2_ := (Option.bind_some _ _).symm.trans H; with_reducible exact H2_) | with_reducible exact H | (rw [hy129]; exact H) | exact H
      have Ny129 := Aside0.mk hy129
      clear hy129
      replace H := Option.bind_eq_some_iff.mp H
      obtain ⟨t132, A80, H⟩ := H
      replace H : ((tourmake_Below.f a1 (y129.length : Int)).bind fun t135 => (if 0 ≤ t135 then (if t135 < (t132.length : Int) then ((tourmake_Below.f a2 1099511627776).bind fun t137 => ((rnd_Of.f k y129).bind fun bt139 => (tourkeep1_RndApart.l0 k y129 t135 (t132.set (t135 : Int).toNat (Go.bits .xor .i64 (rd t132 t135) (wrap64 (1 + t137)))) 0 bt139.1 bt139.2 bt139.1 bt139.2))) else (none)) else (none))) = some r := H
      have A8 := Aside0.mk A80
      clear A80
      replace H := Option.bind_eq_some_iff.mp H
      obtain ⟨t135, A90, H⟩ := H
      replace H : (if 0 ≤ t135 then (if t135 < (t132.length : Int) then ((tourmake_Below.f a2 1099511627776).bind fun t137 => ((rnd_Of.f k y129).bind fun bt139 => (tourkeep1_RndApart.l0 k y129 t135 (t132.set (t135 : Int).toNat (Go.bits .xor .i64 (rd t132 t135) (wrap64 (1 + t137)))) 0 bt139.1 bt139.2 bt139.1 bt139.2))) else (none)) else (none)) = some r := H
      have A9 := Aside0.mk A90
      clear A90
      by_cases c10 : 0 ≤ t135
      · rw [if_pos c10] at H
        have c10b0 : decide (0 ≤ t135) = true := decide_eq_true c10
        clear c10
        by_cases c11 : t135 < (t132.length : Int)
        · rw [if_pos c11] at H
          have c11b0 : decide (t135 < (t132.length : Int)) = true := decide_eq_true c11
          clear c11
          replace H := Option.bind_eq_some_iff.mp H
          obtain ⟨t137, A120, H⟩ := H
          replace H : ((rnd_Of.f k y129).bind fun bt139 => (tourkeep1_RndApart.l0 k y129 t135 (t132.set (t135 : Int).toNat (Go.bits .xor .i64 (rd t132 t135) (wrap64 (1 + t137)))) 0 bt139.1 bt139.2 bt139.1 bt139.2)) = some r := H
          have A12 := Aside0.mk A120
          clear A120
          obtain ⟨y138, hy138⟩ : ∃ y_ : List Int, y_ = (t132.set (t135 : Int).toNat (Go.bits .xor .i64 (rd t132 t135) (wrap64 (1 + t137)))) := ⟨_, rfl⟩
          replace H : ((rnd_Of.f k y129).bind fun bt139 => (tourkeep1_RndApart.l0 k y129 t135 y138 0 bt139.1 bt139.2 bt139.1 bt139.2)) = some r := by first | (rw [hy138]; with_reducible exact H) | (have H2_ := (Option.bind_some _ _).symm.trans H; rw [hy138]; with_reducible exact H2_) | (have H2_ := (Option.bind_some _ _).symm.trans H; with_reducible exact H2_) | with_reducible exact H | (rw [hy138]; exact H) | exact H
          have Ny138 := Aside0.mk hy138
          clear hy138
          replace H := Option.bind_eq_some_iff.mp H
          obtain ⟨⟨t139, t140⟩, A140, H⟩ := H
          replace H : (tourkeep1_RndApart.l0 k y129 t135 y138 0 t139 t140 t139 t140) = some r := H
          have A14 := Aside0.mk A140
          clear A140
          have H' := Aside0.mk H
          clear H
          go_enter Try.func5, Try.ntmps5
          try go_wp2_with (first | ((with_reducible refine gate_callee (f := 12) rfl ?_); refine goesL_ (some 13) rfl rfl Try.func12 (by kernel_rfl) rfl #[] rfl (by (try simp only [List.map_toArray, List.map_cons, List.map_nil]); first | done | rfl | (simp only [List.length_drop, List.length_take]; rfl)) ?_; (with_reducible refine (tourkeep1_rndBegun.calls k  true _ A4.out).mono ?_); rintro e w15 ⟨rfl, hb⟩; refine ⟨_, rfl, ?_⟩; have n0_ := Aside0.mk (below_step (by repeat (first | (with_reducible first | exact HB.out | apply below_alloc | apply pw_below_drewN | apply below_drew1) | exact HB.out)) hb); clear HB; have HB := n0_; clear n0_; (try clear hb); (try clear hb2); (try clear hk); (try clear hi)) | ((with_reducible refine gate_callee (f := 19) rfl ?_); refine goesL_ (some 16) rfl rfl Try.func19 (by kernel_rfl) rfl #[.slice A0 l0.length c0] rfl (by (try simp only [List.map_toArray, List.map_cons, List.map_nil]); first | done | rfl | (simp only [List.length_drop, List.length_take]; rfl)) ?_; (with_reducible refine (slices_Clone_int_int.calls _ _ l0 t126 _ ?side1 ?side2 A6.out).mono ?_); (case side1 => repeat (first | exact (Kd.C_below HR0.out HB.out) | (with_reducible refine Kd.C_alloc ?_ _) | (with_reducible refine Kd.C_drewN ?_ _) | (with_reducible refine Kd.C_drew ?_))); (case side2 => exact HC0.out); rintro e w16 ⟨v127, rfl, ho0, hb⟩; refine ⟨_, rfl, ?_⟩; have n0_ := Aside0.mk (Kd.R_lower ho0 (below_size (by repeat (first | (with_reducible first | exact HB.out | apply below_alloc | apply pw_below_drewN | apply below_drew1) | exact HB.out)))); have n1_ := Aside0.mk (below_step (by repeat (first | (with_reducible first | exact HB.out | apply below_alloc | apply pw_below_drewN | apply below_drew1) | exact HB.out)) hb); clear HB; have HO128 := n0_; have HB := n1_; clear n0_ n1_; (try clear hb); (try clear hb2); (try clear hk); (try clear hi); (try clear ho0)) | ((with_reducible refine gate_builtin (b := .append) (xs := #[.tmp 16, .tmp 18]) rfl ?_); at_builtin; refine Kd.R_append (Kd.int .i64) (w0 := w) w.heap.size rfl (.tmp 16) (.tmp 18) 37 3 (.int .i64 0) 8 rfl Try.underlying37 info3 rfl (by decide) (by omega) v127 t126 a2 [.int .i64 a2] (fun _ => True) (fun _ => False) rfl rfl ?aP (fun _ hk => hk.elim) ?aF ?aO ?aB ?aS ?aL ?_; (case aP => exact rfl); (case aB => exact (by repeat (first | (with_reducible first | exact HB.out | apply below_alloc | apply pw_below_drewN | apply below_drew1) | exact HB.out))); (case aF => exact (fun _ _ => trivial)); (case aO => exact (by (with_reducible repeat (first | apply Kd.R_alloc | apply Kd.R_drewN | apply Kd.R_drew)); exact HO128.out)); (case aS => exact (below_size (by repeat (first | (with_reducible first | exact HB.out | apply below_alloc | apply pw_below_drewN | apply below_drew1) | exact HB.out)))); (case aL => have := LMc7.out; omega); intro v130 w17 ho hb hg hat; rw [← Ny129.out] at ho; have n0_ := Aside0.mk (hb); have n1_ := Aside0.mk (ho); clear HB; clear HO128; have HB := n0_; have HO131 := n1_; clear n0_ n1_; clear ho hb hg hat; obtain ⟨Ao18, co18, eo18⟩ := Kd.R_slice HO131.out; subst eo18) | ((with_reducible refine gate_callee (f := 19) rfl ?_); refine goesL_ (some 21) rfl rfl Try.func19 (by kernel_rfl) rfl #[.slice Ao18 y129.length co18] rfl (by (try simp only [List.map_toArray, List.map_cons, List.map_nil]); first | done | rfl | (simp only [List.length_drop, List.length_take]; rfl)) ?_; (with_reducible refine (slices_Clone_int_int.calls _ _ y129 t132 _ ?side1 ?side2 A8.out).mono ?_); (case side1 => repeat (first | exact (Kd.R_reads' HO131.out).2.2 | (with_reducible refine Kd.C_alloc ?_ _) | (with_reducible refine Kd.C_drewN ?_ _) | (with_reducible refine Kd.C_drew ?_))); (case side2 => exact (Kd.R_reads' HO131.out).2.1); rintro e w19 ⟨v133, rfl, ho0, hb⟩; refine ⟨_, rfl, ?_⟩; have n0_ := Aside0.mk (Kd.R_elder' (by (with_reducible repeat (first | apply Kd.R_alloc | apply Kd.R_drewN | apply Kd.R_drew)); exact HO131.out) (Kd.R_base ho0) hb); have n1_ := Aside0.mk (Kd.R_lower (Kd.R_new' ho0 (Kd.R_lt (by (with_reducible repeat (first | apply Kd.R_alloc | apply Kd.R_drewN | apply Kd.R_drew)); exact HO131.out))) (below_size (by repeat (first | (with_reducible first | exact HB.out | apply below_alloc | apply pw_below_drewN | apply below_drew1) | exact HB.out)))); have n2_ := Aside0.mk (below_step (by repeat (first | (with_reducible first | exact HB.out | apply below_alloc | apply pw_below_drewN | apply below_drew1) | exact HB.out)) hb); clear HO131; clear HB; have HO131 := n0_; have HO134 := n1_; have HB := n2_; clear n0_ n1_ n2_; (try clear hb); (try clear hb2); (try clear hk); (try clear hi); (try clear ho0)) | ((with_reducible refine gate_callee (f := 16) rfl ?_); refine goesL_ (some 25) rfl rfl Try.func16 (by kernel_rfl) rfl #[.int .i64 a1, .int .i64 (y129.length : Int)] rfl (by (try simp only [List.map_toArray, List.map_cons, List.map_nil]); first | done | rfl | (simp only [List.length_drop, List.length_take]; rfl)) ?_; (with_reducible refine (tourmake_Below.calls a1 (y129.length : Int) t135 _ A9.out).mono ?_); rintro e w' ⟨rfl, ⟨nd, rfl⟩⟩; refine ⟨_, rfl, ?_⟩; (try (rw [drewN_self w19]; generalize hq_ : World.drewN w19 _ = w19; have n0_ := Aside0.mk (Kd.R_at hq_ HO131.out); have n1_ := Aside0.mk (Kd.R_at hq_ HO134.out); have n2_ := Aside0.mk (below_at hq_ HB.out); clear hq_ HO131 HO134 HB; have HO131 := n0_; have HO134 := n1_; have HB := n2_; clear n0_ n1_ n2_))))
          have n0_ := Aside0.mk (Kd.R_drew HO131.out)
          have n1_ := Aside0.mk (Kd.R_drew HO134.out)
          have n2_ := Aside0.mk (below_drew1 HB.out)
          clear HO131
          clear HO134
          clear HB
          have HO131 := n0_
          have HO134 := n1_
          have HB := n2_
          clear n0_ n1_ n2_
          obtain ⟨Ao21, co21, eo21⟩ := Kd.R_slice HO134.out
          (first | subst eo21 | (injection eo21 with f1_ f2_ f3_; have f4_ := f1_.symm; have f5_ := f3_.symm; clear f1_ f2_ f3_; subst f4_; subst f5_))
          have p136 : 0 ≤ (t135 : Int) := of_decide_eq_true (by first | (with_reducible assumption) | assumption)
          have q136 : t135 < (t132.length : Int) := of_decide_eq_true (by first | (with_reducible assumption) | assumption)
          obtain ⟨ad136, e136, hx136_0⟩ := Kd.at_int (Kd.R_reads' HO134.out).2.2 t135 p136 q136
          cases e136
          replace p136 := eq_true p136
          replace q136 := eq_true q136
          refine start_ (n := 10) (S := fun w' => w'.cell? (ad136.add (t135).toNat) = some (.int .i64 (rd t132 t135))) (ds := [9]) #[false, false, false, false, false, false, false, false, false, false] (by kernel_rfl) rfl rfl (hx136_0) (fun hHeld => ?_); refine with_tabW tourkeep1_RndApart.tab6 tourkeep1_RndApart.bits6 (fun HT_ HW_ => ?_)
          generalize w19.drew = w20 at HO131 HO134 HB hx136_0 hHeld ⊢
          refine pure_ (i := 0) (N := some 26) (v := ?_) (a' := ?_) #[true, false, false, false, false, false, false, false, false, false] rfl rfl (any_of HT_.out (by kernel_rfl)) (fun _ _ _ h => h) (Or.inl ⟨by rfl, ?_⟩) ?_ ?_
          rotate_left
          · intro w'
            go_simp
            with_reducible rfl
          rotate_left
          · simp only [Act.put, List.setIfInBounds_toArray, List.set_cons_zero, List.set_cons_succ, i64_w, i32_w]
            rfl
          refine pure_ (i := 1) (N := some 27) (v := ?_) (a' := ?_) #[true, true, false, false, false, false, false, false, false, false] rfl rfl (any_of HT_.out (by kernel_rfl)) (fun _ _ _ h => h) (Or.inl ⟨by rfl, ?_⟩) ?_ ?_
          rotate_left
          · intro w'
            go_simp
            with_reducible rfl
          rotate_left
          · simp only [Act.put, List.setIfInBounds_toArray, List.set_cons_zero, List.set_cons_succ, i64_w, i32_w]
            rfl
          refine pure_ (i := 2) (N := some 28) (v := ?_) (a' := ?_) #[true, true, true, false, false, false, false, false, false, false] rfl rfl (any_of HT_.out (by kernel_rfl)) (fun _ _ _ h => h) (Or.inl ⟨by rfl, ?_⟩) ?_ ?_
          rotate_left
          · intro w'
            go_simp
            with_reducible rfl
          rotate_left
          · simp only [Act.put, List.setIfInBounds_toArray, List.set_cons_zero, List.set_cons_succ, i64_w, i32_w]
            rfl
          refine pure_ (i := 4) (N := some 30) (v := ?_) (a' := ?_) #[true, true, true, false, true, false, false, false, false, false] rfl rfl (any_of HT_.out (by kernel_rfl)) (fun _ _ _ h => h) (Or.inl ⟨by rfl, ?_⟩) ?_ ?_
          rotate_left
          · intro w'
            go_simp
            with_reducible rfl
          rotate_left
          · simp only [Act.put, List.setIfInBounds_toArray, List.set_cons_zero, List.set_cons_succ, i64_w, i32_w]
            rfl
          refine take_ (i := 3) (N := some 29) (v := ?_) (a' := ?_) #[true, true, true, true, true, false, false, false, false, false] rfl rfl (take_ofW HT_.out HW_.out (by kernel_rfl)) (fun _ _ _ h => h) (Or.inl ⟨by rfl, ?_⟩) hHeld ?_ ?_
          rotate_left
          · intro w' s0
            go_simp
            with_reducible rfl
          rotate_left
          · simp only [Act.put, List.setIfInBounds_toArray, List.set_cons_zero, List.set_cons_succ, i64_w, i32_w]
            rfl
          refine one_ (i := 5) (N := some 31) #[true, true, true, true, true, true, false, false, false, false] rfl rfl (one_of HT_.out (by kernel_rfl)) (by decide) (fun K hK => ?_)
          refine goes_ Try.func16 (by kernel_rfl) rfl #[.int .i64 a2, .int .i64 1099511627776] (by rfl) rfl rfl (by (try simp only [List.map_toArray, List.map_cons, List.map_nil]); first | done | rfl | (simp only [List.length_drop, List.length_take]; rfl)) ?_
          with_reducible refine (tourmake_Below.calls a2 1099511627776 t137 _ A12.out).mono ?_
          rintro e w' ⟨rfl, ⟨nd, rfl⟩⟩
          refine ⟨_, rfl, ?_⟩
          have p13 : 0 ≤ (t135 : Int) := of_decide_eq_true (by first | (with_reducible assumption) | assumption)
          have q13 : (t135 : Int) < ((t132.length : Int) : Int) := of_decide_eq_true (by first | (with_reducible assumption) | assumption)
          obtain ⟨go13, co13, eo13, gb13, gl13, cl13, HG13⟩ := Kd.R_form HO134.out (by omega)
          (first | cases eo13 | (injection eo13 with ea_ en_ ec_; (first | subst ea_ | (injection ea_ with ea_; subst ea_)); subst ec_; clear en_))
          have GB13 := Aside0.mk gb13
          have GG13 := Aside0.mk HG13
          clear gb13 gl13 HG13
          (first | simp only [add_plain] at hx136_0 | skip)
          obtain ⟨hx13_0, hf13_0⟩ := Kd.R_celln 0 HO134.out (t135 : Int) p13 q13
          replace p13 := eq_true p13
          replace q13 := eq_true q13
          have HP22 := Kd.R_putn HO134.out (t135 : Int) (Go.bits .xor .i64 (rd t132 t135) (wrap64 (1 + t137)))
          rw [← Ny138.out] at HP22
          have HQ22 := Aside0.mk HP22
          clear HP22
          refine hK.out _ _ (hHeld) (fun hHeld => ?_)
          clear hK K
          refine norm_ (a' := ?_) ?_ ?_
          rotate_left
          · show Act.put _ (some 31) _ = _
            simp only [Act.put, List.setIfInBounds_toArray, List.set_cons_zero, List.set_cons_succ, i64_w, i32_w]
            rfl
          refine pure_ (i := 6) (N := some 32) (v := ?_) (a' := ?_) #[true, true, true, true, true, true, true, false, false, false] rfl rfl (any_of HT_.out (by kernel_rfl)) (fun _ _ _ h => h) (Or.inl ⟨by rfl, ?_⟩) ?_ ?_
          rotate_left
          · intro w'
            go_simp
            with_reducible rfl
          rotate_left
          · simp only [Act.put, List.setIfInBounds_toArray, List.set_cons_zero, List.set_cons_succ, i64_w, i32_w]
            rfl
          refine pure_ (i := 7) (N := some 33) (v := ?_) (a' := ?_) #[true, true, true, true, true, true, true, true, false, false] rfl rfl (any_of HT_.out (by kernel_rfl)) (fun _ _ _ h => h) (Or.inl ⟨by rfl, ?_⟩) ?_ ?_
          rotate_left
          · intro w'
            go_simp
            with_reducible rfl
          rotate_left
          · simp only [Act.put, List.setIfInBounds_toArray, List.set_cons_zero, List.set_cons_succ, i64_w, i32_w]
            rfl
          refine pure_ (i := 8) (N := some 34) (v := ?_) (a' := ?_) #[true, true, true, true, true, true, true, true, true, false] rfl rfl (any_of HT_.out (by kernel_rfl)) (fun _ _ _ h => h) (Or.inl ⟨by rfl, ?_⟩) ?_ ?_
          rotate_left
          · intro w'
            go_simp
            with_reducible rfl
          rotate_left
          · simp only [Act.put, List.setIfInBounds_toArray, List.set_cons_zero, List.set_cons_succ, i64_w, i32_w]
            rfl
          refine last_ (i := 9) (N := none) #[true, true, true, true, true, true, true, true, true, true] rfl rfl (one_of HT_.out (by kernel_rfl)) (by decide) (fun K hK => ?_)
          refine skip_ (w1 := ?_) (by rfl) rfl ?_ ?_
          rotate_left
          · go_simp
            rfl
          refine hK.out _ _ ?_
          clear hK K
          refine done_ (done_of HT_.out (by kernel_rfl)) ?_
          have n0_ : Aside0 (Kd.R (Kd.int .i64) 3 (w20.setCell ⟨go13, (t135 : Int).toNat, none⟩ (.int .i64 (Go.bits .xor .i64 (rd t132 t135) (wrap64 (1 + t137))))) w.heap.size (fun k_ => some k_ ≠ (.slice (some ⟨go13, 0, none⟩) t132.length co21 : Value).ownBlock) (.slice Ao18 y129.length co18) y129) := ⟨by (with_reducible repeat (first | apply Kd.R_alloc | apply Kd.R_drewN | apply Kd.R_drew)); exact Kd.R_mono (Kd.R_far (p := ⟨go13, (t135 : Int).toNat, none⟩) (Kd.R_mono HO131.out (fun k_ hk => (⟨hk, fun e_ => hk.2 (by rw [e_]; rfl)⟩ : _ ∧ k_ ≠ go13))) (fun _ hk => hk.2) (.int .i64 (Go.bits .xor .i64 (rd t132 t135) (wrap64 (1 + t137))))) (fun _ hk => hk.1.2)⟩
          have n1_ : Aside0 (Kd.R (Kd.int .i64) 3 (w20.setCell ⟨go13, (t135 : Int).toNat, none⟩ (.int .i64 (Go.bits .xor .i64 (rd t132 t135) (wrap64 (1 + t137))))) w.heap.size (fun k_ => some k_ ≠ (.slice Ao18 y129.length co18 : Value).ownBlock) (.slice (some ⟨go13, 0, none⟩) t132.length co21) y138) := ⟨by (with_reducible repeat (first | apply Kd.R_alloc | apply Kd.R_drewN | apply Kd.R_drew)); exact Kd.R_mono HQ22.out (fun _ hk => hk.2)⟩
          have n2_ : Aside0 (Below w.heap.size w (w20.setCell ⟨go13, (t135 : Int).toNat, none⟩ (.int .i64 (Go.bits .xor .i64 (rd t132 t135) (wrap64 (1 + t137)))))) := ⟨by repeat (first | (with_reducible first | exact HB.out | apply below_alloc | apply pw_below_drewN | apply below_drew1 | refine below_set ?_ GB13.out) | exact HB.out)⟩
          (try clear HO131)
          (try clear HO134)
          (try clear HB)
          rw [show ((World.drewN w20 nd).setCell ⟨go13, (t135 : Int).toNat, none⟩ (.int .i64 (Go.bits .xor .i64 (rd t132 t135) (wrap64 (1 + t137))))) = World.drewN (w20.setCell ⟨go13, (t135 : Int).toNat, none⟩ (.int .i64 (Go.bits .xor .i64 (rd t132 t135) (wrap64 (1 + t137))))) nd from rfl]
          generalize (w20.setCell ⟨go13, (t135 : Int).toNat, none⟩ (.int .i64 (Go.bits .xor .i64 (rd t132 t135) (wrap64 (1 + t137))))) = w23 at n0_ n1_ n2_ ⊢
          have HO131 := n0_
          have HO134 := n1_
          have HB := n2_
          clear n0_ n1_ n2_
          have hmm := @Go.RowKit.run_makeMap Try.prog
          go_wp2_with (first | ((with_reducible refine gate_callee (f := 17) rfl ?_); refine goesL_ (some 36) rfl rfl Try.func17 (by kernel_rfl) rfl #[.slice Ao18 y129.length co18] rfl (by (try simp only [List.map_toArray, List.map_cons, List.map_nil]); first | done | rfl | (simp only [List.length_drop, List.length_take]; rfl)) ?_; (with_reducible refine (rnd_Of.calls k _ _ y129 t139 t140 _ ?side1 ?side2 A14.out).mono ?_); (case side1 => repeat (first | exact (Kd.R_reads' HO131.out).2.2 | (with_reducible refine Kd.C_alloc ?_ _) | (with_reducible refine Kd.C_drewN ?_ _) | (with_reducible refine Kd.C_drew ?_))); (case side2 => exact (Kd.R_reads' HO131.out).2.1); rintro e w24 ⟨rfl, hb⟩; refine ⟨_, rfl, ?_⟩; have n0_ := Aside0.mk (Kd.R_below (by (with_reducible repeat (first | apply Kd.R_alloc | apply Kd.R_drewN | apply Kd.R_drew)); exact HO131.out) hb); have n1_ := Aside0.mk (Kd.R_below (by (with_reducible repeat (first | apply Kd.R_alloc | apply Kd.R_drewN | apply Kd.R_drew)); exact HO134.out) hb); have n2_ := Aside0.mk (below_step (by repeat (first | (with_reducible first | exact HB.out | apply below_alloc | apply pw_below_drewN | apply below_drew1) | exact HB.out)) hb); clear HO131; clear HO134; clear HB; have HO131 := n0_; have HO134 := n1_; have HB := n2_; clear n0_ n1_ n2_; (try clear hb); (try clear hb2); (try clear hk); (try clear hi)) | ((with_reducible refine gate_dst (N := 8) rfl ?_); refine box_event ?hg (N := 8) ?hd (cs := #[.int .u64 0, .int .u64 0]) (t := 25) ?hr ?_; (case hd => rfl); (case hg => rfl); (case hr => first | (go_simp; done) | (go_simp; rfl)); intro gb141 hg w25 hbox hb; have n0_ := Aside0.mk (Kd.R_below (by (with_reducible repeat (first | apply Kd.R_alloc | apply Kd.R_drewN | apply Kd.R_drew)); exact HO131.out) hb); have n1_ := Aside0.mk (Kd.R_below (by (with_reducible repeat (first | apply Kd.R_alloc | apply Kd.R_drewN | apply Kd.R_drew)); exact HO134.out) hb); have n2_ := Aside0.mk (below_step (by repeat (first | (with_reducible first | exact HB.out | apply below_alloc | apply pw_below_drewN | apply below_drew1) | exact HB.out)) hb); have n3_ := Aside0.mk (hbox); have n4_ := Aside0.mk ((by rw [hg]; exact (below_size (by repeat (first | (with_reducible first | exact HB.out | apply below_alloc | apply pw_below_drewN | apply below_drew1) | exact HB.out))) : w.heap.size ≤ gb141)); have n5_ := Aside0.mk ((by rw [hg]; exact (below_size (by repeat (first | (with_reducible first | exact HB.out | apply below_alloc | apply pw_below_drewN | apply below_drew1) | exact HB.out))) : w.heap.size ≤ gb141)); clear HO131; clear HO134; clear HB; have HO131 := n0_; have HO134 := n1_; have HB := n2_; have BK141 := n3_; have GW141 := n4_; have GE141 := n5_; clear n0_ n1_ n2_ n3_ n4_ n5_; clear hb hbox hg; have hcz26_0 : w25.cell? ⟨gb141, 0, none⟩ = some (.int .u64 0) := (blk_cell BK141.out 0).trans rfl; have hcz26_1 : w25.cell? ⟨gb141, 1, none⟩ = some (.int .u64 0) := (blk_cell BK141.out 1).trans rfl; have hfz26_0 := blk_frozen BK141.out 0; have hfz26_1 := blk_frozen BK141.out 1; have BKM_ : (((w25.setCell ⟨gb141, 0, none⟩ (.int .u64 t139)).setCell ⟨gb141, 1, none⟩ (.int .u64 t140)).alloc (Obj.map #[] 0)).heap[gb141]? = some (.cells #[.int .u64 t139, .int .u64 t140] 25 (0, 0)) := (by refine blk_alloc ?_ _; refine blk_put (cs := #[.int .u64 t139, .int .u64 0]) ?_ 1 _ rfl; refine blk_put (cs := #[.int .u64 0, .int .u64 0]) ?_ 0 _ rfl; exact BK141.out); have hcm0 : (((w25.setCell ⟨gb141, 0, none⟩ (.int .u64 t139)).setCell ⟨gb141, 1, none⟩ (.int .u64 t140)).alloc (Obj.map #[] 0)).cell? ⟨gb141, 0, none⟩ = some (.int .u64 t139) := (blk_cell BKM_ 0).trans rfl; have hcm1 : (((w25.setCell ⟨gb141, 0, none⟩ (.int .u64 t139)).setCell ⟨gb141, 1, none⟩ (.int .u64 t140)).alloc (Obj.map #[] 0)).cell? ⟨gb141, 1, none⟩ = some (.int .u64 t140) := (blk_cell BKM_ 1).trans rfl; clear BKM_) | ((with_reducible refine gate_dst (N := 10) rfl ?_); refine box_event ?hg (N := 10) ?hd (cs := #[.int .u64 0, .int .u64 0]) (t := 25) ?hr ?_; (case hd => rfl); (case hg => rfl); (case hr => first | (go_simp; done) | (go_simp; rfl)); intro gb142 hg w27 hbox hb; have n0_ := Aside0.mk (Kd.R_below (by (with_reducible repeat (first | apply Kd.R_alloc | apply Kd.R_drewN | apply Kd.R_drew)); exact (Kd.R_mono (Kd.R_far (p := ⟨gb141, 1, none⟩) (Kd.R_far (p := ⟨gb141, 0, none⟩) (Kd.R_types HO131.out BK141.out (by decide)) (fun _ hk => hk.2) (.int .u64 t139)) (fun _ hk => hk.2) (.int .u64 t140)) (fun _ h_ => h_.1))) hb); have n1_ := Aside0.mk (Kd.R_below (by (with_reducible repeat (first | apply Kd.R_alloc | apply Kd.R_drewN | apply Kd.R_drew)); exact (Kd.R_mono (Kd.R_far (p := ⟨gb141, 1, none⟩) (Kd.R_far (p := ⟨gb141, 0, none⟩) (Kd.R_types HO134.out BK141.out (by decide)) (fun _ hk => hk.2) (.int .u64 t139)) (fun _ hk => hk.2) (.int .u64 t140)) (fun _ h_ => h_.1))) hb); have n2_ := Aside0.mk (blk_below (g := gb141) (o := .cells #[.int .u64 t139, .int .u64 t140] 25 (0, 0)) (by (with_reducible repeat (first | refine blk_drewN ?_ _ | refine blk_drew ?_ | refine blk_alloc ?_ _)); refine blk_put (cs := #[.int .u64 t139, .int .u64 0]) ?_ 1 _ rfl; (with_reducible repeat (first | refine blk_drewN ?_ _ | refine blk_drew ?_ | refine blk_alloc ?_ _)); refine blk_put (cs := #[.int .u64 0, .int .u64 0]) ?_ 0 _ rfl; (with_reducible repeat (first | refine blk_drewN ?_ _ | refine blk_drew ?_ | refine blk_alloc ?_ _)); exact BK141.out) hb); have n3_ := Aside0.mk (below_step (by repeat (first | (with_reducible first | exact HB.out | apply below_alloc | apply pw_below_drewN | apply below_drew1 | refine below_set ?_ GE141.out) | exact HB.out)) hb); have n4_ := Aside0.mk (hbox); have n5_ := Aside0.mk ((by rw [hg]; exact (below_size (by repeat (first | (with_reducible first | exact HB.out | apply below_alloc | apply pw_below_drewN | apply below_drew1 | refine below_set ?_ GE141.out) | exact HB.out))) : w.heap.size ≤ gb142)); have n6_ := Aside0.mk ((by rw [hg]; exact (below_size (by repeat (first | (with_reducible first | exact HB.out | apply below_alloc | apply pw_below_drewN | apply below_drew1 | refine below_set ?_ GE141.out) | exact HB.out))) : w.heap.size ≤ gb142)); have n7_ := Aside0.mk ((by rw [hg]; exact Nat.ne_of_lt (blk_lt (g := gb141) (o := .cells #[.int .u64 t139, .int .u64 t140] 25 (0, 0)) (by (with_reducible repeat (first | refine blk_drewN ?_ _ | refine blk_drew ?_ | refine blk_alloc ?_ _)); refine blk_put (cs := #[.int .u64 t139, .int .u64 0]) ?_ 1 _ rfl; (with_reducible repeat (first | refine blk_drewN ?_ _ | refine blk_drew ?_ | refine blk_alloc ?_ _)); refine blk_put (cs := #[.int .u64 0, .int .u64 0]) ?_ 0 _ rfl; (with_reducible repeat (first | refine blk_drewN ?_ _ | refine blk_drew ?_ | refine blk_alloc ?_ _)); exact BK141.out)) : gb141 ≠ gb142)); have n8_ := Aside0.mk ((by rw [hg]; exact Nat.ne_of_gt (blk_lt (g := gb141) (o := .cells #[.int .u64 t139, .int .u64 t140] 25 (0, 0)) (by (with_reducible repeat (first | refine blk_drewN ?_ _ | refine blk_drew ?_ | refine blk_alloc ?_ _)); refine blk_put (cs := #[.int .u64 t139, .int .u64 0]) ?_ 1 _ rfl; (with_reducible repeat (first | refine blk_drewN ?_ _ | refine blk_drew ?_ | refine blk_alloc ?_ _)); refine blk_put (cs := #[.int .u64 0, .int .u64 0]) ?_ 0 _ rfl; (with_reducible repeat (first | refine blk_drewN ?_ _ | refine blk_drew ?_ | refine blk_alloc ?_ _)); exact BK141.out)) : gb142 ≠ gb141)); have nM_ := Aside0.mk (ra_below (Go.World.ownsMap_made _ Try.prog 23 (plainElem (H := Unit) Try.prog 4)) hb); have nN_ := Aside0.mk ((by rw [hg]; exact Nat.ne_of_lt (Go.World.ownsMap_made _ Try.prog 23 (plainElem (H := Unit) Try.prog 4)).lt) : _ ≠ gb142); have nP_ := Aside0.mk (below_size (by repeat (first | (with_reducible first | exact HB.out | apply below_alloc | apply pw_below_drewN | apply below_drew1 | refine below_set ?_ GE141.out) | exact HB.out)) : w.heap.size ≤ _); clear HO131; clear HO134; clear BK141; clear HB; have HO131 := n0_; have HO134 := n1_; have BK141 := n2_; have HB := n3_; have BK142 := n4_; have GW142 := n5_; have GE142 := n6_; have NB141_142 := n7_; have NB142_141 := n8_; clear n0_ n1_ n2_ n3_ n4_ n5_ n6_ n7_ n8_; clear hb hbox hg; have hnb28 := NB142_141.out; have hnc28 := NB141_142.out; have hcz29_0 : w27.cell? ⟨gb142, 0, none⟩ = some (.int .u64 0) := (blk_cell BK142.out 0).trans rfl; have hcz29_1 : w27.cell? ⟨gb142, 1, none⟩ = some (.int .u64 0) := (blk_cell BK142.out 1).trans rfl; have hfz29_0 := blk_frozen BK142.out 0; have hfz29_1 := blk_frozen BK142.out 1))
          obtain ⟨gm, hgm⟩ : ∃ gm, gm = w25.heap.size := ⟨_, rfl⟩
          have hgs : ((w25.setCell ⟨gb141, 0, none⟩ (.int .u64 t139)).setCell ⟨gb141, 1, none⟩ (.int .u64 t140)).heap.size = gm := by rw [hgm]; simp
          (first | rw [hgs] at nM_ | rw [← hgm] at nM_)
          (first | rw [hgs] at nN_ | rw [← hgm] at nN_)
          (first | rw [hgs] at nP_ | rw [← hgm] at nP_)
          rw [← hgm]
          clear hgm hgs
          have HM := nM_
          have GM142 := nN_
          have GEM := nP_
          clear nM_ nN_ nP_
          go_loopg [10, 11] k (fun kq v10 v11 w' => ∃ (gs nn : Nat) (s_ g_ : Int), v10 = .pointer (some ⟨gs, 0, none⟩) ∧ v11 = .int .i64 (nn : Int) ∧ nn ≤ 50 ∧ (s_, g_) = raSt t139 t140 nn ∧ Aside0 (tourkeep1_RndApart.l0 kq y129 t135 y138 (nn : Int) t139 t140 s_ g_ = some r) ∧ Aside0 (kq ≤ k) ∧ Aside0 (Kd.R (Kd.int .i64) 3 w' w.heap.size (fun k_ => some k_ ≠ ((.slice (some ⟨go13, 0, none⟩) t132.length co21) : Value).ownBlock) (.slice Ao18 y129.length co18) y129) ∧ Aside0 (Kd.R (Kd.int .i64) 3 w' w.heap.size (fun k_ => some k_ ≠ ((.slice Ao18 y129.length co18) : Value).ownBlock) (.slice (some ⟨go13, 0, none⟩) t132.length co21) y138) ∧ Aside0 (w'.heap[gb141]? = some (.cells #[.int .u64 t139, .int .u64 t140] 25 (0, 0))) ∧ Aside0 (w'.heap[gs]? = some (.cells #[.int .u64 s_, .int .u64 g_] 25 (0, 0))) ∧ Aside0 (gb141 ≠ gs ∧ w.heap.size ≤ gs ∧ gm ≠ gs) ∧ Aside0 (w'.ownsMap Try.prog 23 (plainElem (H := Unit) Try.prog 4) gm nn (raSet t139 t140 nn)) ∧ Aside0 (Below w.heap.size w w'))
          case atStart => exact ⟨gb142, 0, t139, t140, (by first | rfl | (simp; done)), (by first | rfl | (simp; done)), Nat.zero_le _, rfl, ⟨by have h_ := H'.out; simpa using h_⟩, ⟨Nat.le_refl _⟩, ⟨by (with_reducible repeat (first | apply Kd.R_alloc | apply Kd.R_drewN | apply Kd.R_drew)); exact Kd.R_mono (Kd.R_far (p := ⟨gb142, 1, none⟩) (Kd.R_far (p := ⟨gb142, 0, none⟩) (Kd.R_types HO131.out BK142.out (by decide)) (fun _ hk => hk.2) (.int .u64 t139)) (fun _ hk => hk.2) (.int .u64 t140)) (fun _ hk => hk.1)⟩, ⟨by (with_reducible repeat (first | apply Kd.R_alloc | apply Kd.R_drewN | apply Kd.R_drew)); exact Kd.R_mono (Kd.R_far (p := ⟨gb142, 1, none⟩) (Kd.R_far (p := ⟨gb142, 0, none⟩) (Kd.R_types HO134.out BK142.out (by decide)) (fun _ hk => hk.2) (.int .u64 t139)) (fun _ hk => hk.2) (.int .u64 t140)) (fun _ hk => hk.1)⟩, ⟨by (with_reducible repeat (first | refine blk_drewN ?_ _ | refine blk_drew ?_ | refine blk_alloc ?_ _)); refine blk_far ?_ NB141_142.out _; (with_reducible repeat (first | refine blk_drewN ?_ _ | refine blk_drew ?_ | refine blk_alloc ?_ _)); refine blk_far ?_ NB141_142.out _; (with_reducible repeat (first | refine blk_drewN ?_ _ | refine blk_drew ?_ | refine blk_alloc ?_ _)); exact BK141.out⟩, ⟨by (with_reducible repeat (first | refine blk_drewN ?_ _ | refine blk_drew ?_ | refine blk_alloc ?_ _)); refine blk_put (cs := #[.int .u64 t139, .int .u64 0]) ?_ 1 _ rfl; (with_reducible repeat (first | refine blk_drewN ?_ _ | refine blk_drew ?_ | refine blk_alloc ?_ _)); refine blk_put (cs := #[.int .u64 0, .int .u64 0]) ?_ 0 _ rfl; (with_reducible repeat (first | refine blk_drewN ?_ _ | refine blk_drew ?_ | refine blk_alloc ?_ _)); exact BK142.out⟩, ⟨⟨NB141_142.out, GE142.out, GM142.out⟩⟩, ⟨by rw [raSet_zero]; exact (HM.out.setCell (a := ⟨gb142, 0, none⟩) GM142.out _).setCell (a := ⟨gb142, 1, none⟩) GM142.out _⟩, ⟨by repeat (first | (with_reducible first | exact HB.out | apply below_alloc | apply pw_below_drewN | apply below_drew1 | refine below_set ?_ GE141.out | refine below_set ?_ GE142.out) | exact HB.out)⟩⟩
          case round =>
            clear H'
            try clear c1
            try clear p1
            try clear q1
            try clear hx1
            try clear c2
            try clear p2
            try clear c5
            try clear p6
            try clear c7
            try clear c10
            try clear c10b0
            try clear c11
            try clear c11b0
            try clear c12
            try clear p13
            try clear q13
            try clear hx13
            try clear hf13
            try clear c16
            try clear c17
            try clear c19
            try clear c28
            try clear hcz26_0
            try clear hcz26_1
            try clear hcz29_0
            try clear hcz29_1
            try clear hfz26_0
            try clear hfz26_1
            try clear hfz29_0
            try clear hfz29_1
            try clear hx136_0
            try clear hx13_0
            try clear p13
            try clear p136
            try clear q13
            try clear q136
            clear HM GM142 NB141_142 NB142_141 GE142 GW142
            obtain ⟨gb142, nn, s_, g_, rfl, rfl, hnn, hst, HA, HK1, HO_0, HO_7, BK141, BK142, NBS, HM, HB⟩ := hrel
            have NB141_142 := Aside0.mk NBS.out.1
            have NB142_141 := Aside0.mk (Ne.symm NBS.out.1)
            have GE142 := Aside0.mk NBS.out.2.1
            have GM142 := Aside0.mk NBS.out.2.2
            have hl7_1 := (Kd.R_reads' HO_7.out).1
            rw [hl7_1] at HO_7
            (try simp only [hl7_1])
            (try simp only [hl7_1] at BK141)
            (try simp only [hl7_1] at BK142)
            (try simp only [hl7_1] at HO_0)
            cases gk with
            | zero => exact absurd HA.out (by simp [tourkeep1_RndApart.l0])
            | succ k1 =>
              have H := HA.out
              clear HA
              simp only [tourkeep1_RndApart.l0] at H
              by_cases c30 : (nn : Int) < 50
              · rw [if_pos c30] at H
                have c30b0 : decide ((nn : Int) < 50) = true := decide_eq_true c30
                clear c30
                replace H := Option.bind_eq_some_iff.mp H
                obtain ⟨⟨t143, t144, t145⟩, A310, H⟩ := H
                replace H : (tourkeep1_RndApart.l0 k1 y129 t135 y138 (wrap64 ((nn : Int) + 1)) t139 t140 t144 t145) = some r := H
                have A31 := Aside0.mk A310
                clear A310
                have H' := Aside0.mk H
                clear H
                have hnb32 := NB142_141.out
                have hnc32 := NB141_142.out
                have hcz33_0 : wr.cell? ⟨gb142, 0, none⟩ = some (.int .u64 s_) := (blk_cell BK142.out 0).trans rfl
                have hcz33_1 : wr.cell? ⟨gb142, 1, none⟩ = some (.int .u64 g_) := (blk_cell BK142.out 1).trans rfl
                have hfz33_0 := blk_frozen BK142.out 0
                have hfz33_1 := blk_frozen BK142.out 1
                have hlt5 : nn + 1 ≤ 50 := by have := of_decide_eq_true c30b0; omega
                have hwf := ra_wf A31.out
                have hkn : raKey t139 t140 nn = t143 := by unfold raKey; rw [← hst]; simp only [A31.out]
                have hsn : raSt t139 t140 (nn + 1) = (t144, t145) := by rw [raSt, ← hst]; simp only [A31.out]
                go_wp2_with (first | ((with_reducible refine gate_callee (f := 15) rfl ?_); refine goesL_ (some 45) rfl rfl Try.func15 (by kernel_rfl) rfl #[.agg #[.int .u64 s_, .int .u64 g_]] rfl (by (try simp only [List.map_toArray, List.map_cons, List.map_nil]); first | done | rfl) ?_; (with_reducible refine (rnd_Next.calls s_ g_ t143 t144 t145 _ A31.out).mono ?_); rintro e w34 ⟨rfl, hb⟩; refine ⟨_, rfl, ?_⟩; have n0_ := Aside0.mk (Kd.R_below HO_0.out hb); have n1_ := Aside0.mk (Kd.R_below HO_7.out hb); have n2_ := Aside0.mk (blk_below BK141.out hb); have n3_ := Aside0.mk (blk_below BK142.out hb); have n4_ := Aside0.mk (below_step HB.out hb); have nM_ := Aside0.mk (ra_below HM.out hb); clear HO_0 HO_7 BK141 BK142 HB HM; have HO_0 := n0_; have HO_7 := n1_; have BK141 := n2_; have BK142 := n3_; have HB := n4_; have HM := nM_; clear n0_ n1_ n2_ n3_ n4_ nM_; clear hb; have hcz35_0 : w34.cell? ⟨gb142, 0, none⟩ = some (.int .u64 s_) := (blk_cell BK142.out 0).trans rfl; have hcz35_1 : w34.cell? ⟨gb142, 1, none⟩ = some (.int .u64 g_) := (blk_cell BK142.out 1).trans rfl; have hfz35_0 := blk_frozen BK142.out 0; have hfz35_1 := blk_frozen BK142.out 1) | (at_mapUpdate; refine Go.wpList_mapUpdate_own _ rfl _ _ _ 39 rfl 23 4 raLaw Try.underlying39 (plainElem (H := Unit) Try.prog 4) gm nn (raSet t139 t140 nn) rfl ((HM.out.setCell (a := ⟨gb142, 0, none⟩) GM142.out (.int .u64 t144)).setCell (a := ⟨gb142, 1, none⟩) GM142.out (.int .u64 t145)) (by unfold maxLen; omega) _ _ (.int .u64 t143) rfl rfl (raKey_ok t143 hwf) _ [] (plainElem_bool Try.underlying4 true) ?_; intro w35 hown1 hgrow1; have hob := ra_obj ((HM.out.setCell (a := ⟨gb142, 0, none⟩) GM142.out (.int .u64 t144)).setCell (a := ⟨gb142, 1, none⟩) GM142.out (.int .u64 t145)); have n0_ := Aside0.mk (ra_row (Kd.R_mono (Kd.R_far (p := ⟨gb142, 1, none⟩) (Kd.R_far (p := ⟨gb142, 0, none⟩) (Kd.R_types HO_0.out BK142.out (by decide)) (fun _ hk => hk.2) (.int .u64 t144)) (fun _ hk => hk.2) (.int .u64 t145)) (fun _ h_ => h_.1)) hob hgrow1); have n1_ := Aside0.mk (ra_row (Kd.R_mono (Kd.R_far (p := ⟨gb142, 1, none⟩) (Kd.R_far (p := ⟨gb142, 0, none⟩) (Kd.R_types HO_7.out BK142.out (by decide)) (fun _ hk => hk.2) (.int .u64 t144)) (fun _ hk => hk.2) (.int .u64 t145)) (fun _ h_ => h_.1)) hob hgrow1); have n2_ := Aside0.mk (ra_blk (w := ((w34.setCell ⟨gb142, 0, none⟩ (.int .u64 t144)).setCell ⟨gb142, 1, none⟩ (.int .u64 t145))) (g := gb141) (t := 25) (fr := (0, 0)) (cs := #[.int .u64 t139, .int .u64 t140]) (by refine blk_far ?_ NB141_142.out _; refine blk_far ?_ NB141_142.out _; exact BK141.out) hob hgrow1); have n3_ := Aside0.mk (ra_blk (w := ((w34.setCell ⟨gb142, 0, none⟩ (.int .u64 t144)).setCell ⟨gb142, 1, none⟩ (.int .u64 t145))) (g := gb142) (t := 25) (fr := (0, 0)) (cs := #[.int .u64 t144, .int .u64 t145]) (by refine blk_put (cs := #[.int .u64 t144, .int .u64 g_]) ?_ 1 _ rfl; refine blk_put (cs := #[.int .u64 s_, .int .u64 g_]) ?_ 0 _ rfl; exact BK142.out) hob hgrow1); have hbW : Below w.heap.size w ((w34.setCell ⟨gb142, 0, none⟩ (.int .u64 t144)).setCell ⟨gb142, 1, none⟩ (.int .u64 t145)) := (by repeat (first | (with_reducible first | exact HB.out | apply below_alloc | apply pw_below_drewN | apply below_drew1 | refine below_set ?_ GE142.out) | exact HB.out)); have n4_ := Aside0.mk (hbW.grown hgrow1 hbW.size (by intro k_ hk_; injection hk_ with hk_; rw [← hk_]; exact GEM.out)); have nM_ := Aside0.mk hown1; clear HO_0 HO_7 BK141 BK142 HB HM hob hbW hown1 hgrow1; have HO_0 := n0_; have HO_7 := n1_; have BK141 := n2_; have BK142 := n3_; have HB := n4_; have HM := nM_; clear n0_ n1_ n2_ n3_ n4_ nM_; have hcz36_0 : w35.cell? ⟨gb142, 0, none⟩ = some (.int .u64 t144) := (blk_cell BK142.out 0).trans rfl; have hcz36_1 : w35.cell? ⟨gb142, 1, none⟩ = some (.int .u64 t145) := (blk_cell BK142.out 1).trans rfl) | ((with_reducible refine gate_dst (N := 10) rfl ?_); refine box_event ?hg (N := 10) ?hd (cs := #[.int .u64 0, .int .u64 0]) (t := 25) ?hr ?_; (case hd => rfl); (case hg => rfl); (case hr => first | (go_simp; done) | (go_simp; rfl)); intro gb146 hg w36 hbox hb; have n0_ := Aside0.mk (Kd.R_below HO_0.out hb); have n1_ := Aside0.mk (Kd.R_below HO_7.out hb); have n2_ := Aside0.mk (blk_below BK141.out hb); have n4_ := Aside0.mk (below_step HB.out hb); have n5_ := Aside0.mk (hbox); have n6_ := Aside0.mk ((by rw [hg]; exact (below_size HB.out)) : w.heap.size ≤ gb146); have n7_ := Aside0.mk ((by rw [hg]; exact Nat.ne_of_lt (blk_lt BK141.out)) : gb141 ≠ gb146); have n8_ := Aside0.mk ((by rw [hg]; exact Nat.ne_of_lt HM.out.lt) : gm ≠ gb146); have nM_ := Aside0.mk (ra_below HM.out hb); clear HO_0 HO_7 BK141 BK142 HB HM; have HO_0 := n0_; have HO_7 := n1_; have BK141 := n2_; have HB := n4_; have BK146 := n5_; have GE146 := n6_; have NB141_146 := n7_; have GM146 := n8_; have HM := nM_; clear n0_ n1_ n2_ n4_ n5_ n6_ n7_ n8_ nM_; clear hb hbox hg; have hcz39_0 : w36.cell? ⟨gb146, 0, none⟩ = some (.int .u64 0) := (blk_cell BK146.out 0).trans rfl; have hcz39_1 : w36.cell? ⟨gb146, 1, none⟩ = some (.int .u64 0) := (blk_cell BK146.out 1).trans rfl; have hfz39_0 := blk_frozen BK146.out 0; have hfz39_1 := blk_frozen BK146.out 1))
                (try simp only [← hl7_1])
                go_roundg k1
                case measure => have := HK1.out; omega
                case rel => exact ⟨gb146, nn + 1, t144, t145, (by first | rfl | (simp; done)), (by first | rfl | exact congrArg (Value.int .i64) (ra_wrap nn hnn)), hlt5, hsn.symm, ⟨by have h_ := H'.out; rwa [ra_wrap nn hnn] at h_⟩, ⟨by have := HK1.out; omega⟩, ⟨by (try simp only [hl7_1]); exact (Kd.R_mono (Kd.R_far (p := ⟨gb146, 1, none⟩) (Kd.R_far (p := ⟨gb146, 0, none⟩) (Kd.R_types HO_0.out BK146.out (by decide)) (fun _ hk => hk.2) (.int .u64 t144)) (fun _ hk => hk.2) (.int .u64 t145)) (fun _ h_ => h_.1))⟩, ⟨by (try simp only [hl7_1]); exact (Kd.R_mono (Kd.R_far (p := ⟨gb146, 1, none⟩) (Kd.R_far (p := ⟨gb146, 0, none⟩) (Kd.R_types HO_7.out BK146.out (by decide)) (fun _ hk => hk.2) (.int .u64 t144)) (fun _ hk => hk.2) (.int .u64 t145)) (fun _ h_ => h_.1))⟩, ⟨by refine blk_far ?_ NB141_146.out _; refine blk_far ?_ NB141_146.out _; exact BK141.out⟩, ⟨by refine blk_put (cs := #[.int .u64 t144, .int .u64 0]) ?_ 1 _ rfl; refine blk_put (cs := #[.int .u64 0, .int .u64 0]) ?_ 0 _ rfl; exact BK146.out⟩, ⟨⟨NB141_146.out, GE146.out, GM146.out⟩⟩, ⟨by rw [raSet_succ, hkn]; exact (HM.out.setCell (a := ⟨gb146, 0, none⟩) GM146.out _).setCell (a := ⟨gb146, 1, none⟩) GM146.out _⟩, ⟨by repeat (first | (with_reducible first | exact HB.out | apply below_alloc | apply pw_below_drewN | apply below_drew1 | refine below_set ?_ GE146.out) | exact HB.out)⟩⟩
              · rw [if_neg c30] at H
                have c30b0 : decide ((nn : Int) < 50) = false := decide_eq_false c30
                obtain rfl : nn = 50 := by omega
                clear c30
                by_cases c40 : (raCount t139 t140) = 50
                · rw [if_pos c40] at H
                  have c40b0 : ((raCount t139 t140) == 50) = true := beq_iff_eq.mpr c40
                  have c40b1 : ((raCount t139 t140) != 50) = false := bne_eq_false_iff_eq.mpr c40
                  clear c40
                  by_cases c41 : 0 ≤ t135
                  · rw [if_pos c41] at H
                    have c41b0 : decide (0 ≤ t135) = true := decide_eq_true c41
                    clear c41
                    by_cases c42 : t135 < (y129.length : Int)
                    · rw [if_pos c42] at H
                      have c42b0 : decide (t135 < (y129.length : Int)) = true := decide_eq_true c42
                      clear c42
                      have c42b0x := c42b0
                      (try simp only [hl7_1] at c42b0x)
                      replace H := Option.bind_eq_some_iff.mp H
                      obtain ⟨t148, A430, H⟩ := H
                      replace H : (if t135 < (y138.length : Int) then ((rnd_Mix.f (IntKind.u64.wrap (rd y138 t135))).bind fun t150 => (if t148 = t150 then (none) else ((rnd_Of.f k1 y138).bind fun bt151 => (if bt151.1 = t139 then (none) else (some ((Int.tmod t140 2) == 1)))))) else (none)) = some r := H
                      have A43 := Aside0.mk A430
                      clear A430
                      by_cases c44 : t135 < (y138.length : Int)
                      · rw [if_pos c44] at H
                        have c44b0 : decide (t135 < (y138.length : Int)) = true := decide_eq_true c44
                        clear c44
                        have c44b0x := c44b0
                        (try simp only [hl7_1] at c44b0x)
                        replace H := Option.bind_eq_some_iff.mp H
                        obtain ⟨t150, A450, H⟩ := H
                        replace H : (if t148 = t150 then (none) else ((rnd_Of.f k1 y138).bind fun bt151 => (if bt151.1 = t139 then (none) else (some ((Int.tmod t140 2) == 1))))) = some r := H
                        have A45 := Aside0.mk A450
                        clear A450
                        by_cases c46 : t148 = t150
                        · rw [if_pos c46] at H
                          have c46b0 : (t148 == t150) = true := beq_iff_eq.mpr c46
                          have c46b1 : (t148 != t150) = false := bne_eq_false_iff_eq.mpr c46
                          clear c46
                          exact absurd H (by simp)
                        · rw [if_neg c46] at H
                          have c46b0 : (t148 == t150) = false := beq_eq_false_iff_ne.mpr c46
                          have c46b1 : (t148 != t150) = true := bne_iff_ne.mpr c46
                          replace H := Option.bind_eq_some_iff.mp H
                          obtain ⟨⟨t151, t152⟩, A470, H⟩ := H
                          replace H : (if t151 = t139 then (none) else (some ((Int.tmod t140 2) == 1))) = some r := H
                          have A47 := Aside0.mk A470
                          clear A470
                          by_cases c48 : t151 = t139
                          · rw [if_pos c48] at H
                            have c48b0 : (t151 == t139) = true := beq_iff_eq.mpr c48
                            have c48b1 : (t151 != t139) = false := bne_eq_false_iff_eq.mpr c48
                            clear c48
                            exact absurd H (by simp)
                          · rw [if_neg c48] at H
                            have c48b0 : (t151 == t139) = false := beq_eq_false_iff_ne.mpr c48
                            have c48b1 : (t151 != t139) = true := bne_iff_ne.mpr c48
                            obtain rfl := Option.some.inj H
                            try go_wp2
                            have n0_ := Aside0.mk (Kd.R_drew HO_0.out)
                            have n1_ := Aside0.mk (Kd.R_drew HO_7.out)
                            have n2_ := Aside0.mk (blk_drew BK141.out)
                            have n3_ := Aside0.mk (blk_drew BK142.out)
                            have n4_ := Aside0.mk (below_drew1 HB.out)
                            clear HO_0
                            clear HO_7
                            clear BK141
                            clear BK142
                            clear HB
                            have HO_0 := n0_
                            have HO_7 := n1_
                            have BK141 := n2_
                            have BK142 := n3_
                            have HB := n4_
                            clear n0_ n1_ n2_ n3_ n4_
                            have p147 : 0 ≤ (t135 : Int) := of_decide_eq_true (by first | (with_reducible assumption) | assumption)
                            have q147 : t135 < (y129.length : Int) := of_decide_eq_true (by first | (with_reducible assumption) | assumption)
                            obtain ⟨ad147, e147, hx147_0⟩ := Kd.at_int (Kd.R_reads' HO_0.out).2.2 t135 p147 q147
                            cases e147
                            replace p147 := eq_true p147
                            replace q147 := eq_true q147
                            have p149 : 0 ≤ (t135 : Int) := of_decide_eq_true (by first | (with_reducible assumption) | assumption)
                            have q149 : t135 < (y138.length : Int) := of_decide_eq_true (by first | (with_reducible assumption) | assumption)
                            obtain ⟨ad149, e149, hx149_0⟩ := Kd.at_int (Kd.R_reads' HO_7.out).2.2 t135 p149 q149
                            obtain rfl : (⟨go13, 0, none⟩ : Addr) = ad149 := (by injection e149)
                            (first | simp only [add_plain] at hx149_0 | simp only [add_at] at hx149_0 | simp only [Addr.add, Nat.zero_add] at hx149_0 | skip)
                            replace p149 := eq_true p149
                            replace q149 := eq_true q149
                            refine start_ (n := 33) (S := fun w' => w'.cell? ⟨gb141, 0, none⟩ = some (.int .u64 t139) ∧ w'.cell? ⟨gb141, 1, none⟩ = some (.int .u64 t140) ∧ w'.cell? (ad147.add (t135).toNat) = some (.int .i64 (rd y129 t135)) ∧ w'.cell? ⟨go13, (t135).toNat, none⟩ = some (.int .i64 (rd y138 t135)) ∧ (Builtin.len_ #[39] 3 #[Value.map (some gm)]).run Try.prog w' = .ok (.int .i64 (raCount t139 t140)) w') (ds := []) #[false, false, false, false, false, false, false, false, false, false, false, false, false, false, false, false, false, false, false, false, false, false, false, false, false, false, false, false, false, false, false, false, false] (by kernel_rfl) rfl rfl ⟨(blk_cell BK141.out 0).trans rfl, (blk_cell BK141.out 1).trans rfl, hx147_0, hx149_0, (HM.out.drew).len Try.underlying39 3⟩ (fun hHeld => ?_); refine with_tabW tourkeep1_RndApart.tab17 tourkeep1_RndApart.bits17 (fun HT_ HW_ => ?_)
                            replace HM := Aside0.mk (HM.out.drew)
                            generalize wr.drew = w49 at HO_0 HO_7 BK141 BK142 HB hx147_0 hx149_0 HM hHeld ⊢
                            refine pure_ (i := 0) (N := some 51) (v := ?_) (a' := ?_) #[true, false, false, false, false, false, false, false, false, false, false, false, false, false, false, false, false, false, false, false, false, false, false, false, false, false, false, false, false, false, false, false, false] rfl rfl (any_of HT_.out (by kernel_rfl)) (fun _ _ _ h => h) (Or.inl ⟨by rfl, ?_⟩) ?_ ?_
                            rotate_left
                            · intro w'
                              go_simp
                              with_reducible rfl
                            rotate_left
                            · simp only [Act.put, List.setIfInBounds_toArray, List.set_cons_zero, List.set_cons_succ, i64_w, i32_w]
                              rfl
                            refine take_ (i := 1) (N := some 52) (v := ?_) (a' := ?_) #[true, true, false, false, false, false, false, false, false, false, false, false, false, false, false, false, false, false, false, false, false, false, false, false, false, false, false, false, false, false, false, false, false] rfl rfl (take_ofW HT_.out HW_.out (by kernel_rfl)) (fun _ _ _ h => h) (Or.inl ⟨by rfl, ?_⟩) hHeld ?_ ?_
                            rotate_left
                            · rintro w' ⟨s0, s1, s2, s3, s4⟩
                              go_simp
                              with_reducible rfl
                            rotate_left
                            · simp only [Act.put, List.setIfInBounds_toArray, List.set_cons_zero, List.set_cons_succ, i64_w, i32_w]
                              rfl
                            refine pure_ (i := 2) (N := some 53) (v := ?_) (a' := ?_) #[true, true, true, false, false, false, false, false, false, false, false, false, false, false, false, false, false, false, false, false, false, false, false, false, false, false, false, false, false, false, false, false, false] rfl rfl (any_of HT_.out (by kernel_rfl)) (fun _ _ _ h => h) (Or.inl ⟨by rfl, ?_⟩) ?_ ?_
                            rotate_left
                            · intro w'
                              go_simp
                              with_reducible rfl
                            rotate_left
                            · simp only [Act.put, List.setIfInBounds_toArray, List.set_cons_zero, List.set_cons_succ, i64_w, i32_w]
                              rfl
                            refine pure_ (i := 3) (N := some 54) (v := ?_) (a' := ?_) #[true, true, true, true, false, false, false, false, false, false, false, false, false, false, false, false, false, false, false, false, false, false, false, false, false, false, false, false, false, false, false, false, false] rfl rfl (any_of HT_.out (by kernel_rfl)) (fun _ _ _ h => h) (Or.inl ⟨by rfl, ?_⟩) ?_ ?_
                            rotate_left
                            · intro w'
                              go_simp
                              with_reducible rfl
                            rotate_left
                            · simp only [Act.put, List.setIfInBounds_toArray, List.set_cons_zero, List.set_cons_succ, i64_w, i32_w]
                              rfl
                            refine pure_ (i := 4) (N := some 55) (v := ?_) (a' := ?_) #[true, true, true, true, true, false, false, false, false, false, false, false, false, false, false, false, false, false, false, false, false, false, false, false, false, false, false, false, false, false, false, false, false] rfl rfl (any_of HT_.out (by kernel_rfl)) (fun _ _ _ h => h) (Or.inl ⟨by rfl, ?_⟩) ?_ ?_
                            rotate_left
                            · intro w'
                              go_simp
                              with_reducible rfl
                            rotate_left
                            · simp only [Act.put, List.setIfInBounds_toArray, List.set_cons_zero, List.set_cons_succ, i64_w, i32_w]
                              rfl
                            refine pure_ (i := 5) (N := some 56) (v := ?_) (a' := ?_) #[true, true, true, true, true, true, false, false, false, false, false, false, false, false, false, false, false, false, false, false, false, false, false, false, false, false, false, false, false, false, false, false, false] rfl rfl (any_of HT_.out (by kernel_rfl)) (fun _ _ _ h => h) (Or.inl ⟨by rfl, ?_⟩) ?_ ?_
                            rotate_left
                            · intro w'
                              go_simp
                              with_reducible rfl
                            rotate_left
                            · simp only [Act.put, List.setIfInBounds_toArray, List.set_cons_zero, List.set_cons_succ, i64_w, i32_w]
                              rfl
                            refine pure_ (i := 6) (N := some 57) (v := ?_) (a' := ?_) #[true, true, true, true, true, true, true, false, false, false, false, false, false, false, false, false, false, false, false, false, false, false, false, false, false, false, false, false, false, false, false, false, false] rfl rfl (any_of HT_.out (by kernel_rfl)) (fun _ _ _ h => h) (Or.inl ⟨by rfl, ?_⟩) ?_ ?_
                            rotate_left
                            · intro w'
                              go_simp
                              with_reducible rfl
                            rotate_left
                            · simp only [Act.put, List.setIfInBounds_toArray, List.set_cons_zero, List.set_cons_succ, i64_w, i32_w]
                              rfl
                            refine pure_ (i := 10) (N := some 61) (v := ?_) (a' := ?_) #[true, true, true, true, true, true, true, false, false, false, true, false, false, false, false, false, false, false, false, false, false, false, false, false, false, false, false, false, false, false, false, false, false] rfl rfl (any_of HT_.out (by kernel_rfl)) (fun _ _ _ h => h) (Or.inl ⟨by rfl, ?_⟩) ?_ ?_
                            rotate_left
                            · intro w'
                              go_simp
                              with_reducible rfl
                            rotate_left
                            · simp only [Act.put, List.setIfInBounds_toArray, List.set_cons_zero, List.set_cons_succ, i64_w, i32_w]
                              rfl
                            refine pure_ (i := 11) (N := some 62) (v := ?_) (a' := ?_) #[true, true, true, true, true, true, true, false, false, false, true, true, false, false, false, false, false, false, false, false, false, false, false, false, false, false, false, false, false, false, false, false, false] rfl rfl (any_of HT_.out (by kernel_rfl)) (fun _ _ _ h => h) (Or.inl ⟨by rfl, ?_⟩) ?_ ?_
                            rotate_left
                            · intro w'
                              go_simp
                              with_reducible rfl
                            rotate_left
                            · simp only [Act.put, List.setIfInBounds_toArray, List.set_cons_zero, List.set_cons_succ, i64_w, i32_w]
                              rfl
                            refine pure_ (i := 12) (N := some 63) (v := ?_) (a' := ?_) #[true, true, true, true, true, true, true, false, false, false, true, true, true, false, false, false, false, false, false, false, false, false, false, false, false, false, false, false, false, false, false, false, false] rfl rfl (any_of HT_.out (by kernel_rfl)) (fun _ _ _ h => h) (Or.inl ⟨by rfl, ?_⟩) ?_ ?_
                            rotate_left
                            · intro w'
                              go_simp
                              with_reducible rfl
                            rotate_left
                            · simp only [Act.put, List.setIfInBounds_toArray, List.set_cons_zero, List.set_cons_succ, i64_w, i32_w]
                              rfl
                            refine take_ (i := 7) (N := some 58) (v := ?_) (a' := ?_) #[true, true, true, true, true, true, true, true, false, false, true, true, true, false, false, false, false, false, false, false, false, false, false, false, false, false, false, false, false, false, false, false, false] rfl rfl (take_ofW HT_.out HW_.out (by kernel_rfl)) (fun _ _ _ h => h) (Or.inl ⟨by rfl, ?_⟩) hHeld ?_ ?_
                            rotate_left
                            · rintro w' ⟨s0, s1, s2, s3, s4⟩
                              go_simp
                              with_reducible rfl
                            rotate_left
                            · simp only [Act.put, List.setIfInBounds_toArray, List.set_cons_zero, List.set_cons_succ, i64_w, i32_w]
                              rfl
                            refine pure_ (i := 8) (N := some 59) (v := ?_) (a' := ?_) #[true, true, true, true, true, true, true, true, true, false, true, true, true, false, false, false, false, false, false, false, false, false, false, false, false, false, false, false, false, false, false, false, false] rfl rfl (any_of HT_.out (by kernel_rfl)) (fun _ _ _ h => h) (Or.inl ⟨by rfl, ?_⟩) ?_ ?_
                            rotate_left
                            · intro w'
                              go_simp
                              with_reducible rfl
                            rotate_left
                            · simp only [Act.put, List.setIfInBounds_toArray, List.set_cons_zero, List.set_cons_succ, i64_w, i32_w]
                              rfl
                            refine take_ (i := 13) (N := some 64) (v := ?_) (a' := ?_) #[true, true, true, true, true, true, true, true, true, false, true, true, true, true, false, false, false, false, false, false, false, false, false, false, false, false, false, false, false, false, false, false, false] rfl rfl (take_ofW HT_.out HW_.out (by kernel_rfl)) (fun _ _ _ h => h) (Or.inl ⟨by rfl, ?_⟩) hHeld ?_ ?_
                            rotate_left
                            · rintro w' ⟨s0, s1, s2, s3, s4⟩
                              go_simp
                              with_reducible rfl
                            rotate_left
                            · simp only [Act.put, List.setIfInBounds_toArray, List.set_cons_zero, List.set_cons_succ, i64_w, i32_w]
                              rfl
                            refine pure_ (i := 14) (N := some 65) (v := ?_) (a' := ?_) #[true, true, true, true, true, true, true, true, true, false, true, true, true, true, true, false, false, false, false, false, false, false, false, false, false, false, false, false, false, false, false, false, false] rfl rfl (any_of HT_.out (by kernel_rfl)) (fun _ _ _ h => h) (Or.inl ⟨by rfl, ?_⟩) ?_ ?_
                            rotate_left
                            · intro w'
                              go_simp
                              with_reducible rfl
                            rotate_left
                            · simp only [Act.put, List.setIfInBounds_toArray, List.set_cons_zero, List.set_cons_succ, i64_w, i32_w]
                              rfl
                            refine one_ (i := 9) (N := some 60) #[true, true, true, true, true, true, true, true, true, true, true, true, true, true, true, false, false, false, false, false, false, false, false, false, false, false, false, false, false, false, false, false, false] rfl rfl (one_of HT_.out (by kernel_rfl)) (by decide) (fun K hK => ?_)
                            refine goes_ Try.func20 (by kernel_rfl) rfl #[.int .u64 (IntKind.u64.wrap (rd y129 t135))] (by rfl) rfl rfl (by (try simp only [List.map_toArray, List.map_cons, List.map_nil]); first | done | rfl | (simp only [List.length_drop, List.length_take]; rfl)) ?_
                            with_reducible refine (rnd_Mix.calls (IntKind.u64.wrap (rd y129 t135)) t148 _ A43.out).mono ?_
                            rintro e w' ⟨rfl, ⟨nd, rfl⟩⟩
                            refine ⟨_, rfl, ?_⟩
                            refine hK.out _ _ ⟨(blk_cell BK141.out 0).trans rfl, (blk_cell BK141.out 1).trans rfl, hHeld.2.2.1, hHeld.2.2.2.1, (by first | exact (ra_drewN HM.out _).len Try.underlying39 3 | exact (ra_drewN (ra_drewN HM.out _) _).len Try.underlying39 3 | exact HM.out.len Try.underlying39 3)⟩ (fun hHeld => ?_)
                            clear hK K
                            refine norm_ (a' := ?_) ?_ ?_
                            rotate_left
                            · show Act.put _ (some 60) _ = _
                              simp only [Act.put, List.setIfInBounds_toArray, List.set_cons_zero, List.set_cons_succ, i64_w, i32_w]
                              rfl
                            refine one_ (i := 15) (N := some 66) #[true, true, true, true, true, true, true, true, true, true, true, true, true, true, true, true, false, false, false, false, false, false, false, false, false, false, false, false, false, false, false, false, false] rfl rfl (one_of HT_.out (by kernel_rfl)) (by decide) (fun K hK => ?_)
                            refine goes_ Try.func20 (by kernel_rfl) rfl #[.int .u64 (IntKind.u64.wrap (rd y138 t135))] (by rfl) rfl rfl (by (try simp only [List.map_toArray, List.map_cons, List.map_nil]); first | done | rfl | (simp only [List.length_drop, List.length_take]; rfl)) ?_
                            with_reducible refine (rnd_Mix.calls (IntKind.u64.wrap (rd y138 t135)) t150 _ A45.out).mono ?_
                            rintro e w' ⟨rfl, ⟨nd, rfl⟩⟩
                            refine ⟨_, rfl, ?_⟩
                            refine hK.out _ _ ⟨(blk_cell BK141.out 0).trans rfl, (blk_cell BK141.out 1).trans rfl, hHeld.2.2.1, hHeld.2.2.2.1, (by first | exact (ra_drewN HM.out _).len Try.underlying39 3 | exact (ra_drewN (ra_drewN HM.out _) _).len Try.underlying39 3 | exact HM.out.len Try.underlying39 3)⟩ (fun hHeld => ?_)
                            clear hK K
                            refine norm_ (a' := ?_) ?_ ?_
                            rotate_left
                            · show Act.put _ (some 66) _ = _
                              simp only [Act.put, List.setIfInBounds_toArray, List.set_cons_zero, List.set_cons_succ, i64_w, i32_w]
                              rfl
                            refine pure_ (i := 16) (N := some 67) (v := ?_) (a' := ?_) #[true, true, true, true, true, true, true, true, true, true, true, true, true, true, true, true, true, false, false, false, false, false, false, false, false, false, false, false, false, false, false, false, false] rfl rfl (any_of HT_.out (by kernel_rfl)) (fun _ _ _ h => h) (Or.inl ⟨by rfl, ?_⟩) ?_ ?_
                            rotate_left
                            · intro w'
                              go_simp
                              with_reducible rfl
                            rotate_left
                            · simp only [Act.put, List.setIfInBounds_toArray, List.set_cons_zero, List.set_cons_succ, i64_w, i32_w]
                              rfl
                            refine pure_ (i := 17) (N := some 68) (v := ?_) (a' := ?_) #[true, true, true, true, true, true, true, true, true, true, true, true, true, true, true, true, true, true, false, false, false, false, false, false, false, false, false, false, false, false, false, false, false] rfl rfl (any_of HT_.out (by kernel_rfl)) (fun _ _ _ h => h) (Or.inl ⟨by rfl, ?_⟩) ?_ ?_
                            rotate_left
                            · intro w'
                              go_simp
                              with_reducible rfl
                            rotate_left
                            · simp only [Act.put, List.setIfInBounds_toArray, List.set_cons_zero, List.set_cons_succ, i64_w, i32_w]
                              rfl
                            refine pure_ (i := 18) (N := some 69) (v := ?_) (a' := ?_) #[true, true, true, true, true, true, true, true, true, true, true, true, true, true, true, true, true, true, true, false, false, false, false, false, false, false, false, false, false, false, false, false, false] rfl rfl (any_of HT_.out (by kernel_rfl)) (fun _ _ _ h => h) (Or.inl ⟨by rfl, ?_⟩) ?_ ?_
                            rotate_left
                            · intro w'
                              go_simp
                              with_reducible rfl
                            rotate_left
                            · simp only [Act.put, List.setIfInBounds_toArray, List.set_cons_zero, List.set_cons_succ, i64_w, i32_w]
                              rfl
                            refine pure_ (i := 19) (N := some 70) (v := ?_) (a' := ?_) #[true, true, true, true, true, true, true, true, true, true, true, true, true, true, true, true, true, true, true, true, false, false, false, false, false, false, false, false, false, false, false, false, false] rfl rfl (any_of HT_.out (by kernel_rfl)) (fun _ _ _ h => h) (Or.inl ⟨by rfl, ?_⟩) ?_ ?_
                            rotate_left
                            · intro w'
                              go_simp
                              with_reducible rfl
                            rotate_left
                            · simp only [Act.put, List.setIfInBounds_toArray, List.set_cons_zero, List.set_cons_succ, i64_w, i32_w]
                              rfl
                            refine pure_ (i := 22) (N := some 73) (v := ?_) (a' := ?_) #[true, true, true, true, true, true, true, true, true, true, true, true, true, true, true, true, true, true, true, true, false, false, true, false, false, false, false, false, false, false, false, false, false] rfl rfl (any_of HT_.out (by kernel_rfl)) (fun _ _ _ h => h) (Or.inl ⟨by rfl, ?_⟩) ?_ ?_
                            rotate_left
                            · intro w'
                              go_simp
                              with_reducible rfl
                            rotate_left
                            · simp only [Act.put, List.setIfInBounds_toArray, List.set_cons_zero, List.set_cons_succ, i64_w, i32_w]
                              rfl
                            refine take_ (i := 23) (N := some 74) (v := ?_) (a' := ?_) #[true, true, true, true, true, true, true, true, true, true, true, true, true, true, true, true, true, true, true, true, false, false, true, true, false, false, false, false, false, false, false, false, false] rfl rfl (take_ofW HT_.out HW_.out (by kernel_rfl)) (fun _ _ _ h => h) (Or.inl ⟨by rfl, ?_⟩) hHeld ?_ ?_
                            rotate_left
                            · rintro w' ⟨s0, s1, s2, s3, s4⟩
                              go_simp
                              with_reducible rfl
                            rotate_left
                            · simp only [Act.put, List.setIfInBounds_toArray, List.set_cons_zero, List.set_cons_succ, i64_w, i32_w]
                              rfl
                            refine one_ (i := 20) (N := some 71) #[true, true, true, true, true, true, true, true, true, true, true, true, true, true, true, true, true, true, true, true, true, false, true, true, false, false, false, false, false, false, false, false, false] rfl rfl (one_of HT_.out (by kernel_rfl)) (by decide) (fun K hK => ?_)
                            refine goes_ Try.func17 (by kernel_rfl) rfl #[.slice (some ⟨go13, 0, none⟩) y138.length co21] (by rfl) rfl rfl (by (try simp only [List.map_toArray, List.map_cons, List.map_nil]); first | done | rfl | (simp only [List.length_drop, List.length_take]; rfl)) ?_
                            with_reducible refine (rnd_Of.calls k1 _ _ y138 t151 t152 _ ?side1 ?side2 A47.out).mono ?_
                            (case side1 => repeat (first | exact (Kd.R_reads' HO_7.out).2.2 | (with_reducible refine Kd.C_alloc ?_ _) | (with_reducible refine Kd.C_drewN ?_ _) | (with_reducible refine Kd.C_drew ?_)))
                            (case side2 => exact (Kd.R_reads' HO_7.out).2.1)
                            rintro e w50 ⟨rfl, hb⟩
                            have HMn := Aside0.mk (by first | exact ra_below HM.out hb | exact ra_below (ra_drewN HM.out _) hb | exact ra_below (ra_drewN (ra_drewN HM.out _) _) hb : w50.ownsMap Try.prog 23 (plainElem (H := Unit) Try.prog 4) gm 50 (raSet t139 t140 50))
                            have HS2_ := (hb.cell (World.block_lt_of_cell? _ _ (hHeld.2.2.1))).trans (hHeld.2.2.1)
                            have HS3_ := (hb.cell (World.block_lt_of_cell? _ _ (hHeld.2.2.2.1))).trans (hHeld.2.2.2.1)
                            refine ⟨_, rfl, ?_⟩
                            have n0_ := Aside0.mk (Kd.R_below (by (with_reducible repeat (first | apply Kd.R_alloc | apply Kd.R_drewN | apply Kd.R_drew)); exact HO_0.out) hb)
                            have n1_ := Aside0.mk (Kd.R_below (by (with_reducible repeat (first | apply Kd.R_alloc | apply Kd.R_drewN | apply Kd.R_drew)); exact HO_7.out) hb)
                            have n2_ := Aside0.mk (blk_below (g := gb141) (o := .cells #[.int .u64 t139, .int .u64 t140] 25 (0, 0)) (by (with_reducible repeat (first | refine blk_drewN ?_ _ | refine blk_drew ?_ | refine blk_alloc ?_ _)); exact BK141.out) hb)
                            have n3_ := Aside0.mk (blk_below (g := gb142) (o := .cells #[.int .u64 s_, .int .u64 g_] 25 (0, 0)) (by (with_reducible repeat (first | refine blk_drewN ?_ _ | refine blk_drew ?_ | refine blk_alloc ?_ _)); exact BK142.out) hb)
                            have n4_ := Aside0.mk (below_step (by repeat (first | (with_reducible first | exact HB.out | apply below_alloc | apply pw_below_drewN | apply below_drew1 | refine below_set ?_ GE141.out | refine below_set ?_ GE142.out) | exact HB.out)) hb)
                            clear HO_0
                            clear HO_7
                            clear BK141
                            clear BK142
                            clear HB
                            have HO_0 := n0_
                            have HO_7 := n1_
                            have BK141 := n2_
                            have BK142 := n3_
                            have HB := n4_
                            clear n0_ n1_ n2_ n3_ n4_
                            (try clear hb)
                            (try clear hb2)
                            (try clear hk)
                            (try clear hi)
                            refine hK.out _ _ ⟨(blk_cell BK141.out 0).trans rfl, (blk_cell BK141.out 1).trans rfl, HS2_, HS3_, (by first | exact HMn.out.len Try.underlying39 3)⟩ (fun hHeld => ?_)
                            clear hK K
                            refine norm_ (a' := ?_) ?_ ?_
                            rotate_left
                            · show Act.put _ (some 71) _ = _
                              simp only [Act.put, List.setIfInBounds_toArray, List.set_cons_zero, List.set_cons_succ, i64_w, i32_w]
                              rfl
                            refine pure_ (i := 21) (N := some 72) (v := ?_) (a' := ?_) #[true, true, true, true, true, true, true, true, true, true, true, true, true, true, true, true, true, true, true, true, true, true, true, true, false, false, false, false, false, false, false, false, false] rfl rfl (any_of HT_.out (by kernel_rfl)) (fun _ _ _ h => h) (Or.inl ⟨by rfl, ?_⟩) ?_ ?_
                            rotate_left
                            · intro w'
                              go_simp
                              with_reducible rfl
                            rotate_left
                            · simp only [Act.put, List.setIfInBounds_toArray, List.set_cons_zero, List.set_cons_succ, i64_w, i32_w]
                              rfl
                            refine pure_ (i := 24) (N := some 75) (v := ?_) (a' := ?_) #[true, true, true, true, true, true, true, true, true, true, true, true, true, true, true, true, true, true, true, true, true, true, true, true, true, false, false, false, false, false, false, false, false] rfl rfl (any_of HT_.out (by kernel_rfl)) (fun _ _ _ h => h) (Or.inl ⟨by rfl, ?_⟩) ?_ ?_
                            rotate_left
                            · intro w'
                              go_simp
                              with_reducible rfl
                            rotate_left
                            · simp only [Act.put, List.setIfInBounds_toArray, List.set_cons_zero, List.set_cons_succ, i64_w, i32_w]
                              rfl
                            refine pure_ (i := 25) (N := some 76) (v := ?_) (a' := ?_) #[true, true, true, true, true, true, true, true, true, true, true, true, true, true, true, true, true, true, true, true, true, true, true, true, true, true, false, false, false, false, false, false, false] rfl rfl (any_of HT_.out (by kernel_rfl)) (fun _ _ _ h => h) (Or.inl ⟨by rfl, ?_⟩) ?_ ?_
                            rotate_left
                            · intro w'
                              go_simp
                              with_reducible rfl
                            rotate_left
                            · simp only [Act.put, List.setIfInBounds_toArray, List.set_cons_zero, List.set_cons_succ, i64_w, i32_w]
                              rfl
                            refine pure_ (i := 26) (N := some 77) (v := ?_) (a' := ?_) #[true, true, true, true, true, true, true, true, true, true, true, true, true, true, true, true, true, true, true, true, true, true, true, true, true, true, true, false, false, false, false, false, false] rfl rfl (any_of HT_.out (by kernel_rfl)) (fun _ _ _ h => h) (Or.inl ⟨by rfl, ?_⟩) ?_ ?_
                            rotate_left
                            · intro w'
                              go_simp
                              with_reducible rfl
                            rotate_left
                            · simp only [Act.put, List.setIfInBounds_toArray, List.set_cons_zero, List.set_cons_succ, i64_w, i32_w]
                              rfl
                            refine pure_ (i := 27) (N := some 78) (v := ?_) (a' := ?_) #[true, true, true, true, true, true, true, true, true, true, true, true, true, true, true, true, true, true, true, true, true, true, true, true, true, true, true, true, false, false, false, false, false] rfl rfl (any_of HT_.out (by kernel_rfl)) (fun _ _ _ h => h) (Or.inl ⟨by rfl, ?_⟩) ?_ ?_
                            rotate_left
                            · intro w'
                              go_simp
                              with_reducible rfl
                            rotate_left
                            · simp only [Act.put, List.setIfInBounds_toArray, List.set_cons_zero, List.set_cons_succ, i64_w, i32_w]
                              rfl
                            refine take_ (i := 28) (N := some 79) (v := ?_) (a' := ?_) #[true, true, true, true, true, true, true, true, true, true, true, true, true, true, true, true, true, true, true, true, true, true, true, true, true, true, true, true, true, false, false, false, false] rfl rfl (take_ofW HT_.out HW_.out (by kernel_rfl)) (fun _ _ _ h => h) (Or.inl ⟨by rfl, ?_⟩) hHeld ?_ ?_
                            rotate_left
                            · rintro w' ⟨s0, s1, s2, s3, s4⟩
                              go_simp
                              with_reducible rfl
                            rotate_left
                            · simp only [Act.put, List.setIfInBounds_toArray, List.set_cons_zero, List.set_cons_succ, i64_w, i32_w]
                              rfl
                            refine pure_ (i := 29) (N := some 80) (v := ?_) (a' := ?_) #[true, true, true, true, true, true, true, true, true, true, true, true, true, true, true, true, true, true, true, true, true, true, true, true, true, true, true, true, true, true, false, false, false] rfl rfl (any_of HT_.out (by kernel_rfl)) (fun _ _ _ h => h) (Or.inl ⟨by rfl, ?_⟩) ?_ ?_
                            rotate_left
                            · intro w'
                              go_simp
                              with_reducible rfl
                            rotate_left
                            · simp only [Act.put, List.setIfInBounds_toArray, List.set_cons_zero, List.set_cons_succ, i64_w, i32_w]
                              rfl
                            refine pure_ (i := 30) (N := some 81) (v := ?_) (a' := ?_) #[true, true, true, true, true, true, true, true, true, true, true, true, true, true, true, true, true, true, true, true, true, true, true, true, true, true, true, true, true, true, true, false, false] rfl rfl (any_of HT_.out (by kernel_rfl)) (fun _ _ _ h => h) (Or.inl ⟨by rfl, ?_⟩) ?_ ?_
                            rotate_left
                            · intro w'
                              go_simp
                              with_reducible rfl
                            rotate_left
                            · simp only [Act.put, List.setIfInBounds_toArray, List.set_cons_zero, List.set_cons_succ, i64_w, i32_w]
                              rfl
                            refine pure_ (i := 31) (N := some 82) (v := ?_) (a' := ?_) #[true, true, true, true, true, true, true, true, true, true, true, true, true, true, true, true, true, true, true, true, true, true, true, true, true, true, true, true, true, true, true, true, false] rfl rfl (any_of HT_.out (by kernel_rfl)) (fun _ _ _ h => h) (Or.inl ⟨by rfl, ?_⟩) ?_ ?_
                            rotate_left
                            · intro w'
                              go_simp
                              with_reducible rfl
                            rotate_left
                            · simp only [Act.put, List.setIfInBounds_toArray, List.set_cons_zero, List.set_cons_succ, i64_w, i32_w]
                              rfl
                            refine pure_ (i := 32) (N := some 6) (v := ?_) (a' := ?_) #[true, true, true, true, true, true, true, true, true, true, true, true, true, true, true, true, true, true, true, true, true, true, true, true, true, true, true, true, true, true, true, true, true] rfl rfl (any_of HT_.out (by kernel_rfl)) (fun _ _ _ h => h) (Or.inl ⟨by rfl, ?_⟩) ?_ ?_
                            rotate_left
                            · intro w'
                              go_simp
                              with_reducible rfl
                            rotate_left
                            · simp only [Act.put, List.setIfInBounds_toArray, List.set_cons_zero, List.set_cons_succ, i64_w, i32_w]
                              rfl
                            refine done_ (done_of HT_.out (by kernel_rfl)) ?_
                            try go_wp2
                            go_ret
                            exact ⟨by first | rfl | (simp [errW_none, errW_some] <;> rfl) | (simp [*, errW_none, errW_some] <;> rfl), by repeat (first | (with_reducible first | exact HB.out | apply below_alloc | apply pw_below_drewN | apply below_drew1 | refine below_set ?_ GE141.out | refine below_set ?_ GE142.out) | exact HB.out)⟩
                      · rw [if_neg c44] at H
                        exact absurd H (by simp)
                    · rw [if_neg c42] at H
                      exact absurd H (by simp)
                  · rw [if_neg c41] at H
                    exact absurd H (by simp)
                · rw [if_neg c40] at H
                  have c40b0 : ((raCount t139 t140) == 50) = false := beq_eq_false_iff_ne.mpr c40
                  have c40b1 : ((raCount t139 t140) != 50) = true := bne_iff_ne.mpr c40
                  exact absurd H (by simp)
        · rw [if_neg c11] at H
          exact absurd H (by simp)
      · rw [if_neg c10] at H
        exact absurd H (by simp)
    · rw [if_neg c7] at H
      exact absurd H (by simp)
  · replace c5 := Bool.eq_false_iff.mpr c5
    subst c5
    have H1 : (none) = some r := by rw [if_neg (show ¬ (false = true) by decide)] at H; exact H
    clear H
    have H := H1
    clear H1
    exact absurd H (by simp)

/-- THE ONE PURE STATEMENT of tourkeep1_RndApart: yours. -/
def tourkeep1_RndApart.Pure : Prop := ∀ (l0 : List Int) (a1 : Int) (a2 : Int), l0.length ≤ maxLen → l0.length * 8 ≤ 140737488351232 → (∀ x ∈ l0, (Lit.int .i64 x).wf = true) → (Lit.int .i64 a1).wf = true → (Lit.int .i64 a2).wf = true → ∃ k, tourkeep1_RndApart.f k l0 a1 a2 = some true
theorem tourkeep1_RndApart.walk (P : tourkeep1_RndApart.Pure) (a0 : Option Addr) (len0 cap0 : Nat) (z0 : List Int) (a1 : Int) (a2 : Int) (w : World) (w0 : (a0 = none ∧ len0 = 0 ∧ cap0 = 0 ∧ z0 = []) ∨ ∃ x, a0 = some x ∧ len0 ≤ cap0 ∧ cap0 ≤ maxLen ∧ z0.length = cap0 ∧ (∀ i, i < z0.length → w.cell? (x.add i) = some (.int .i64 (z0.getD i 0))) ∧ ∀ n ∈ z0, (Lit.int .i64 n).wf = true) (y0 : len0 * 8 ≤ 140737488351232) (w1 : (Lit.int .i64 a1).wf = true) (w2 : (Lit.int .i64 a2).wf = true) :
    Calls Try.prog 5 #[.slice a0 len0 cap0, .int .i64 a1, .int .i64 a2] w fun e w' => e = .returned (.bool true) ∧ Below w.heap.size w w' := by
  obtain ⟨l0, rfl, hr0, hm0, hw0, hc0⟩ := ReadsInt.ofRowC w0
  obtain ⟨k, h⟩ := P l0 a1 a2 hm0 y0 hw0 w1 w2
  refine (tourkeep1_RndApart.calls k _ _ l0 a1 a2 true w (Kd.C_of_reads (d := (0 : Int)) (h1 := fun _ => rfl) hr0) hc0 h).mono ?_
  rintro e w' ⟨rfl, hd⟩
  exact ⟨rfl, hd⟩

end Go.Proofs.Ytggfiacnkbcjbaa.P
