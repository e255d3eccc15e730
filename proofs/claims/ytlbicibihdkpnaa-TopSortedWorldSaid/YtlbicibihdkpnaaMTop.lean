/- Package world: Find. It answers an index of an item, or -1. No condition. Package world: at. It answers a place in a list of components, and whether there is one. No condition. Package world: Get. It answers some numbers and some error. Condition: Check answers. Packages kind and world: the printed functions answer something. Conditions: small worlds, and enough rounds. Package world: the function of Ints that appends a name. Condition: few numbers. Package world: what Ints writes, and the step that appends numbers to its list. No condition. Package world: Ints. Condition: few numbers. Package world: Copy of a world without entities. Condition: the kinds are copied. Package world: Free in a world without entities; BinarySearchFunc and Insert on no items. No condition. Package slices: SortFunc of one component, ContainsFunc in none. No condition. Package world: Fit of one component of one kind. No condition. Package slices: Insert of one item into none. No condition. Package world: Spawn of one entity in a world without entities. No condition. Package tourtop: h6begun answers true. No condition. Package tourtop: TopSortedWorld, its walk. Condition: the row of numbers is read. -/
import Derived.BigRegion
import Derived.Test.YtlbicibihdkpnaaMWorld
import Derived.Test.YtlbicibihdkpnaaPAllx14
import Derived.Test.YtlbicibihdkpnaaPAllx11
import Derived.Test.YtlbicibihdkpnaaPAllx16
import Derived.Deep.RegionLaw
import Derived.Deep.RegionHeld3
import Derived.Test.YtlbicibihdkpnaaPAllx6
import Derived.Deep.QuietTactic
import Derived.BigQuiet
import Derived.Test.YtlbicibihdkpnaaPAllx13
import Derived.Test.YtlbicibihdkpnaaPAllx5
import Derived.Test.YtlbicibihdkpnaaPAllx8
import Derived.Test.YtlbicibihdkpnaaPAllx20
import Derived.Test.YtlbicibihdkpnaaPAllx19
import Derived.Test.YtlbicibihdkpnaaPAllx21
import Derived.StillTailTactics
import Derived.Test.YtlbicibihdkpnaaMQueue
namespace Go.Proofs.Ytlbicibihdkpnaa.P
open Go.RowKit Go.Proofs.YtlbicibihdkpnaaW.PrintWords Go.Proofs.YtlbicibihdkpnaaW.PrintLast Go.Proofs.YtlbicibihdkpnaaW.PrintMore
set_option linter.unusedVariables false
set_option linter.unusedSimpArgs false

def SomeB (w : World) (e : Ending) (w' : World) : Prop := ∃ b : Bool, e = .returned (.bool b) ∧ Below w.heap.size w w'
set_option maxHeartbeats 4000000 in
set_option maxRecDepth 100000 in
theorem T_find1 (w : World) (ge : Nat) (n g : Int) (vc : Value) (A : Option Addr) (l c : Nat) (en eg : Int) (hv : vc = .slice A l c) (he : w.heap[ge]? = some (.cells #[.int .i64 en, .int .i64 eg] 31 (0, 0))) :
    Calls Try.prog 42 #[.agg #[.int .i64 n, .int .i64 g, vc], .pointer (some ⟨ge, 0, none⟩)] w (SomeB w) := by
  subst hv
  obtain ⟨x0, x1, x2, x3⟩ := cells2 he
  have xl := blk_lt he
  clear he
  go_enter Try.func42, Try.ntmps42
  go_wp2_with (fail)
  all_goals
    go_ret
    exact ⟨_, rfl, below_alloc (Below.refl _ _) _⟩
def SomeI (w : World) (n : Nat) (e : Ending) (w' : World) : Prop := ∃ r : Int, e = .returned (.int .i64 r) ∧ Aside0 (-1 ≤ r ∧ r < n) ∧ Aside0 (Below w.heap.size w w')
set_option maxHeartbeats 4000000 in
set_option maxRecDepth 100000 in
theorem T_index (w : World) (ge : Nat) (vI : Value) (I : List S34) (en eg : Int) (base : Nat) (ok : Nat → Prop) (hI : Kd.R k34 34 w base ok vI I) (hl : I.length ≤ 8) (he : w.heap[ge]? = some (.cells #[.int .i64 en, .int .i64 eg] 31 (0, 0))) :
    Calls Try.prog 41 #[vI, .func (.func 42) #[] #[.pointer (some ⟨ge, 0, none⟩)]] w (SomeI w I.length) := by
  have HI := Aside0.mk hI
  have HE := Aside0.mk he
  obtain ⟨A, c, rfl⟩ := Kd.R_slice hI
  obtain ⟨n, hn⟩ : ∃ n, I.length = n := ⟨_, rfl⟩
  have HN := Aside0.mk hn
  rw [hn] at hl HI ⊢
  clear hI he hn
  go_enter Try.func41, Try.ntmps41
  go_wp2_with (fail)
  go_loopg [8] n (fun kq v8 w' => ∃ (i : Nat), v8 = .int .i64 (i : Int) ∧ Aside0 (kq = n - i ∧ i ≤ n) ∧ Aside0 (Below w.heap.size w w'))
  case atStart => exact ⟨0, rfl, ⟨by omega, by omega⟩, ⟨Below.refl _ _⟩⟩
  case round =>
    obtain ⟨i, rfl, HJ, HB⟩ := hrel
    by_cases hi : i < n
    · have i0 : (0 : Int) ≤ (i : Int) := by omega
      have i1 : (i : Int) < (n : Int) := by omega
      obtain ⟨ad, A2, c2, e, x0, x1, x2, _, _⟩ := at_T34 (Kd.R_reads' (Kd.R_below HI.out HB.out)).2.2 (i : Int) i0 (by have := HN.out; omega)
      subst e
      rw [Int.toNat_natCast] at x0 x1 x2
      have he := blk_below HE.out HB.out
      go_wp2_with (fail)
      refine (T_find1 wr ge _ _ _ _ _ _ en eg rfl he).mono ?_
      rintro e w2 ⟨b, rfl, hb⟩
      have HB2 := Aside0.mk (HB.out.trans (hb.mono HB.out.size))
      clear hb he x0 x1 x2
      cases b
      · go_wp2_with (fail)
        go_roundg (n - (i + 1))
        case measure => have := HJ.out.1; omega
        case rel => exact ⟨i + 1, congrArg (Value.int .i64) (by omega), ⟨by omega, by omega⟩, HB2⟩
      · go_wp2_with (fail)
        go_ret
        exact ⟨(i : Int), rfl, ⟨by omega, by omega⟩, HB2⟩
    · have i1 : ¬ ((i : Int) < (n : Int)) := by omega
      go_wp2_with (fail)
      go_ret
      exact ⟨-1, rfl, ⟨by omega, by omega⟩, HB⟩
set_option maxHeartbeats 4000000 in
set_option maxRecDepth 100000 in
theorem T_find (w : World) (vK vG vI : Value) (A0 A1 : Option Addr) (n0 n1 c0 c1 : Nat) (I : List S34) (en eg : Int) (base : Nat) (ok : Nat → Prop) (hK : vK = .slice A0 n0 c0) (hG : vG = .slice A1 n1 c1) (hI : Kd.R k34 34 w base ok vI I) (hl : I.length ≤ 8) :
    Calls Try.prog 22 #[.agg #[vK, vG, vI], .agg #[.int .i64 en, .int .i64 eg]] w (SomeI w I.length) := by
  obtain ⟨A, c, rfl⟩ := Kd.R_slice hI
  subst hK hG
  have HI := Aside0.mk hI
  clear hI
  go_enter Try.func22, Try.ntmps22
  go_wp2_with (fail)
  have B := below_alloc (below_alloc (Below.refl w.heap.size w) (.cells #[.slice A0 n0 c0, .slice A1 n1 c1, .slice A I.length c] 27)) (.cells #[.int .i64 en, .int .i64 eg] 31)
  refine (T_index _ (w.heap.size + 1) _ I en eg base ok (Kd.R_below HI.out B) hl new2).mono ?_
  rintro e w2 ⟨r, rfl, hr, hb⟩
  have HB := Aside0.mk (below_step B hb.out)
  go_wp2_with (fail)
  go_ret
  exact ⟨r, rfl, hr, HB⟩

end Go.Proofs.Ytlbicibihdkpnaa.P
namespace Go.Proofs.Ytlbicibihdkpnaa.P
open Go.RowKit Go.Proofs.YtlbicibihdkpnaaW.PrintWords Go.Proofs.YtlbicibihdkpnaaW.PrintLast Go.Proofs.YtlbicibihdkpnaaW.PrintMore
set_option linter.unusedVariables false
set_option linter.unusedSimpArgs false

def AnyI (w : World) (e : Ending) (w' : World) : Prop := ∃ r : Int, e = .returned (.int .i64 r) ∧ Aside0 (Below w.heap.size w w')
theorem compare_some (a b : Int) : ∃ r, cmp_Compare_int.f a b = some r := by
  unfold cmp_Compare_int.f cmp_isNaN_int.f
  simp only [Option.bind_some, bne_self_eq_false]
  repeat' split
  all_goals first | exact ⟨_, rfl⟩ | simp_all
set_option maxHeartbeats 4000000 in
set_option maxRecDepth 100000 in
theorem T_at1 (w : World) (k x : Int) (A : Option Addr) (l c : Nat) :
    Calls Try.prog 44 #[.agg #[.int .i64 k, .slice A l c], .int .i64 x] w (AnyI w) := by
  obtain ⟨r, hr⟩ := compare_some k x
  have HR := Aside0.mk hr
  clear hr
  go_enter Try.func44, Try.ntmps44
  go_wp2_with (fail)
  refine (cmp_Compare_int.calls _ _ _ _ HR.out).mono ?_
  rintro e w2 ⟨rfl, ⟨nd, rfl⟩⟩
  go_wp2_with (fail)
  go_ret
  exact ⟨r, rfl, ⟨pw_below_drewN (below_alloc (Below.refl _ _) _) _⟩⟩
def AtP (w : World) (n : Nat) (e : Ending) (w' : World) : Prop := ∃ (r : Int) (b : Bool), e = .returned (.tuple #[.int .i64 r, .bool b]) ∧ Aside0 (0 ≤ r ∧ r ≤ n ∧ (b = true → r < n)) ∧ Aside0 (Below w.heap.size w w')
set_option maxHeartbeats 4000000 in
set_option maxRecDepth 100000 in
theorem T_bs (w : World) (A : Option Addr) (c : Nat) (C : List S59) (x : Int) (hC : Kd.C k59 w A C.length C) (hl : C.length ≤ 4) :
    Calls Try.prog 43 #[.slice A C.length c, .int .i64 x, .func (.func 44) #[] #[]] w (AtP w C.length) := by
  have HC := Aside0.mk hC
  obtain ⟨n, hn⟩ : ∃ n, C.length = n := ⟨_, rfl⟩
  have HN := Aside0.mk hn
  rw [hn] at hl HC ⊢
  clear hC hn
  go_enter Try.func43, Try.ntmps43
  go_wp2_with (fail)
  go_loopg [9, 10] n (fun kq v9 v10 w' => ∃ (i j : Nat), v9 = .int .i64 (i : Int) ∧ v10 = .int .i64 (j : Int) ∧ Aside0 (kq = j - i ∧ i ≤ j ∧ j ≤ n) ∧ Aside0 (Below w.heap.size w w'))
  case atStart => exact ⟨0, n, rfl, rfl, ⟨by omega, by omega, by omega⟩, ⟨Below.refl _ _⟩⟩
  case round =>
    obtain ⟨i, j, rfl, rfl, HJ, HB⟩ := hrel
    have hij : i ≤ j := HJ.out.2.1
    have hjn : j ≤ n := HJ.out.2.2
    by_cases hlt : i < j
    · have d0 : (i : Int) < (j : Int) := by omega
      obtain ⟨m, hm⟩ : ∃ m, (i + j) / 2 = m := ⟨_, rfl⟩
      have HM := Aside0.mk (show i ≤ m ∧ m < j from ⟨by omega, by omega⟩)
      have hm2 : ((i : Int) + (j : Int)) / 2 = (m : Int) := by omega
      have m0 : (0 : Int) ≤ (m : Int) := by omega
      have m1 : (m : Int) < (n : Int) := by omega
      have m4 : m < 4 := by omega
      obtain ⟨ad, A1, c1, e, x0, x1, _, _⟩ := at_T59 (Kd.C_below HC.out HB.out) (m : Int) m0 (by have := HN.out; omega)
      subst e
      rw [Int.toNat_natCast] at x0 x1
      clear hm
      go_wp2_with (fail)
      refine (T_at1 wr _ x _ _ _).mono ?_
      rintro e w2 ⟨r, rfl, hb⟩
      have HB2 := Aside0.mk (HB.out.trans (hb.out.mono HB.out.size))
      clear hb x0 x1 hm2
      by_cases hr : r < 0
      · go_wp2_with (fail)
        go_roundg (j - (m + 1))
        case measure => have := HJ.out.1; have := HM.out; omega
        case rel => exact ⟨m + 1, j, congrArg (Value.int .i64) (by omega), rfl, ⟨by omega, by have := HM.out; omega, by omega⟩, HB2⟩
      · have hr' : 0 ≤ r := by omega
        go_wp2_with (fail)
        go_roundg (m - i)
        case measure => have := HJ.out.1; have := HM.out; omega
        case rel => exact ⟨i, m, rfl, rfl, ⟨by omega, by have := HM.out; omega, by have := HM.out; omega⟩, HB2⟩
    · have d0 : ¬ ((i : Int) < (j : Int)) := by omega
      by_cases hin : i < n
      · have d1 : (i : Int) < (n : Int) := by omega
        have d2 : decide ((i : Int) < (n : Int)) = true := decide_eq_true d1
        have i0 : (0 : Int) ≤ (i : Int) := by omega
        obtain ⟨ad, A1, c1, e, x0, x1, _, _⟩ := at_T59 (Kd.C_below HC.out HB.out) (i : Int) i0 (by have := HN.out; omega)
        subst e
        rw [Int.toNat_natCast] at x0 x1
        go_wp2_with (fail)
        refine (T_at1 wr _ x _ _ _).mono ?_
        rintro e w2 ⟨r, rfl, hb⟩
        have HB2 := Aside0.mk (HB.out.trans (hb.out.mono HB.out.size))
        clear hb x0 x1
        go_wp2_with (fail)
        go_ret2
        exact ⟨(i : Int), _, rfl, ⟨by omega, by omega, fun _ => by omega⟩, HB2⟩
      · have d1 : ¬ ((i : Int) < (n : Int)) := by omega
        have d2 : decide ((i : Int) < (n : Int)) = false := decide_eq_false d1
        go_wp2_with (fail)
        go_ret2
        exact ⟨(i : Int), false, rfl, ⟨by omega, by omega, fun h => by cases h⟩, HB⟩
set_option maxHeartbeats 4000000 in
set_option maxRecDepth 100000 in
theorem T_at (w : World) (A : Option Addr) (c : Nat) (C : List S59) (x : Int) (hC : Kd.C k59 w A C.length C) (hl : C.length ≤ 4) :
    Calls Try.prog 23 #[.slice A C.length c, .int .i64 x] w (AtP w C.length) := by
  have HC := Aside0.mk hC
  clear hC
  go_enter Try.func23, Try.ntmps23
  go_wp2_with (fail)
  refine (T_bs w A c C x HC.out hl).mono ?_
  rintro e w2 ⟨r, b, rfl, hr, hb⟩
  go_wp2_with (fail)
  go_ret2
  exact ⟨r, b, rfl, hr, hb⟩

end Go.Proofs.Ytlbicibihdkpnaa.P
namespace Go.Proofs.Ytlbicibihdkpnaa.P
open Go.RowKit Go.Proofs.YtlbicibihdkpnaaW.PrintWords Go.Proofs.YtlbicibihdkpnaaW.PrintLast Go.Proofs.YtlbicibihdkpnaaW.PrintMore
set_option linter.unusedVariables false
set_option linter.unusedSimpArgs false

def GetP (w : World) (e : Ending) (w' : World) : Prop := ∃ (v : Value) (l : List Int) (er : Int), e = .returned (.tuple #[v, .int .i64 er]) ∧ Aside0 (Kd.R (Kd.int .i64) 3 w' w.heap.size (fun _ => True) v l ∧ l.length ≤ 3) ∧ Aside0 (Below w.heap.size w w')
set_option maxHeartbeats 4000000 in
set_option maxRecDepth 100000 in
theorem T_get (w : World) (vK vG vI : Value) (K : List S55) (G : List Int) (I : List S34) (en eg x : Int) (base : Nat) (hK : Kd.R k55 55 w base (fun _ => True) vK K) (hG : Kd.R (Kd.int .i64) 3 w base (fun _ => True) vG G) (hI : Kd.R k34 34 w base (fun _ => True) vI I) (hO : WorldOK K G I) (kk : Nat) (rc : Int) (hchk : world_Check.f kk K G I = some rc) :
    Calls Try.prog 7 #[.agg #[vK, vG, vI], .agg #[.int .i64 en, .int .i64 eg], .int .i64 x] w (GetP w) := by
  obtain ⟨AK, cK, rfl⟩ := Kd.R_slice hK
  obtain ⟨AG, cG, rfl⟩ := Kd.R_slice hG
  obtain ⟨AI, cI, rfl⟩ := Kd.R_slice hI
  have HR := Aside0.mk (And.intro hK (And.intro hG hI))
  have HO := Aside0.mk hO
  have HC := Aside0.mk hchk
  clear hK hG hI hO hchk
  go_enter Try.func7, Try.ntmps7
  go_wp2_with (fail)
  have B0 := below_alloc (below_alloc (Below.refl w.heap.size w) (.cells #[.slice AK K.length cK, .slice AG G.length cG, .slice AI I.length cI] 27)) (.cells #[.int .i64 en, .int .i64 eg] 31)
  have HX := Aside0.mk (blk_alloc (blk_new w (.cells #[.slice AK K.length cK, .slice AG G.length cG, .slice AI I.length cI] 27)) (.cells #[.int .i64 en, .int .i64 eg] 31))
  have HE := Aside0.mk (new2 (W := w) (o := .cells #[.slice AK K.length cK, .slice AG G.length cG, .slice AI I.length cI] 27) (o' := .cells #[.int .i64 en, .int .i64 eg] 31))
  have HR := Aside0.mk (And.intro (Kd.R_below HR.out.1 B0) (And.intro (Kd.R_below HR.out.2.1 B0) (Kd.R_below HR.out.2.2 B0)))
  have HB := Aside0.mk B0
  obtain ⟨gx, hgx⟩ : ∃ g, w.heap.size = g := ⟨_, rfl⟩
  obtain ⟨ge, hge⟩ : ∃ g, w.heap.size + 1 = g := ⟨_, rfl⟩
  obtain ⟨w1, hw1⟩ : ∃ W, (w.alloc (.cells #[.slice AK K.length cK, .slice AG G.length cG, .slice AI I.length cI] 27)).alloc (.cells #[.int .i64 en, .int .i64 eg] 31) = W := ⟨_, rfl⟩
  rw [hw1] at HX HE HR HB ⊢
  rw [hge] at HE ⊢
  have HX : Aside0 (w1.heap[gx]? = some (.cells #[.slice AK K.length cK, .slice AG G.length cG, .slice AI I.length cI] 27 (0, 0))) := ⟨hgx ▸ HX.out⟩
  rw [hgx]
  clear B0 hw1 hge hgx
  refine (world_Check.calls kk AK cK K AG cG G AI cI I rc w1 (Kd.R_reads' HR.out.1).2.2 (Kd.R_reads' HR.out.1).2.1 (Kd.R_reads' HR.out.2.1).2.2 (Kd.R_reads' HR.out.2.1).2.1 (Kd.R_reads' HR.out.2.2).2.2 (Kd.R_reads' HR.out.2.2).2.1 HC.out).mono ?_
  rintro e w2 ⟨rfl, hb⟩
  have HX := Aside0.mk (blk_below HX.out hb)
  have HE := Aside0.mk (blk_below HE.out hb)
  have HR := Aside0.mk (Kd.R_below HR.out.2.2 hb)
  have HB := Aside0.mk (below_step HB.out hb)
  obtain ⟨x0, x1, x2, x3, x4, x5⟩ := cells3 HX.out
  obtain ⟨e0, e1, e2, e3⟩ := cells2 HE.out
  clear hb
  by_cases h0 : rc = 0
  · have d0 : (rc != 0) = false := by simp [h0]
    go_wp2_with (fail)
    refine (T_find w2 _ _ _ AK AG K.length G.length cK cG I en eg base _ rfl rfl HR.out HO.out.2.2.2.2.2.1).mono ?_
    rintro e w3 ⟨r, rfl, hr, hb⟩
    have HX := Aside0.mk (blk_below HX.out hb.out)
    have HE := Aside0.mk (blk_below HE.out hb.out)
    have HR := Aside0.mk (Kd.R_below HR.out hb.out)
    have HB := Aside0.mk (below_step HB.out hb.out)
    clear hb x0 x1 x2 x3 x4 x5 e0 e1 e2 e3
    obtain ⟨x0, x1, x2, x3, x4, x5⟩ := cells3 HX.out
    by_cases hr0 : r < 0
    · have d1 : r < 0 := hr0
      go_wp2_with (fail)
      go_ret2
      exact ⟨_, [], 4, rfl, ⟨Kd.R_nil _ _ _ _ _, by simp⟩, HB⟩
    · have d1 : ¬ (r < 0) := hr0
      obtain ⟨i, rfl⟩ : ∃ i : Nat, r = (i : Int) := ⟨r.toNat, by omega⟩
      have i0 : (0 : Int) ≤ (i : Int) := by omega
      have i1 : (i : Int) < (I.length : Int) := hr.out.2
      obtain ⟨ad, A2, c2, e, y0, y1, y2, y3, hC⟩ := at_T34 (Kd.R_reads' HR.out).2.2 (i : Int) i0 i1
      subst e
      rw [Int.toNat_natCast] at y0 y1 y2
      have HIO := Aside0.mk (HO.out.2.2.2.2.2.2 (rd_T34 I (i : Int)) (by
        unfold rd_T34
        rw [Int.toNat_natCast, List.getD_eq_getElem?_getD, List.getElem?_eq_getElem (by omega)]
        exact List.getElem_mem _))
      have HCC := Aside0.mk hC
      have hy3 := Aside0.mk y3
      generalize rd_T34 I (i : Int) = it at y0 y1 y2 HIO HCC hy3
      obtain ⟨⟨en2, eg2⟩, C⟩ := it
      replace y2 : w3.cell? ⟨(ad.add (i * 3)).block, (ad.add (i * 3)).off + 2, none⟩ = some (.slice A2 C.length c2) := y2
      replace HCC : Aside0 (Kd.C k59 w3 A2 C.length C) := HCC
      replace HIO : Aside0 (IOK1 ⟨⟨en2, eg2⟩, C⟩) := HIO
      clear hC y3 y0 y1 hr hr0
      have hc4 : C.length ≤ 4 := HIO.out.2.2.2.2.1
      go_wp2_with (fail)
      refine (T_at w3 A2 c2 C x HCC.out hc4).mono ?_
      rintro e w4 ⟨j, b, rfl, hj, hb⟩
      have HX := Aside0.mk (blk_below HX.out hb.out)
      have HCC := Aside0.mk (Kd.C_below HCC.out hb.out)
      have HB4 := Aside0.mk (below_step HB.out hb.out)
      have hy : w4.cell? ⟨(ad.add (i * 3)).block, (ad.add (i * 3)).off + 2, none⟩ = some (.slice A2 C.length c2) := (hb.out.cell (p := ⟨(ad.add (i * 3)).block, (ad.add (i * 3)).off + 2, none⟩) (World.block_lt_of_cell? w3 _ y2)).trans y2
      clear x0 x1 x2 x3 x4 x5 y2 hb
      obtain ⟨x0, x1, x2, x3, x4, x5⟩ := cells3 HX.out
      cases b
      · go_wp2_with (fail)
        go_ret2
        exact ⟨_, [], 4, rfl, ⟨Kd.R_nil _ _ _ _ _, by simp⟩, HB4⟩
      · obtain ⟨j, rfl⟩ : ∃ k : Nat, j = (k : Int) := ⟨j.toNat, by have := hj.out.1; omega⟩
        have j0 : (0 : Int) ≤ (j : Int) := by omega
        have j1 : (j : Int) < (C.length : Int) := hj.out.2.2 rfl
        obtain ⟨ad2, A3, c3, e, z0, z1, z2, z3⟩ := at_T59 HCC.out (j : Int) j0 j1
        subst e
        rw [Int.toNat_natCast] at z0 z1
        have HVO := Aside0.mk (HIO.out.2.2.2.2.2 (rd_T59 C (j : Int)) (by
          show rd_T59 C (j : Int) ∈ C
          unfold rd_T59
          rw [Int.toNat_natCast, List.getD_eq_getElem?_getD, List.getElem?_eq_getElem (by omega)]
          exact List.getElem_mem _))
        have HZ := Aside0.mk (And.intro z2 z3)
        generalize rd_T59 C (j : Int) = ct at z0 z1 HVO HZ
        obtain ⟨ck, V⟩ := ct
        replace z1 : w4.cell? ⟨(ad2.add (j * 2)).block, (ad2.add (j * 2)).off + 1, none⟩ = some (.slice A3 V.length c3) := z1
        replace HZ : Aside0 (V.length ≤ c3 ∧ Kd.C (Kd.int .i64) w4 A3 V.length V) := HZ
        replace HVO : Aside0 (COK1 ⟨ck, V⟩) := HVO
        clear z2 z3 z0 hj
        have hv3 : V.length ≤ 3 := HVO.out.2.2.1
        go_wp2_with (fail)
        refine (slices_Clone_int_int.calls A3 c3 V V w4 HZ.out.2 HZ.out.1 (by unfold slices_Clone_int_int.f; rw [if_pos (by omega)])).mono ?_
        rintro e w5 ⟨v5, rfl, hR5, hb5⟩
        obtain ⟨A5, c5, hv5⟩ := Kd.R_slice hR5
        subst hv5
        have HR5 := Aside0.mk (Kd.R_lower hR5 HB4.out.size)
        have HB5 := Aside0.mk (below_step HB4.out hb5)
        clear hR5 hb5
        go_wp2_with (fail)
        go_ret2
        exact ⟨_, V, 0, rfl, ⟨HR5.out, hv3⟩, HB5⟩
  · have d0 : (rc != 0) = true := by simpa using h0
    go_wp2_with (fail)
    go_ret2
    exact ⟨_, [], rc, rfl, ⟨Kd.R_nil _ _ _ _ _, by simp⟩, HB⟩

end Go.Proofs.Ytlbicibihdkpnaa.P
namespace Go.Proofs.Ytlbicibihdkpnaa.P
open Go.RowKit Go.Proofs.YtlbicibihdkpnaaW.PrintWords Go.Proofs.YtlbicibihdkpnaaW.PrintLast Go.Proofs.YtlbicibihdkpnaaW.PrintMore
set_option linter.unusedVariables false
set_option linter.unusedSimpArgs false

theorem wrap_succ (i : Nat) (h : i < 1000000) : wrap64 ((i : Int) + 1) = ((i + 1 : Nat) : Int) := by unfold wrap64; omega
theorem Name_l0 (s : ByteArray) (hs : s.size ≤ 16) : ∀ (d i k : Nat), i + d = s.size → d < k → ∃ b, kind_Name.l0 k s (s.size : Int) (i : Int) = some b := by
  intro d
  induction d with
  | zero =>
    intro i k h1 h2
    obtain ⟨k, rfl⟩ : ∃ q, k = q + 1 := ⟨k - 1, by omega⟩
    exact ⟨true, by rw [kind_Name.l0, if_neg (by omega)]⟩
  | succ d ih =>
    intro i k h1 h2
    obtain ⟨k, rfl⟩ : ∃ q, k = q + 1 := ⟨k - 1, by omega⟩
    obtain ⟨b, hb⟩ := ih (i + 1) k (by omega) (by omega)
    rw [kind_Name.l0, if_pos (by omega), if_pos (by omega), if_pos (by omega), wrap_succ i (by omega), hb]
    repeat' split
    all_goals exact ⟨_, rfl⟩
theorem Name_some (s : ByteArray) (hs : s.size ≤ 16) (k : Nat) (hk : 20 ≤ k) : ∃ b, kind_Name.f k s = some b := by
  obtain ⟨k, rfl⟩ : ∃ q, k = q + 1 := ⟨k - 1, by omega⟩
  unfold kind_Name.f
  obtain ⟨b, hb⟩ := Name_l0 s hs s.size 0 k (by omega) (by omega)
  by_cases h0 : (s.size : Int) = 0
  · rw [if_pos h0]; exact ⟨false, by rw [kind_Name.j0, if_pos rfl]⟩
  · rw [if_neg h0, decide_eq_false (by omega)]
    exact ⟨b, by rw [kind_Name.j0, if_neg (by decide)]; exact hb⟩
theorem field_some (s : ByteArray) (b l : Int) (hs : s.size ≤ 16) (k : Nat) (hk : 20 ≤ k) : ∃ e, kind_field.f k s b l = some e := by
  obtain ⟨t, ht⟩ := Name_some s hs k hk
  unfold kind_field.f
  rw [ht, Option.bind_some]
  repeat' split
  all_goals exact ⟨_, rfl⟩
theorem Find_l0 (s : ByteArray) (l : List S55) (hl : l.length ≤ 16) : ∀ (d i k : Nat), i + d = l.length → d < k → ∃ r, kind_Find.l0 k s l (l.length : Int) (i : Int) = some r := by
  intro d
  induction d with
  | zero =>
    intro i k h1 h2
    obtain ⟨k, rfl⟩ : ∃ q, k = q + 1 := ⟨k - 1, by omega⟩
    exact ⟨-1, by rw [kind_Find.l0, if_neg (by omega)]⟩
  | succ d ih =>
    intro i k h1 h2
    obtain ⟨k, rfl⟩ : ∃ q, k = q + 1 := ⟨k - 1, by omega⟩
    obtain ⟨b, hb⟩ := ih (i + 1) k (by omega) (by omega)
    rw [kind_Find.l0, if_pos (by omega), if_pos (by omega), if_pos (by omega), wrap_succ i (by omega), hb]
    repeat' split
    all_goals exact ⟨_, rfl⟩
theorem Find_some (l : List S55) (s : ByteArray) (hl : l.length ≤ 16) (k : Nat) (hk : 20 ≤ k) : ∃ r, kind_Find.f k l s = some r := by
  unfold kind_Find.f
  exact Find_l0 s l hl l.length 0 k (by omega) (by omega)
theorem One_l (L : List S52) (hL : L.length ≤ 8) (hn : ∀ i : Nat, i < L.length → (rd_T52 L i).f0.size ≤ 16) (nm : ByteArray) : ∀ (d i k : Nat), i + d = L.length → 40 + 12 * d ≤ k → ∃ r, kind_One.l0 k L (L.length : Int) (i : Int) nm L = some r := by
  intro d
  induction d with
  | zero =>
    intro i k h1 h2
    obtain ⟨k, rfl⟩ : ∃ q, k = q + 1 := ⟨k - 1, by omega⟩
    exact ⟨0, by rw [kind_One.l0, if_neg (by omega)]⟩
  | succ d ih =>
    intro i k h1 h2
    obtain ⟨k, rfl⟩ : ∃ q, k = q + 1 := ⟨k - 1, by omega⟩
    have inner : ∀ (e j k : Nat), j + e = (L.take i).length → 40 + 12 * d + e < k → ∃ r, kind_One.l1 k L (L.length : Int) (i : Int) (L.take i) ((L.take i).length : Int) (j : Int) nm L (rd_T52 L i).f0 (rd_T52 L i).f1 (rd_T52 L i).f2 = some r := by
      intro e
      induction e with
      | zero =>
        intro j k g1 g2
        obtain ⟨k, rfl⟩ : ∃ q, k = q + 1 := ⟨k - 1, by omega⟩
        obtain ⟨r, hr⟩ := ih (i + 1) k (by omega) (by omega)
        exact ⟨r, by rw [kind_One.l1, if_neg (by omega), wrap_succ i (by omega), hr]⟩
      | succ e ihe =>
        intro j k g1 g2
        obtain ⟨k, rfl⟩ : ∃ q, k = q + 1 := ⟨k - 1, by omega⟩
        have hj : j < 9 := by have := List.length_take_le i L; omega
        obtain ⟨r, hr⟩ := ihe (j + 1) k (by omega) (by omega)
        rw [kind_One.l1, if_pos (by omega), if_pos (by omega), if_pos (by omega), wrap_succ j (by omega), hr]
        split
        all_goals exact ⟨_, rfl⟩
    obtain ⟨t, ht⟩ := field_some (rd_T52 L i).f0 (rd_T52 L i).f1 (rd_T52 L i).f2 (hn i (by omega)) k (by omega)
    obtain ⟨r, hr⟩ := inner (L.take i).length 0 k (by omega) (by rw [List.length_take]; omega)
    rw [kind_One.l0, if_pos (by omega), if_pos (by omega), if_pos (by omega), ht, Option.bind_some]
    by_cases h0 : t = 0
    · rw [if_pos h0, if_pos (by omega), Option.bind_some, Int.toNat_natCast]
      exact ⟨r, hr⟩
    · rw [if_neg h0]; exact ⟨_, rfl⟩
theorem One_some (nm : ByteArray) (L : List S52) (hm : nm.size ≤ 16) (hL : L.length ≤ 8) (hn : ∀ f ∈ L, f.f0.size ≤ 16) (k : Nat) (hk : 200 ≤ k) : ∃ r, kind_One.f k nm L = some r := by
  obtain ⟨t, ht⟩ := Name_some nm hm k (by omega)
  obtain ⟨r, hr⟩ := One_l L hL (fun i hi => hn _ (rd52_mem hi)) nm L.length 0 k (by omega) (by omega)
  unfold kind_One.f
  rw [ht, Option.bind_some]
  repeat' split
  all_goals first | exact ⟨_, rfl⟩ | exact ⟨r, hr⟩

theorem Check_l (K : List S55) (hK : K.length ≤ 16) (hm : ∀ x ∈ K, x.f0.size ≤ 16 ∧ x.f1.length ≤ 8 ∧ ∀ f ∈ x.f1, f.f0.size ≤ 16) : ∀ (d i k : Nat), i + d = K.length → 210 + d ≤ k → ∃ r, kind_Check.l0 k K K (K.length : Int) (i : Int) = some r := by
  intro d
  induction d with
  | zero =>
    intro i k h1 h2
    obtain ⟨k, rfl⟩ : ∃ q, k = q + 1 := ⟨k - 1, by omega⟩
    exact ⟨0, by rw [kind_Check.l0, if_neg (by omega)]⟩
  | succ d ih =>
    intro i k h1 h2
    obtain ⟨k, rfl⟩ : ∃ q, k = q + 1 := ⟨k - 1, by omega⟩
    obtain ⟨r, hr⟩ := ih (i + 1) k (by omega) (by omega)
    have hx := hm _ (rd55_mem (K := K) (i := i) (by omega))
    obtain ⟨t, ht⟩ := One_some (rd_T55 K i).f0 (rd_T55 K i).f1 hx.1 hx.2.1 hx.2.2 k (by omega)
    obtain ⟨u, hu⟩ := Find_some (K.take i) (rd_T55 K i).f0 (by rw [List.length_take]; omega) k (by omega)
    rw [kind_Check.l0, if_pos (by omega), if_pos (by omega), if_pos (by omega), ht, Option.bind_some]
    by_cases h0 : t = 0
    · rw [if_pos h0, if_pos (by omega), Int.toNat_natCast, hu, Option.bind_some, wrap_succ i (by omega), hr]
      split
      all_goals exact ⟨_, rfl⟩
    · rw [if_neg h0]; exact ⟨_, rfl⟩
theorem Check_some (K : List S55) (hK : K.length ≤ 16) (hm : ∀ x ∈ K, x.f0.size ≤ 16 ∧ x.f1.length ≤ 8 ∧ ∀ f ∈ x.f1, f.f0.size ≤ 16) (k : Nat) (hk : 300 ≤ k) : ∃ r, kind_Check.f k K = some r := by
  unfold kind_Check.f
  rw [if_neg (by omega)]
  exact Check_l K hK hm K.length 0 k (by omega) (by omega)
theorem High_some (s : ByteArray) (b l : Int) (hs : s.size ≤ 16) (k : Nat) (hk : 20 ≤ k) (hb : 0 ≤ b) : ∃ e, kind_High.f k s b l = some e := by
  obtain ⟨t, ht⟩ := field_some s b l hs k hk
  unfold kind_High.f
  rw [ht, Option.bind_some, if_pos hb]
  split
  all_goals exact ⟨_, rfl⟩
theorem Near_some (s : ByteArray) (b l v : Int) (hs : s.size ≤ 16) (k : Nat) (hk : 20 ≤ k) (hb : 0 ≤ b) : ∃ e, kind_Near.f k s b l v = some e := by
  obtain ⟨t, ht⟩ := field_some s b l hs k hk
  obtain ⟨u, hu⟩ := High_some s b l hs k hk hb
  unfold kind_Near.f
  rw [ht, Option.bind_some, hu, Option.bind_some]
  split
  all_goals exact ⟨_, rfl⟩
theorem Fit_l (L : List S52) (V : List Int) (hL : L.length ≤ 8) (hV : V.length = L.length) (hn : ∀ f ∈ L, f.f0.size ≤ 16 ∧ 0 ≤ f.f1) : ∀ (d i k : Nat) (O : List Int), O.length = V.length → i + d = L.length → 21 + d ≤ k → ∃ r, kind_Fit.l0 k V O L (L.length : Int) (i : Int) = some (r, 0) ∧ r.length = V.length := by
  intro d
  induction d with
  | zero =>
    intro i k O hO h1 h2
    obtain ⟨k, rfl⟩ : ∃ q, k = q + 1 := ⟨k - 1, by omega⟩
    exact ⟨O, by rw [kind_Fit.l0, if_neg (by omega)], hO⟩
  | succ d ih =>
    intro i k O hO h1 h2
    obtain ⟨k, rfl⟩ : ∃ q, k = q + 1 := ⟨k - 1, by omega⟩
    have hx := hn _ (rd52_mem (K := L) (i := i) (by omega))
    obtain ⟨t, ht⟩ := Near_some (rd_T52 L i).f0 (rd_T52 L i).f1 (rd_T52 L i).f2 (rd V i) hx.1 k (by omega) hx.2
    obtain ⟨r, hr, hrl⟩ := ih (i + 1) k (O.set i t) (by rw [List.length_set]; exact hO) (by omega) (by omega)
    refine ⟨r, ?_, hrl⟩
    rw [kind_Fit.l0, if_pos (by omega), if_pos (by omega), if_pos (by omega), if_pos (by omega), ht, Option.bind_some, if_pos (by omega), wrap_succ i (by omega), Int.toNat_natCast, hr]
theorem Fit_some (nm : ByteArray) (L : List S52) (V : List Int) (hm : nm.size ≤ 16) (hL : L.length ≤ 8) (hV : V.length ≤ 8) (hn : ∀ f ∈ L, f.f0.size ≤ 16 ∧ 0 ≤ f.f1) (k : Nat) (hk : 200 ≤ k) : ∃ r e, kind_Fit.f k nm L V = some (r, e) ∧ (e = 0 → r.length = V.length) := by
  obtain ⟨t, ht⟩ := One_some nm L hm hL (fun f hf => (hn f hf).1) k hk
  unfold kind_Fit.f
  rw [ht, Option.bind_some]
  by_cases h0 : t = 0
  · rw [if_pos h0]
    by_cases h1 : (V.length : Int) = (L.length : Int)
    · rw [if_pos h1, if_pos (by omega), if_pos (by omega), Int.toNat_natCast]
      obtain ⟨r, hr, hrl⟩ := Fit_l L V hL (by omega) hn L.length 0 k (List.replicate V.length 0) (by simp) (by omega) (by omega)
      exact ⟨r, 0, hr, fun _ => hrl⟩
    · rw [if_neg h1]; exact ⟨_, _, rfl, fun h => absurd h (by decide)⟩
  · rw [if_neg h0]; exact ⟨_, _, rfl, fun h => absurd h h0⟩
theorem Holds_l (V R : List Int) (hl : R.length = V.length) (hV : V.length ≤ 8) : ∀ (d i k : Nat), i + d = R.length → d < k → ∃ b, kind_Holds.l0 k V R (R.length : Int) (i : Int) = some b := by
  intro d
  induction d with
  | zero =>
    intro i k h1 h2
    obtain ⟨k, rfl⟩ : ∃ q, k = q + 1 := ⟨k - 1, by omega⟩
    exact ⟨true, by rw [kind_Holds.l0, if_neg (by omega)]⟩
  | succ d ih =>
    intro i k h1 h2
    obtain ⟨k, rfl⟩ : ∃ q, k = q + 1 := ⟨k - 1, by omega⟩
    obtain ⟨b, hb⟩ := ih (i + 1) k (by omega) (by omega)
    rw [kind_Holds.l0, if_pos (by omega), if_pos (by omega), if_pos (by omega), if_pos (by omega), wrap_succ i (by omega), hb]
    split
    all_goals exact ⟨_, rfl⟩
theorem Holds_some (nm : ByteArray) (L : List S52) (V : List Int) (hm : nm.size ≤ 16) (hL : L.length ≤ 8) (hV : V.length ≤ 8) (hn : ∀ f ∈ L, f.f0.size ≤ 16 ∧ 0 ≤ f.f1) (k : Nat) (hk : 200 ≤ k) : ∃ b, kind_Holds.f k nm L V = some b := by
  obtain ⟨r, e, hr, hl⟩ := Fit_some nm L V hm hL hV hn k hk
  unfold kind_Holds.f
  rw [hr, Option.bind_some]
  by_cases h0 : e = 0
  · rw [if_pos h0]
    exact Holds_l V r (hl h0) hV r.length 0 k (by omega) (by have := hl h0; omega)
  · rw [if_neg h0]; exact ⟨_, rfl⟩
theorem rd59_mem {C : List S59} {i : Nat} (hi : i < C.length) : rd_T59 C i ∈ C := by
  unfold rd_T59
  rw [Int.toNat_natCast, List.getD_eq_getElem?_getD, List.getElem?_eq_getElem hi]
  exact List.getElem_mem hi
theorem rd34_mem {C : List S34} {i : Nat} (hi : i < C.length) : rd_T34 C i ∈ C := by
  unfold rd_T34
  rw [Int.toNat_natCast, List.getD_eq_getElem?_getD, List.getElem?_eq_getElem hi]
  exact List.getElem_mem hi
theorem held_l (K : List S55) (C : List S59) (hK : KOK K) (hC : COK C) (hl : C.length ≤ 4) : ∀ (d i k : Nat) (x : Int), -1 ≤ x → i + d = C.length → 201 + d ≤ k → ∃ b, world_held.l0 k K x C (C.length : Int) (i : Int) = some b := by
  intro d
  induction d with
  | zero =>
    intro i k x hx h1 h2
    obtain ⟨k, rfl⟩ : ∃ q, k = q + 1 := ⟨k - 1, by omega⟩
    exact ⟨true, by rw [world_held.l0, if_neg (by omega)]⟩
  | succ d ih =>
    intro i k x hx h1 h2
    obtain ⟨k, rfl⟩ : ∃ q, k = q + 1 := ⟨k - 1, by omega⟩
    have hc := hC _ (rd59_mem (C := C) (i := i) (by omega))
    rw [world_held.l0, if_pos (by omega), if_pos (by omega), if_pos (by omega), wrap_succ i (by omega)]
    by_cases g1 : (rd_T59 C i).f0 ≤ x
    · rw [if_pos g1]; exact ⟨_, rfl⟩
    · rw [if_neg g1]
      by_cases g2 : (rd_T59 C i).f0 ≥ (K.length : Int)
      · rw [if_pos g2]; exact ⟨_, rfl⟩
      · rw [if_neg g2, if_pos (by omega), if_pos (by omega)]
        obtain ⟨n, hn⟩ : ∃ n : Nat, (rd_T59 C i).f0 = (n : Int) := ⟨(rd_T59 C i).f0.toNat, by omega⟩
        have hk := hK _ (rd55_mem (K := K) (i := n) (by omega))
        obtain ⟨b, hb⟩ := ih (i + 1) k (rd_T59 C i).f0 (by omega) (by omega) (by omega)
        rw [hn] at hb ⊢
        obtain ⟨t, ht⟩ := Holds_some (rd_T55 K n).f0 (rd_T55 K n).f1 (rd_T59 C i).f1 (by have := hk.1; omega) (by have := hk.2.1; omega) (by have := hc.2.2.1; omega) (fun f hf => ⟨by have := (hk.2.2 f hf).1; omega, by have := (hk.2.2 f hf).2.1; omega⟩) k (by omega)
        rw [ht, Option.bind_some, hb]
        split
        all_goals exact ⟨_, rfl⟩
theorem held_some (K : List S55) (C : List S59) (hK : KOK K) (hC : COK C) (hl : C.length ≤ 4) (k : Nat) (hk : 300 ≤ k) : ∃ b, world_held.f k K C = some b := by
  unfold world_held.f
  exact held_l K C hK hC hl C.length 0 k (-1) (by omega) (by omega) (by omega)
theorem wc_l1 (K : List S55) (G : List Int) (I : List S34) (h : WorldOK K G I) : ∀ (d i k : Nat) (x : Int), -1 ≤ x → i + d = I.length → 301 + d ≤ k → ∃ b, world_Check.l1 k x I (I.length : Int) (i : Int) K G I = some b := by
  intro d
  induction d with
  | zero =>
    intro i k x hx h1 h2
    obtain ⟨k, rfl⟩ : ∃ q, k = q + 1 := ⟨k - 1, by omega⟩
    exact ⟨0, by rw [world_Check.l1, if_neg (by omega)]⟩
  | succ d ih =>
    intro i k x hx h1 h2
    obtain ⟨k, rfl⟩ : ∃ q, k = q + 1 := ⟨k - 1, by omega⟩
    have hi8 := h.2.2.2.2.2.1
    have hc := h.2.2.2.2.2.2 _ (rd34_mem (C := I) (i := i) (by omega))
    obtain ⟨b, hb⟩ := held_some K (rd_T34 I i).f1 h.2.2.1 hc.2.2.2.2.2 hc.2.2.2.2.1 k (by omega)
    obtain ⟨r, hr⟩ := ih (i + 1) k (rd_T34 I i).f0.f0 (by have := hc.1; omega) (by omega) (by omega)
    rw [world_Check.l1, if_pos (by omega), if_pos (by omega), if_pos (by omega), wrap_succ i (by omega), hb, Option.bind_some, hr]
    by_cases g1 : (rd_T34 I i).f0.f0 ≤ x
    · rw [if_pos g1]; exact ⟨_, rfl⟩
    · rw [if_neg g1]
      by_cases g2 : (rd_T34 I i).f0.f0 ≥ (G.length : Int)
      · rw [if_pos g2]; exact ⟨_, rfl⟩
      · rw [if_neg g2, if_pos hc.1, if_pos (by omega)]
        repeat' split
        all_goals exact ⟨_, rfl⟩
theorem wc_l0 (K : List S55) (G : List Int) (I : List S34) (h : WorldOK K G I) : ∀ (d i k : Nat), i + d = G.length → 320 + d ≤ k → ∃ b, world_Check.l0 k G (G.length : Int) (i : Int) K G I = some b := by
  intro d
  induction d with
  | zero =>
    intro i k h1 h2
    obtain ⟨k, rfl⟩ : ∃ q, k = q + 1 := ⟨k - 1, by omega⟩
    have hi8 := h.2.2.2.2.2.1
    obtain ⟨r, hr⟩ := wc_l1 K G I h I.length 0 k (-1) (by omega) (by omega) (by omega)
    exact ⟨r, by rw [world_Check.l0, if_neg (by omega)]; exact hr⟩
  | succ d ih =>
    intro i k h1 h2
    obtain ⟨k, rfl⟩ : ∃ q, k = q + 1 := ⟨k - 1, by omega⟩
    have hg := h.2.2.2.1
    obtain ⟨r, hr⟩ := ih (i + 1) k (by omega) (by omega)
    rw [world_Check.l0, if_pos (by omega), if_pos (by omega), if_pos (by omega), wrap_succ i (by omega), hr]
    repeat' split
    all_goals exact ⟨_, rfl⟩
theorem world_some (K : List S55) (G : List Int) (I : List S34) (h : WorldOK K G I) (k : Nat) (hk : 400 ≤ k) : ∃ r, world_Check.f k K G I = some r := by
  obtain ⟨k, rfl⟩ : ∃ q, k = q + 1 := ⟨k - 1, by omega⟩
  obtain ⟨t, ht⟩ := Check_some K (by have := h.2.1; omega) (fun x hx => ⟨by have := (h.2.2.1 x hx).1; omega, by have := (h.2.2.1 x hx).2.1; omega, fun f hf => by have := ((h.2.2.1 x hx).2.2 f hf).1; omega⟩) (k + 1) (by omega)
  have hg := h.2.2.2.1
  obtain ⟨r, hr⟩ := wc_l0 K G I h G.length 0 k (by omega) (by omega)
  unfold world_Check.f
  rw [ht, Option.bind_some, if_neg (show ¬ ((G.length : Int) > 256) by omega)]
  by_cases h0 : t = 0
  · rw [if_pos h0, world_Check.j0]
    split
    · exact ⟨_, rfl⟩
    · exact ⟨r, hr⟩
  · rw [if_neg h0]; exact ⟨_, rfl⟩

end Go.Proofs.Ytlbicibihdkpnaa.P
namespace Go.Proofs.Ytlbicibihdkpnaa.P
open Go.RowKit Go.Proofs.YtlbicibihdkpnaaW.PrintWords Go.Proofs.YtlbicibihdkpnaaW.PrintLast Go.Proofs.YtlbicibihdkpnaaW.PrintMore
set_option linter.unusedVariables false
set_option linter.unusedSimpArgs false

/-- The list that Ints makes: its variable is the box g3. -/
structure Out (w0 W : World) (g3 : Nat) (L : List Int) (v : Value) : Prop where
  x : W.heap[g3]? = some (.cells #[v] 22 (0, 0))
  r : Kd.R (Kd.int .i64) 3 W w0.heap.size (fun _ => True) v L
  b : Below w0.heap.size w0 W
  g : w0.heap.size ≤ g3
/-- what is no row of numbers, and not the box, lies as it lay -/
def Fo (W W' : World) (g3 : Nat) : Prop := W.heap.size ≤ W'.heap.size ∧ ∀ k cs t, W.heap[k]? = some (.cells cs t (0, 0)) → t ≠ 3 → k ≠ g3 → W'.heap[k]? = some (.cells cs t (0, 0))
section
variable {w0 W W' w1 : World} {g3 : Nat} {L ys : List Int} {v v1 : Value}
theorem Fo.refl (W : World) (g3 : Nat) : Fo W W g3 := ⟨Nat.le_refl _, fun _ _ _ h _ _ => h⟩
theorem Fo.trans {a b c : World} (h : Fo a b g3) (k : Fo b c g3) : Fo a c g3 := ⟨Nat.le_trans h.1 k.1, fun i cs t h1 h2 h3 => k.2 i cs t (h.2 i cs t h1 h2 h3) h2 h3⟩
theorem Fo.of_below (h : Below W.heap.size W W') : Fo W W' g3 := ⟨h.size, fun k cs t h1 _ _ => (h.block k (blk_lt h1)).trans h1⟩
theorem Out.below (h : Out w0 W g3 L v) (hb : Below W.heap.size W W') : Out w0 W' g3 L v :=
  ⟨(hb.block g3 (blk_lt h.x)).trans h.x, Kd.R_below h.r hb, h.b.trans (hb.mono h.b.size), h.g⟩
theorem Out.app (h : Out w0 W g3 L v) (ho : Kd.R (Kd.int .i64) 3 w1 w0.heap.size (fun _ => True) v1 (L ++ ys)) (hb : Below w0.heap.size w0 w1) (hg : W.grownBy w1 v.ownBlock) :
    Out w0 (w1.setCell ⟨g3, 0, none⟩ v1) g3 (L ++ ys) v1 ∧ Fo W (w1.setCell ⟨g3, 0, none⟩ v1) g3 := by
  have hx := blk_grown h.x hg (Kd.R_ne h.r h.x (by decide))
  exact ⟨⟨by simpa using blk_set hx 0 v1, Kd.R_set ho hx (by intro q hq; simp [Kd.int, Kd.scalar] at hq; subst hq; decide) 0 v1, hb.setCell (p := ⟨g3, 0, none⟩) h.g v1, h.g⟩,
    by rw [World.size_setCell]; exact hg.size, fun k cs t h1 h2 h3 => blk_far (blk_grown h1 hg (Kd.R_ne h.r h1 (Ne.symm h2))) h3 v1⟩
theorem Out.cell (h : Out w0 W g3 L v) : W.cell? ⟨g3, 0, none⟩ = some v ∧ W.frozen? ⟨g3, 0, none⟩ = false := ⟨(blk_cell h.x 0).trans rfl, blk_frozen h.x 0⟩
theorem grown_cell (h : Out w0 W g3 L v) (hg : W.grownBy w1 v.ownBlock) : w1.heap[g3]? = some (.cells #[v] 22 (0, 0)) := blk_grown h.x hg (Kd.R_ne h.r h.x (by decide))
end
theorem R_slice3 {α : Type} {d : Kd α} {e base : Nat} {w : World} {ok : Nat → Prop} {v : Value} {xs : List α} (h : d.R e w base ok v xs) : ∃ n A c, v = .slice A n c := by
  obtain ⟨A, c, h⟩ := Kd.R_slice h
  exact ⟨_, A, c, h⟩
theorem take_byte (s : ByteArray) (i : Nat) (h : i < s.size) : (bytesOf s).take (i + 1) = (bytesOf s).take i ++ [bt s (i : Int)] := by
  have hl : i < (bytesOf s).length := by rw [bytesOf_length]; exact h
  rw [List.take_succ_eq_append_getElem hl]
  congr 2
  have := rd_bytesOf s (i : Int)
  unfold rd at this
  rw [Int.toNat_natCast, List.getD_eq_getElem?_getD, List.getElem?_eq_getElem hl] at this
  exact this
def nameI (s : ByteArray) : List Int := (s.size : Int) :: bytesOf s
def NameP (w0 w : World) (g3 : Nat) (L : List Int) (e : Ending) (w' : World) : Prop := e = .returned (.tuple #[]) ∧ ∃ v, Aside0 (Out w0 w' g3 L v) ∧ Aside0 (Fo w w' g3)
set_option maxHeartbeats 4000000 in
set_option maxRecDepth 100000 in
theorem T_name (w w0 : World) (g3 : Nat) (L : List Int) (v : Value) (s : ByteArray) (hs : s.size ≤ 100) (hl : L.length ≤ 10000) (h : Out w0 w g3 L v) :
    Calls Try.prog 57 #[.string s, .pointer (some ⟨g3, 0, none⟩)] w (NameP w0 w g3 (L ++ nameI s)) := by
  have HO := Aside0.mk h
  obtain ⟨c0, z0⟩ := h.cell
  have HL := Aside0.mk hl
  clear h hl
  go_enter Try.func57, Try.ntmps57
  go_wp2_with (((with_reducible refine gate_builtin (b := .append) (xs := #[.tmp 4, .tmp 7]) rfl ?_); at_builtin; refine Kd.R_append (Kd.int .i64) (w0 := w0) w0.heap.size rfl (.tmp 4) (.tmp 7) 22 3 (.int .i64 0) 8 rfl Try.underlying22 info3' rfl (by decide) (by decide) v L (s.size : Int) [.int .i64 (s.size : Int)] (fun _ => True) (fun _ => False) rfl rfl ?aP (fun _ hk => hk.elim) (fun _ _ => trivial) ?aO ?aB ?aS ?aL ?_; (case aP => rfl); (case aO => exact HO.out.r); (case aB => exact HO.out.b); (case aS => exact below_size HO.out.b); (case aL => have := HL.out; omega); intro v1 w1 ho hb hg hat; obtain ⟨n9, A9, c9, hv9⟩ := R_slice3 ho; subst hv9; have HA := Aside0.mk (HO.out.app ho hb hg); have hx := grown_cell HO.out hg; have y0 := (blk_cell hx 0).trans rfl; have y1 := blk_frozen hx 0; clear ho hb hg hat hx))
  go_loopg [11] s.size (fun kq v11 w' => ∃ (i : Nat) (v : Value), v11 = .int .i64 (i : Int) ∧ Aside0 (kq = s.size - i ∧ i ≤ s.size) ∧ Aside0 (Out w0 w' g3 (L ++ [(s.size : Int)] ++ (bytesOf s).take i) v ∧ Fo w w' g3))
  case atStart => exact ⟨0, _, rfl, ⟨by omega, by omega⟩, ⟨by rw [List.take_zero, List.append_nil]; exact HA.out.1, HA.out.2⟩⟩
  case round =>
    clear y0 y1 HA c0 z0
    obtain ⟨i, v2, rfl, HI, HW⟩ := hrel
    by_cases hi : i < s.size
    · have i0 : (0 : Int) ≤ (i : Int) := by omega
      have i1 : (i : Int) < (s.size : Int) := by omega
      obtain ⟨c0, z0⟩ := HW.out.1.cell
      have hb8 : (s[i].toNat : Int) = bt s (i : Int) := bt_at s (i : Int) (by simpa using hi)
      have hb9 : IntKind.i64.wrap (bt s (i : Int)) = bt s (i : Int) := by have := bt_range s (i : Int); rw [IntKind.wrap_i64]; omega
      have HD := Aside0.mk (show Out w0 wr.drew g3 (L ++ [(s.size : Int)] ++ (bytesOf s).take i) v2 from HW.out.1.below (below_drew (Below.refl _ _)))
      have c0a : (wr.alloc (.cells #[.int .i64 (bt s (i : Int))] 3)).cell? ⟨g3, 0, none⟩ = some v2 := ((below_alloc (Below.refl _ _) _).cell (p := ⟨g3, 0, none⟩) (blk_lt HW.out.1.x)).trans c0
      have hl3 : ((L ++ [(s.size : Int)] ++ (bytesOf s).take i).length + 1) * 8 ≤ 140737488355328 := by
        have := HL.out
        simp only [List.length_append, List.length_singleton, List.length_take]
        omega
      go_upto_region 4 with (fail)
      go_region_law (refine Kd.R_append_step (Kd.int .i64) (w0 := w0) (W := wr.drew) w0.heap.size (by first | rfl | kernel_rfl) (.tmp 14) (.tmp 19) 22 3 (.int .i64 0) 8 rfl Try.underlying22 info3' rfl (by decide) (by decide) v2 (L ++ [(s.size : Int)] ++ (bytesOf s).take i) (bt s (i : Int)) [.int .i64 (bt s (i : Int))] (fun _ => True) (fun _ => False) rfl rfl rfl (fun _ hk => hk.elim) (fun _ _ => trivial) HD.out.r HD.out.b (below_size HD.out.b) hl3 ?_; intro v1 w1 ho hb hg hat; obtain ⟨n9, A9, c9, hv9⟩ := R_slice3 ho; subst hv9; have HA := Aside0.mk (HD.out.app ho hb hg); have hx := grown_cell HD.out hg; have y0 := (blk_cell hx 0).trans rfl; have y1 := blk_frozen hx 0; clear ho hb hg hat hx)
      all_goals
        go_wp2
        go_roundg (s.size - (i + 1))
        case measure => have := HI.out.1; omega
        case rel =>
          refine ⟨i + 1, .slice A9 n9 c9, congrArg (Value.int .i64) (by omega), ⟨by omega, by omega⟩, ⟨?_, ?_⟩⟩
          · rw [take_byte s i hi, ← List.append_assoc]; exact HA.out.1
          · exact (HW.out.2.trans (Fo.of_below (below_drew (Below.refl _ _)))).trans HA.out.2
    · have i1 : ¬ ((i : Int) < (s.size : Int)) := by omega
      go_wp2_with (fail)
      go_end0
      refine ⟨rfl, v2, ⟨?_⟩, ⟨HW.out.2⟩⟩
      have := HW.out.1
      have hi2 : i = s.size := by have := HI.out.2; omega
      rw [hi2, List.take_of_length_le (by rw [bytesOf_length]; exact Nat.le_refl _), List.append_assoc] at this
      exact this
end Go.Proofs.Ytlbicibihdkpnaa.P
namespace Go.Proofs.Ytlbicibihdkpnaa.P
open Go.RowKit Go.Proofs.YtlbicibihdkpnaaW.PrintWords Go.Proofs.YtlbicibihdkpnaaW.PrintLast Go.Proofs.YtlbicibihdkpnaaW.PrintMore
set_option linter.unusedVariables false
set_option linter.unusedSimpArgs false

def fieldI (f : S52) : List Int := nameI f.f0 ++ [f.f1, f.f2]
def kindI (x : S55) : List Int := nameI x.f0 ++ ([(x.f1.length : Int)] ++ x.f1.flatMap fieldI)
def compI (c : S59) : List Int := [c.f0, (c.f1.length : Int)] ++ c.f1
def itemI (x : S34) : List Int := [x.f0.f0, x.f0.f1, (x.f1.length : Int)] ++ x.f1.flatMap compI
def tailG (G : List Int) (I : List S34) : List Int := [(G.length : Int)] ++ (G ++ ([(I.length : Int)] ++ I.flatMap itemI))
def intsW (K : List S55) (G : List Int) (I : List S34) : List Int := [(K.length : Int)] ++ (K.flatMap kindI ++ tailG G I)
theorem drop_flat {α : Type} (l : List α) (z : α) (f : α → List Int) (i : Nat) (h : i < l.length) : (l.drop i).flatMap f = f (l.getD i z) ++ (l.drop (i + 1)).flatMap f := by
  rw [List.drop_eq_getElem_cons h, List.flatMap_cons, List.getD_eq_getElem?_getD, List.getElem?_eq_getElem h]
  rfl
theorem drop_end {α : Type} (l : List α) (f : α → List Int) (i : Nat) (h : l.length ≤ i) : (l.drop i).flatMap f = [] := by
  rw [List.drop_eq_nil_of_le h]; rfl
section
variable {ops : Array Oper} {rest : List Oper} {o : Oper} {a : Act} {Q : Exit → Act → World → Prop} {w0 W : World} {g3 : Nat} {L : List Int} {v : Value}
theorem C_lit (W : World) (base : Nat) (hb : base ≤ W.heap.size) (ys : List Int) (h : ys.length ≤ 1000) : Kd.R (Kd.int .i64) 3 (W.alloc (.cells (nums .i64 ys).toArray 3)) base (fun _ => True) (.slice (some ⟨W.heap.size, 0, none⟩) ys.length ys.length) ys :=
  Kd.R_of_own (own_lit W base 3 .i64 ys hb (by omega)) (fun _ _ => trivial)
theorem I_apps (hO : Out w0 W g3 L v) (hgd : o.guard = none) (s x : Operand) (ho : o.op = .call { callee := .builtin .append, args := #[s, x], argTypes := #[22, 22] }) (hs : a.eval s = v)
    (ys : List Int) (A : Option Addr) (m c : Nat) (hx : a.eval x = .slice A m c) (HR : Kd.C (Kd.int .i64) W A m ys) (hl : L.length + m ≤ 10000)
    (h : ∀ A9 n9 c9 w1, w1.cell? ⟨g3, 0, none⟩ = some v → w1.frozen? ⟨g3, 0, none⟩ = false → Aside0 (Out w0 (w1.setCell ⟨g3, 0, none⟩ (.slice A9 n9 c9)) g3 (L ++ ys) (.slice A9 n9 c9) ∧ Fo W (w1.setCell ⟨g3, 0, none⟩ (.slice A9 n9 c9)) g3) → wpList Try.prog ops Q rest (a.put o.dst (.slice A9 n9 c9)) w1) :
    wpList Try.prog ops Q (o :: rest) a W := by
  refine Kd.R_append_row (Value.int .i64) 0 (w0 := w0) w0.heap.size hgd s x 22 3 (.int .i64 0) 8 ho Try.underlying22 info3' rfl (by decide) v L ys A m c (fun _ => True) hs hx (fun _ _ => trivial) hO.r HR hO.b hO.b.size (by omega) ?_
  intro v1 w1 ho hb hg hat
  obtain ⟨n9, A9, c9, e⟩ := R_slice3 ho
  subst e
  have hx := grown_cell hO hg
  exact h A9 n9 c9 w1 ((blk_cell hx 0).trans rfl) (blk_frozen hx 0) ⟨hO.app ho hb hg⟩
theorem I_app (ys : List Int) (cs : List Value) (hcs : cs = nums .i64 ys) (n : Nat) (hn : ys.length = n) (hO : Out w0 W g3 L v) (hgd : o.guard = none) (s x : Operand) (ho : o.op = .call { callee := .builtin .append, args := #[s, x], argTypes := #[22, 22] }) (hs : a.eval s = v)
    (hx : a.eval x = .slice (some ⟨W.heap.size, 0, none⟩) n n) (hl : L.length + n ≤ 1000)
    (h : ∀ A9 n9 c9 w1, w1.cell? ⟨g3, 0, none⟩ = some v → w1.frozen? ⟨g3, 0, none⟩ = false → Aside0 (Out w0 (w1.setCell ⟨g3, 0, none⟩ (.slice A9 n9 c9)) g3 (L ++ ys) (.slice A9 n9 c9) ∧ Fo W (w1.setCell ⟨g3, 0, none⟩ (.slice A9 n9 c9)) g3) → wpList Try.prog ops Q rest (a.put o.dst (.slice A9 n9 c9)) w1) :
    wpList Try.prog ops Q (o :: rest) a (W.alloc (.cells cs.toArray 3)) := by
  subst hcs hn
  have hb := below_alloc (Below.refl W.heap.size W) (.cells (nums .i64 ys).toArray 3)
  refine I_apps (hO.below hb) hgd s x ho hs ys _ _ _ hx (Kd.R_reads' (C_lit W 0 (Nat.zero_le _) ys (by omega))).2.2 (by omega) ?_
  intro A9 n9 c9 w1 h1 h2 h3
  exact h A9 n9 c9 w1 h1 h2 ⟨h3.out.1, (Fo.of_below hb).trans h3.out.2⟩
end
end Go.Proofs.Ytlbicibihdkpnaa.P
namespace Go.Proofs.Ytlbicibihdkpnaa.P
open Go.RowKit Go.Proofs.YtlbicibihdkpnaaW.PrintWords Go.Proofs.YtlbicibihdkpnaaW.PrintLast Go.Proofs.YtlbicibihdkpnaaW.PrintMore
set_option linter.unusedVariables false
set_option linter.unusedSimpArgs false

/-- Ints in its loops: the world's box is g1, the list's is g3 -/
def IS (w W : World) (g1 g3 : Nat) (vK vG vI : Value) (L : List Int) (v : Value) : Prop := W.heap[g1]? = some (.cells #[vK, vG, vI] 27 (0, 0)) ∧ g1 ≠ g3 ∧ Out w W g3 L v
section
variable {w W W' : World} {g1 g3 : Nat} {vK vG vI v v' : Value} {L L' : List Int}
theorem IS.below (h : IS w W g1 g3 vK vG vI L v) (hb : Below W.heap.size W W') : IS w W' g1 g3 vK vG vI L v := ⟨(hb.block g1 (blk_lt h.1)).trans h.1, h.2.1, h.2.2.below hb⟩
theorem IS.fo (h : IS w W g1 g3 vK vG vI L v) (n : Out w W' g3 L' v' ∧ Fo W W' g3) : IS w W' g1 g3 vK vG vI L' v' := ⟨n.2.2 g1 _ _ h.1 (by decide) h.2.1, h.2.1, n.1⟩
theorem IS.ne (h : IS w W g1 g3 vK vG vI L v) {k t : Nat} {cs : Array Value} (hk : W.heap[k]? = some (.cells cs t (0, 0))) (ht : t ≠ 22) : k ≠ g3 := blk_ne hk h.2.2.x ht
theorem IS.blk (h : IS w W g1 g3 vK vG vI L v) (n : Fo W W' g3) {k t : Nat} {cs : Array Value} (hk : W.heap[k]? = some (.cells cs t (0, 0))) (ht : t ≠ 22) (h3 : t ≠ 3) : W'.heap[k]? = some (.cells cs t (0, 0)) := n.2 k _ _ hk h3 (h.ne hk ht)
end
theorem flat_len {α : Type} (l : List α) (f : α → List Int) (hf : ∀ x, 1 ≤ (f x).length) : l.length ≤ (l.flatMap f).length := by
  induction l with
  | nil => simp
  | cons x l ih => have := hf x; rw [List.flatMap_cons, List.length_cons, List.length_append]; omega
theorem len_app {L ys R T : List Int} (h : L ++ (ys ++ R) = T) (hl : T.length ≤ 100) : L.length + ys.length ≤ 100 := by
  have := congrArg List.length h
  rw [List.length_append, List.length_append] at this
  omega
theorem step_app {L ys R T : List Int} (h : L ++ (ys ++ R) = T) : (L ++ ys) ++ R = T := by rw [List.append_assoc]; exact h
def IntsP (w : World) (L : List Int) (e : Ending) (w' : World) : Prop := ∃ v, e = .returned v ∧ Aside0 (Kd.R (Kd.int .i64) 3 w' w.heap.size (fun _ => True) v L ∧ Below w.heap.size w w')
set_option maxHeartbeats 4000000 in
set_option maxRecDepth 100000 in
theorem T_ints (w : World) (AK AG AI : Option Addr) (cK cG cI : Nat) (K : List S55) (G : List Int) (I : List S34) (hK : Kd.C k55 w AK K.length K) (hG : Kd.C (Kd.int .i64) w AG G.length G) (hI : Kd.C k34 w AI I.length I) (T : List Int) (hT : intsW K G I = T) (hl : T.length ≤ 100) :
    Calls Try.prog 38 #[.agg #[.slice AK K.length cK, .slice AG G.length cG, .slice AI I.length cI]] w (IntsP w T) := by
  have HK := Aside0.mk hK
  have HG := Aside0.mk hG
  have HI := Aside0.mk hI
  have HT := Aside0.mk hT
  have HL := Aside0.mk hl
  obtain ⟨nK, hnK⟩ : ∃ n, K.length = n := ⟨_, rfl⟩
  obtain ⟨nG, hnG⟩ : ∃ n, G.length = n := ⟨_, rfl⟩
  obtain ⟨nI, hnI⟩ : ∃ n, I.length = n := ⟨_, rfl⟩
  rw [hnK] at HK ⊢
  rw [hnG] at HG ⊢
  rw [hnI] at HI ⊢
  have HN := Aside0.mk (And.intro hnK (And.intro hnG hnI))
  have HM := Aside0.mk (show nK ≤ 100 ∧ nG ≤ 100 ∧ nI ≤ 100 ∧ T = [(nK : Int)] ++ (K.flatMap kindI ++ tailG G I) from by
    subst hT
    have h1 := flat_len K kindI (fun x => by simp [kindI, nameI])
    have h2 := flat_len I itemI (fun x => by simp [itemI])
    have e : intsW K G I = [(K.length : Int)] ++ (K.flatMap kindI ++ ([(G.length : Int)] ++ (G ++ ([(I.length : Int)] ++ I.flatMap itemI)))) := rfl
    rw [e] at hl
    simp only [List.length_append, List.length_cons, List.length_nil] at hl
    exact ⟨by omega, by omega, by omega, by rw [e, hnK]; rfl⟩)
  clear hK hG hI hT hl hnK hnG hnI
  go_enter Try.func38, Try.ntmps38
  go_upto_region 3 with (fail)
  have HS := Aside0.mk (show IS w (((w.alloc (.cells #[.slice AK nK cK, .slice AG nG cG, .slice AI nI cI] 27)).alloc (.cells #[.int .i64 (nK : Int)] 3)).alloc (.cells #[.slice (some ⟨w.heap.size + 1, 0, none⟩) 1 1] 22)) w.heap.size (w.heap.size + 1 + 1) (.slice AK nK cK) (.slice AG nG cG) (.slice AI nI cI) [(nK : Int)] (.slice (some ⟨w.heap.size + 1, 0, none⟩) 1 1) from by
    refine ⟨blk_alloc (blk_alloc (blk_new w _) _) _, by omega, ⟨new2' (by rw [World.size_alloc]), ?_, below_alloc (below_alloc (below_alloc (Below.refl _ _) _) _) _, by omega⟩⟩
    have hr := C_lit (w.alloc (.cells #[.slice AK nK cK, .slice AG nG cG, .slice AI nI cI] 27)) w.heap.size (by rw [World.size_alloc]; omega) [(nK : Int)] (by simp)
    rw [World.size_alloc] at hr
    exact Kd.R_alloc hr _)
  generalize (Value.slice (some ⟨w.heap.size + 1, 0, none⟩) 1 1) = v1 at HS ⊢
  generalize w.heap.size + 1 + 1 = g3 at HS ⊢
  generalize w.heap.size = g1 at HS ⊢
  generalize ((w.alloc (.cells #[.slice AK nK cK, .slice AG nG cG, .slice AI nI cI] 27)).alloc (.cells #[.int .i64 (nK : Int)] 3)).alloc (.cells #[v1] 22) = w1 at HS ⊢
  obtain ⟨x0, x1, x2, _, _, _⟩ := cells3 HS.out.1
  obtain ⟨c0, z0⟩ := HS.out.2.2.cell
  go_wp2_with (fail)
  go_loopg [21] nK (fun kq v21 w' => ∃ (i : Nat) (L : List Int) (v : Value), v21 = .int .i64 (i : Int) ∧ Aside0 (kq = nK - i ∧ i ≤ nK ∧ L ++ ((K.drop i).flatMap kindI ++ tailG G I) = T) ∧ Aside0 (IS w w' g1 g3 (.slice AK nK cK) (.slice AG nG cG) (.slice AI nI cI) L v))
  case atStart => exact ⟨0, _, v1, rfl, ⟨by omega, by omega, by rw [List.drop_zero]; exact HM.out.2.2.2.symm⟩, HS⟩
  case round =>
    clear x0 x1 x2 c0 z0
    clear HS
    obtain ⟨i, L, v, rfl, HJ, HS⟩ := hrel
    by_cases hi : i < nK
    · have i0 : (0 : Int) ≤ (i : Int) := by omega
      have i1 : (i : Int) < (nK : Int) := by omega
      obtain ⟨ad, A2, c2, e, y0, y1, y2, y3⟩ := at_T55 HK.out (i : Int) i0 i1
      subst e
      rw [Int.toNat_natCast] at y0 y1
      replace y0 := (HS.out.2.2.b.cell (p := ad.add (i * 2)) (World.block_lt_of_cell? w _ y0)).trans y0
      replace y1 := (HS.out.2.2.b.cell (p := ⟨(ad.add (i * 2)).block, (ad.add (i * 2)).off + 1, none⟩) (World.block_lt_of_cell? w _ y1)).trans y1
      have HC := Aside0.mk y3
      have HD := Aside0.mk (show L ++ (kindI (rd_T55 K (i : Int)) ++ ((K.drop (i + 1)).flatMap kindI ++ tailG G I)) = T from by
        rw [← HJ.out.2.2, drop_flat K z55 kindI i (by rw [HN.out.1]; exact hi), List.append_assoc]; rfl)
      clear y2 y3
      generalize rd_T55 K (i : Int) = xk at y0 y1 HC HD
      obtain ⟨nm, F⟩ := xk
      replace y0 : wr.cell? (ad.add (i * 2)) = some (.string nm) := y0
      replace y1 : wr.cell? ⟨(ad.add (i * 2)).block, (ad.add (i * 2)).off + 1, none⟩ = some (.slice A2 F.length c2) := y1
      replace HC : Aside0 (Kd.C k52 w A2 F.length F) := HC
      obtain ⟨nF, hnF⟩ : ∃ n, F.length = n := ⟨_, rfl⟩
      have HNF := Aside0.mk hnF
      rw [hnF] at y1 HC
      clear hnF
      have HD := Aside0.mk (show L ++ (nameI nm ++ ([(nF : Int)] ++ (F.flatMap fieldI ++ ((K.drop (i + 1)).flatMap kindI ++ tailG G I)))) = T from by
        rw [← HD.out, ← HNF.out]; unfold kindI; simp only [List.append_assoc])
      obtain ⟨x0, x1, x2, _, _, _⟩ := cells3 HS.out.1
      obtain ⟨c0, z0⟩ := HS.out.2.2.cell
      go_upto_region 6 with (fail)
      clear y0 y1
      have HX := Aside0.mk (blk_new wr (.cells #[.string nm, .slice A2 nF c2] 55))
      have HS := Aside0.mk (HS.out.below (below_alloc (Below.refl _ _) (.cells #[.string nm, .slice A2 nF c2] 55)))
      clear x0 x1 x2 c0 z0
      generalize wr.heap.size = g6 at HX ⊢
      generalize wr.alloc (.cells #[.string nm, .slice A2 nF c2] 55) = w2 at HX HS ⊢
      obtain ⟨y0, y1, _, _⟩ := cells2 HX.out
      obtain ⟨x0, x1, x2, _, _, _⟩ := cells3 HS.out.1
      obtain ⟨c0, z0⟩ := HS.out.2.2.cell
      go_wp2_with (fail)
      refine (T_name w2 w g3 _ _ nm (by have := len_app HD.out HL.out; simp only [nameI, List.length_cons, bytesOf_length] at this; omega) (by have := len_app HD.out HL.out; omega) HS.out.2.2).mono ?_
      rintro e w3 ⟨rfl, vw3, HO3, HF3⟩
      clear x0 x1 x2 c0 z0 y0 y1
      have HD := Aside0.mk (step_app HD.out)
      have HA := Aside0.mk (And.intro HO3.out HF3.out)
      have HX := Aside0.mk (HS.out.blk HA.out.2 HX.out (by decide) (by decide))
      have HS := Aside0.mk (HS.out.fo HA.out)
      clear HO3 HF3 HA
      obtain ⟨y0, y1, _, _⟩ := cells2 HX.out
      obtain ⟨x0, x1, x2, _, _, _⟩ := cells3 HS.out.1
      obtain ⟨c0, z0⟩ := HS.out.2.2.cell
      go_upto_region 8 with ((((with_reducible refine gate_builtin (b := .append) (xs := #[.tmp 29, .tmp 33]) rfl ?_); at_builtin; refine I_app [(nF : Int)] [.int .i64 (nF)] rfl 1 rfl HS.out.2.2 rfl (.tmp 29) (.tmp 33) rfl rfl rfl ?aL ?_; (case aL => have := len_app HD.out HL.out; simp only [List.length_cons, List.length_nil] at this; omega); intro A9 n9 c9 w5a h0 h1 HA)))
      clear x0 x1 x2 c0 z0 y0 y1
      clear h0 h1
      have HD := Aside0.mk (step_app HD.out)
      have HX := Aside0.mk (HS.out.blk HA.out.2 HX.out (by decide) (by decide))
      have HS := Aside0.mk (HS.out.fo HA.out)
      clear HA
      generalize w5a.setCell ⟨g3, 0, none⟩ (.slice A9 n9 c9) = w5 at HX HS ⊢
      obtain ⟨y0, y1, _, _⟩ := cells2 HX.out
      obtain ⟨x0, x1, x2, _, _, _⟩ := cells3 HS.out.1
      obtain ⟨c0, z0⟩ := HS.out.2.2.cell
      have HNB := Aside0.mk (show nF ≤ 100 from by have := len_app HD.out HL.out; have h2 := flat_len F fieldI (fun x => by simp [fieldI, nameI]); rw [HNF.out] at h2; omega)
      go_wp2_with (fail)
      go_loopg [38] nF (fun kq v38 w' => ∃ (j : Nat) (L : List Int) (v : Value), v38 = .int .i64 (j : Int) ∧ Aside0 (kq = nF - j ∧ j ≤ nF ∧ L ++ ((F.drop j).flatMap fieldI ++ ((K.drop (i + 1)).flatMap kindI ++ tailG G I)) = T) ∧ Aside0 (IS w w' g1 g3 (.slice (some ad) nK cK) (.slice AG nG cG) (.slice AI nI cI) L v))
      case atStart => exact ⟨0, _, _, rfl, ⟨by omega, by omega, by rw [List.drop_zero]; exact HD.out⟩, HS⟩
      case round =>
        clear x0 x1 x2 c0 z0 y0 y1
        clear HS HD HX
        obtain ⟨j, L, v, rfl, HJ2, HS⟩ := hrel
        by_cases hj : j < nF
        · have j0 : (0 : Int) ≤ (j : Int) := by omega
          have j1 : (j : Int) < (nF : Int) := by omega
          obtain ⟨ad2, e, y0, y1, y2⟩ := at_T52 HC.out (j : Int) j0 j1
          subst e
          rw [Int.toNat_natCast] at y0 y1 y2
          replace y0 := (HS.out.2.2.b.cell (p := ad2.add (j * 3)) (World.block_lt_of_cell? w _ y0)).trans y0
          replace y1 := (HS.out.2.2.b.cell (p := ⟨(ad2.add (j * 3)).block, (ad2.add (j * 3)).off + 1, none⟩) (World.block_lt_of_cell? w _ y1)).trans y1
          replace y2 := (HS.out.2.2.b.cell (p := ⟨(ad2.add (j * 3)).block, (ad2.add (j * 3)).off + 2, none⟩) (World.block_lt_of_cell? w _ y2)).trans y2
          have HD := Aside0.mk (show L ++ (fieldI (rd_T52 F (j : Int)) ++ ((F.drop (j + 1)).flatMap fieldI ++ ((K.drop (i + 1)).flatMap kindI ++ tailG G I))) = T from by
            rw [← HJ2.out.2.2, drop_flat F z52 fieldI j (by rw [HNF.out]; exact hj), List.append_assoc]; rfl)
          generalize rd_T52 F (j : Int) = xf at y0 y1 y2 HD
          obtain ⟨fm, fb, fl⟩ := xf
          replace y0 : wr.cell? (ad2.add (j * 3)) = some (.string fm) := y0
          replace y1 : wr.cell? ⟨(ad2.add (j * 3)).block, (ad2.add (j * 3)).off + 1, none⟩ = some (.int .i64 fb) := y1
          replace y2 : wr.cell? ⟨(ad2.add (j * 3)).block, (ad2.add (j * 3)).off + 2, none⟩ = some (.int .i64 fl) := y2
          have HD := Aside0.mk (show L ++ (nameI fm ++ ([fb, fl] ++ ((F.drop (j + 1)).flatMap fieldI ++ ((K.drop (i + 1)).flatMap kindI ++ tailG G I)))) = T from by
            rw [← HD.out]; unfold fieldI; simp only [List.append_assoc])
          obtain ⟨x0, x1, x2, _, _, _⟩ := cells3 HS.out.1
          obtain ⟨c0, z0⟩ := HS.out.2.2.cell
          go_upto_region 11 with (fail)
          clear y0 y1 y2
          have HX := Aside0.mk (blk_new wr (.cells #[.string fm, .int .i64 fb, .int .i64 fl] 52))
          have HS := Aside0.mk (HS.out.below (below_alloc (Below.refl _ _) (.cells #[.string fm, .int .i64 fb, .int .i64 fl] 52)))
          clear x0 x1 x2 c0 z0
          generalize wr.heap.size = g8 at HX ⊢
          generalize wr.alloc (.cells #[.string fm, .int .i64 fb, .int .i64 fl] 52) = w6 at HX HS ⊢
          obtain ⟨y0, y1, y2, _, _, _⟩ := cells3 HX.out
          obtain ⟨x0, x1, x2, _, _, _⟩ := cells3 HS.out.1
          obtain ⟨c0, z0⟩ := HS.out.2.2.cell
          go_wp2_with (fail)
          refine (T_name w6 w g3 _ _ fm (by have := len_app HD.out HL.out; simp only [nameI, List.length_cons, bytesOf_length] at this; omega) (by have := len_app HD.out HL.out; omega) HS.out.2.2).mono ?_
          rintro e w7 ⟨rfl, vw7, HO3, HF3⟩
          clear x0 x1 x2 c0 z0 y0 y1 y2
          have HD := Aside0.mk (step_app HD.out)
          have HA := Aside0.mk (And.intro HO3.out HF3.out)
          have HX := Aside0.mk (HS.out.blk HA.out.2 HX.out (by decide) (by decide))
          have HS := Aside0.mk (HS.out.fo HA.out)
          clear HO3 HF3 HA
          obtain ⟨y0, y1, y2, _, _, _⟩ := cells3 HX.out
          obtain ⟨x0, x1, x2, _, _, _⟩ := cells3 HS.out.1
          obtain ⟨c0, z0⟩ := HS.out.2.2.cell
          go_upto_region 13 with ((((with_reducible refine gate_builtin (b := .append) (xs := #[.tmp 46, .tmp 51]) rfl ?_); at_builtin; refine I_app [(fb : Int), (fl : Int)] [.int .i64 (fb), .int .i64 (fl)] rfl 2 rfl HS.out.2.2 rfl (.tmp 46) (.tmp 51) rfl rfl rfl ?aL ?_; (case aL => have := len_app HD.out HL.out; simp only [List.length_cons, List.length_nil] at this; omega); intro A9 n9 c9 w9a h0 h1 HA)))
          clear x0 x1 x2 c0 z0 y0 y1 y2
          clear h0 h1
          have HD := Aside0.mk (step_app HD.out)
          have HX := Aside0.mk (HS.out.blk HA.out.2 HX.out (by decide) (by decide))
          have HS := Aside0.mk (HS.out.fo HA.out)
          clear HA
          generalize w9a.setCell ⟨g3, 0, none⟩ (.slice A9 n9 c9) = w9 at HX HS ⊢
          obtain ⟨y0, y1, y2, _, _, _⟩ := cells3 HX.out
          obtain ⟨x0, x1, x2, _, _, _⟩ := cells3 HS.out.1
          obtain ⟨c0, z0⟩ := HS.out.2.2.cell
          go_wp2_with (fail)
          go_roundg (nF - (j + 1))
          case measure => have := HJ2.out.1; omega
          case rel => exact ⟨j + 1, _, _, congrArg (Value.int .i64) (by have := HNB.out; unfold wrap64; omega), ⟨by omega, by omega, HD.out⟩, HS⟩
        · have j1 : ¬ ((j : Int) < (nF : Int)) := by omega
          go_wp2_with (fail)
          go_roundg (nK - (i + 1))
          case measure => have := HJ.out.1; omega
          case rel => exact ⟨i + 1, L, v, congrArg (Value.int .i64) (by have := HM.out.1; unfold wrap64; omega), ⟨by omega, by omega, by
            rw [← HJ2.out.2.2, drop_end F fieldI j (by rw [HNF.out]; omega), List.nil_append]⟩, HS⟩
    · have i1 : ¬ ((i : Int) < (nK : Int)) := by omega
      have HD := Aside0.mk (show L ++ ([(nG : Int)] ++ (G ++ ([(nI : Int)] ++ I.flatMap itemI))) = T from by
        rw [← HJ.out.2.2, drop_end K kindI i (by rw [HN.out.1]; omega), List.nil_append, ← HN.out.2.1, ← HN.out.2.2]; rfl)
      obtain ⟨x0, x1, x2, _, _, _⟩ := cells3 HS.out.1
      obtain ⟨c0, z0⟩ := HS.out.2.2.cell
      go_upto_region 16 with ((((with_reducible refine gate_builtin (b := .append) (xs := #[.tmp 55, .tmp 59]) rfl ?_); at_builtin; refine I_app [(nG : Int)] [.int .i64 (nG)] rfl 1 rfl HS.out.2.2 rfl (.tmp 55) (.tmp 59) rfl rfl rfl ?aL ?_; (case aL => have := len_app HD.out HL.out; simp only [List.length_cons, List.length_nil] at this; omega); intro A9 n9 c9 w5a h0 h1 HA)))
      clear x0 x1 x2 c0 z0
      clear h0 h1
      have HD := Aside0.mk (step_app HD.out)
      have HS := Aside0.mk (HS.out.fo HA.out)
      clear HA
      generalize w5a.setCell ⟨g3, 0, none⟩ (.slice A9 n9 c9) = w5 at  HS ⊢
      obtain ⟨x0, x1, x2, _, _, _⟩ := cells3 HS.out.1
      obtain ⟨c0, z0⟩ := HS.out.2.2.cell
      go_upto_region 17 with ((((with_reducible refine gate_builtin (b := .append) (xs := #[.tmp 61, .tmp 63]) rfl ?_); at_builtin; refine I_apps HS.out.2.2 rfl (.tmp 61) (.tmp 63) rfl rfl (G) (AG) (nG) (cG) rfl (Kd.C_below HG.out HS.out.2.2.b) ?aL ?_; (case aL => have := len_app HD.out HL.out; have := HN.out.2.1; omega); intro A9 n9 c9 w6a h0 h1 HA)))
      clear x0 x1 x2 c0 z0
      clear h0 h1
      have HD := Aside0.mk (step_app HD.out)
      have HS := Aside0.mk (HS.out.fo HA.out)
      clear HA
      generalize w6a.setCell ⟨g3, 0, none⟩ (.slice A9 n9 c9) = w6 at  HS ⊢
      obtain ⟨x0, x1, x2, _, _, _⟩ := cells3 HS.out.1
      obtain ⟨c0, z0⟩ := HS.out.2.2.cell
      go_upto_region 18 with ((((with_reducible refine gate_builtin (b := .append) (xs := #[.tmp 65, .tmp 69]) rfl ?_); at_builtin; refine I_app [(nI : Int)] [.int .i64 (nI)] rfl 1 rfl HS.out.2.2 rfl (.tmp 65) (.tmp 69) rfl rfl rfl ?aL ?_; (case aL => have := len_app HD.out HL.out; simp only [List.length_cons, List.length_nil] at this; omega); intro A9 n9 c9 w7a h0 h1 HA)))
      clear x0 x1 x2 c0 z0
      clear h0 h1
      have HD := Aside0.mk (step_app HD.out)
      have HS := Aside0.mk (HS.out.fo HA.out)
      clear HA
      generalize w7a.setCell ⟨g3, 0, none⟩ (.slice A9 n9 c9) = w7 at  HS ⊢
      obtain ⟨x0, x1, x2, _, _, _⟩ := cells3 HS.out.1
      obtain ⟨c0, z0⟩ := HS.out.2.2.cell
      go_wp2_with (fail)
      go_loopg [74] nI (fun kq v74 w' => ∃ (i : Nat) (L : List Int) (v : Value), v74 = .int .i64 (i : Int) ∧ Aside0 (kq = nI - i ∧ i ≤ nI ∧ L ++ (I.drop i).flatMap itemI = T) ∧ Aside0 (IS w w' g1 g3 (.slice AK nK cK) (.slice AG nG cG) (.slice AI nI cI) L v))
      case atStart => exact ⟨0, _, _, rfl, ⟨by omega, by omega, by rw [List.drop_zero]; exact HD.out⟩, HS⟩
      case round =>
        clear x0 x1 x2 c0 z0
        clear HS HD HJ hi i1
        obtain ⟨i, L, v, rfl, HJ, HS⟩ := hrel
        by_cases hi : i < nI
        · have i0 : (0 : Int) ≤ (i : Int) := by omega
          have i1 : (i : Int) < (nI : Int) := by omega
          obtain ⟨ad, A2, c2, e, y0, y1, y2, y3, y4⟩ := at_T34 HI.out (i : Int) i0 i1
          subst e
          rw [Int.toNat_natCast] at y0 y1 y2
          replace y0 := (HS.out.2.2.b.cell (p := ad.add (i * 3)) (World.block_lt_of_cell? w _ y0)).trans y0
          replace y1 := (HS.out.2.2.b.cell (p := ⟨(ad.add (i * 3)).block, (ad.add (i * 3)).off + 1, none⟩) (World.block_lt_of_cell? w _ y1)).trans y1
          replace y2 := (HS.out.2.2.b.cell (p := ⟨(ad.add (i * 3)).block, (ad.add (i * 3)).off + 2, none⟩) (World.block_lt_of_cell? w _ y2)).trans y2
          have HC := Aside0.mk y4
          have HD := Aside0.mk (show L ++ (itemI (rd_T34 I (i : Int)) ++ (I.drop (i + 1)).flatMap itemI) = T from by
            rw [← HJ.out.2.2, drop_flat I z34 itemI i (by rw [HN.out.2.2]; exact hi)]; rfl)
          clear y3 y4
          generalize rd_T34 I (i : Int) = xk at y0 y1 y2 HC HD
          obtain ⟨⟨en, eg⟩, F⟩ := xk
          replace y0 : wr.cell? (ad.add (i * 3)) = some (.int .i64 en) := y0
          replace y1 : wr.cell? ⟨(ad.add (i * 3)).block, (ad.add (i * 3)).off + 1, none⟩ = some (.int .i64 eg) := y1
          replace y2 : wr.cell? ⟨(ad.add (i * 3)).block, (ad.add (i * 3)).off + 2, none⟩ = some (.slice A2 F.length c2) := y2
          replace HC : Aside0 (Kd.C k59 w A2 F.length F) := HC
          obtain ⟨nF, hnF⟩ : ∃ n, F.length = n := ⟨_, rfl⟩
          have HNF := Aside0.mk hnF
          rw [hnF] at y2 HC
          clear hnF
          have HD := Aside0.mk (show L ++ ([en, eg, (nF : Int)] ++ (F.flatMap compI ++ (I.drop (i + 1)).flatMap itemI)) = T from by
            rw [← HD.out, ← HNF.out]; unfold itemI; simp only [List.append_assoc])
          obtain ⟨x0, x1, x2, _, _, _⟩ := cells3 HS.out.1
          obtain ⟨c0, z0⟩ := HS.out.2.2.cell
          go_upto_region 21 with (fail)
          clear y0 y1 y2
          have HX := Aside0.mk (blk_new wr (.cells #[.int .i64 en, .int .i64 eg, .slice A2 nF c2] 34))
          have HS := Aside0.mk (HS.out.below (below_alloc (Below.refl _ _) (.cells #[.int .i64 en, .int .i64 eg, .slice A2 nF c2] 34)))
          clear x0 x1 x2 c0 z0
          generalize wr.heap.size = g6 at HX ⊢
          generalize wr.alloc (.cells #[.int .i64 en, .int .i64 eg, .slice A2 nF c2] 34) = w2 at HX HS ⊢
          obtain ⟨y0, y1, y2, _, _, _⟩ := cells3 HX.out
          obtain ⟨x0, x1, x2, _, _, _⟩ := cells3 HS.out.1
          obtain ⟨c0, z0⟩ := HS.out.2.2.cell
          go_upto_region 22 with ((((with_reducible refine gate_builtin (b := .append) (xs := #[.tmp 78, .tmp 88]) rfl ?_); at_builtin; refine I_app [(en : Int), (eg : Int), (nF : Int)] [.int .i64 (en), .int .i64 (eg), .int .i64 (nF)] rfl 3 rfl HS.out.2.2 rfl (.tmp 78) (.tmp 88) rfl rfl rfl ?aL ?_; (case aL => have := len_app HD.out HL.out; simp only [List.length_cons, List.length_nil] at this; omega); intro A9 n9 c9 w5a h0 h1 HA)))
          clear x0 x1 x2 c0 z0 y0 y1 y2
          clear h0 h1
          have HD := Aside0.mk (step_app HD.out)
          have HX := Aside0.mk (HS.out.blk HA.out.2 HX.out (by decide) (by decide))
          have HS := Aside0.mk (HS.out.fo HA.out)
          clear HA
          generalize w5a.setCell ⟨g3, 0, none⟩ (.slice A9 n9 c9) = w5 at HX HS ⊢
          obtain ⟨y0, y1, y2, _, _, _⟩ := cells3 HX.out
          obtain ⟨x0, x1, x2, _, _, _⟩ := cells3 HS.out.1
          obtain ⟨c0, z0⟩ := HS.out.2.2.cell
          have HNB := Aside0.mk (show nF ≤ 100 from by have := len_app HD.out HL.out; have h2 := flat_len F compI (fun x => by simp [compI]); rw [HNF.out] at h2; omega)
          go_wp2_with (fail)
          go_loopg [93] nF (fun kq v93 w' => ∃ (j : Nat) (L : List Int) (v : Value), v93 = .int .i64 (j : Int) ∧ Aside0 (kq = nF - j ∧ j ≤ nF ∧ L ++ ((F.drop j).flatMap compI ++ (I.drop (i + 1)).flatMap itemI) = T) ∧ Aside0 (IS w w' g1 g3 (.slice AK nK cK) (.slice AG nG cG) (.slice (some ad) nI cI) L v))
          case atStart => exact ⟨0, _, _, rfl, ⟨by omega, by omega, by rw [List.drop_zero]; exact HD.out⟩, HS⟩
          case round =>
            clear x0 x1 x2 c0 z0 y0 y1 y2
            clear HS HD HX
            obtain ⟨j, L, v, rfl, HJ2, HS⟩ := hrel
            by_cases hj : j < nF
            · have j0 : (0 : Int) ≤ (j : Int) := by omega
              have j1 : (j : Int) < (nF : Int) := by omega
              obtain ⟨ad2, A4, c4, e, y0, y1, y2, y3⟩ := at_T59 HC.out (j : Int) j0 j1
              subst e
              rw [Int.toNat_natCast] at y0 y1
              replace y0 := (HS.out.2.2.b.cell (p := ad2.add (j * 2)) (World.block_lt_of_cell? w _ y0)).trans y0
              replace y1 := (HS.out.2.2.b.cell (p := ⟨(ad2.add (j * 2)).block, (ad2.add (j * 2)).off + 1, none⟩) (World.block_lt_of_cell? w _ y1)).trans y1
              have HV := Aside0.mk y3
              have HD := Aside0.mk (show L ++ (compI (rd_T59 F (j : Int)) ++ ((F.drop (j + 1)).flatMap compI ++ (I.drop (i + 1)).flatMap itemI)) = T from by
                rw [← HJ2.out.2.2, drop_flat F z59 compI j (by rw [HNF.out]; exact hj), List.append_assoc]; rfl)
              clear y2 y3
              generalize rd_T59 F (j : Int) = xf at y0 y1 HV HD
              obtain ⟨ck, V⟩ := xf
              replace y0 : wr.cell? (ad2.add (j * 2)) = some (.int .i64 ck) := y0
              replace y1 : wr.cell? ⟨(ad2.add (j * 2)).block, (ad2.add (j * 2)).off + 1, none⟩ = some (.slice A4 V.length c4) := y1
              replace HV : Aside0 (Kd.C (Kd.int .i64) w A4 V.length V) := HV
              obtain ⟨nV, hnV⟩ : ∃ n, V.length = n := ⟨_, rfl⟩
              have HNV := Aside0.mk hnV
              rw [hnV] at y1 HV
              clear hnV
              have HD := Aside0.mk (show L ++ ([ck, (nV : Int)] ++ (V ++ ((F.drop (j + 1)).flatMap compI ++ (I.drop (i + 1)).flatMap itemI))) = T from by
                rw [← HD.out, ← HNV.out]; unfold compI; simp only [List.append_assoc])
              obtain ⟨x0, x1, x2, _, _, _⟩ := cells3 HS.out.1
              obtain ⟨c0, z0⟩ := HS.out.2.2.cell
              go_upto_region 25 with (fail)
              clear y0 y1
              have HX := Aside0.mk (blk_new wr (.cells #[.int .i64 ck, .slice A4 nV c4] 59))
              have HS := Aside0.mk (HS.out.below (below_alloc (Below.refl _ _) (.cells #[.int .i64 ck, .slice A4 nV c4] 59)))
              clear x0 x1 x2 c0 z0
              generalize wr.heap.size = g8 at HX ⊢
              generalize wr.alloc (.cells #[.int .i64 ck, .slice A4 nV c4] 59) = w6 at HX HS ⊢
              obtain ⟨y0, y1, _, _⟩ := cells2 HX.out
              obtain ⟨x0, x1, x2, _, _, _⟩ := cells3 HS.out.1
              obtain ⟨c0, z0⟩ := HS.out.2.2.cell
              go_upto_region 26 with ((((with_reducible refine gate_builtin (b := .append) (xs := #[.tmp 97, .tmp 103]) rfl ?_); at_builtin; refine I_app [(ck : Int), (nV : Int)] [.int .i64 (ck), .int .i64 (nV)] rfl 2 rfl HS.out.2.2 rfl (.tmp 97) (.tmp 103) rfl rfl rfl ?aL ?_; (case aL => have := len_app HD.out HL.out; simp only [List.length_cons, List.length_nil] at this; omega); intro A9 n9 c9 w9a h0 h1 HA)))
              clear x0 x1 x2 c0 z0 y0 y1
              clear h0 h1
              have HD := Aside0.mk (step_app HD.out)
              have HX := Aside0.mk (HS.out.blk HA.out.2 HX.out (by decide) (by decide))
              have HS := Aside0.mk (HS.out.fo HA.out)
              clear HA
              generalize w9a.setCell ⟨g3, 0, none⟩ (.slice A9 n9 c9) = w9 at HX HS ⊢
              obtain ⟨y0, y1, _, _⟩ := cells2 HX.out
              obtain ⟨x0, x1, x2, _, _, _⟩ := cells3 HS.out.1
              obtain ⟨c0, z0⟩ := HS.out.2.2.cell
              go_upto_region 27 with ((((with_reducible refine gate_builtin (b := .append) (xs := #[.tmp 105, .tmp 107]) rfl ?_); at_builtin; refine I_apps HS.out.2.2 rfl (.tmp 105) (.tmp 107) rfl rfl (V) (A4) (nV) (c4) rfl (Kd.C_below HV.out HS.out.2.2.b) ?aL ?_; (case aL => have := len_app HD.out HL.out; have := HNV.out; omega); intro A9 n9 c9 w10a h0 h1 HA)))
              clear x0 x1 x2 c0 z0 y0 y1
              clear h0 h1
              have HD := Aside0.mk (step_app HD.out)
              have HX := Aside0.mk (HS.out.blk HA.out.2 HX.out (by decide) (by decide))
              have HS := Aside0.mk (HS.out.fo HA.out)
              clear HA
              generalize w10a.setCell ⟨g3, 0, none⟩ (.slice A9 n9 c9) = w10 at HX HS ⊢
              obtain ⟨y0, y1, _, _⟩ := cells2 HX.out
              obtain ⟨x0, x1, x2, _, _, _⟩ := cells3 HS.out.1
              obtain ⟨c0, z0⟩ := HS.out.2.2.cell
              go_wp2_with (fail)
              go_roundg (nF - (j + 1))
              case measure => have := HJ2.out.1; omega
              case rel => exact ⟨j + 1, _, _, congrArg (Value.int .i64) (by have := HNB.out; unfold wrap64; omega), ⟨by omega, by omega, HD.out⟩, HS⟩
            · have j1 : ¬ ((j : Int) < (nF : Int)) := by omega
              go_wp2_with (fail)
              go_roundg (nI - (i + 1))
              case measure => have := HJ.out.1; omega
              case rel => exact ⟨i + 1, L, v, congrArg (Value.int .i64) (by have := HM.out.2.2.1; unfold wrap64; omega), ⟨by omega, by omega, by
                rw [← HJ2.out.2.2, drop_end F compI j (by rw [HNF.out]; omega), List.nil_append]⟩, HS⟩
        · have i1 : ¬ ((i : Int) < (nI : Int)) := by omega
          obtain ⟨c0, z0⟩ := HS.out.2.2.cell
          go_wp2_with (fail)
          go_ret
          have e := HJ.out.2.2
          rw [drop_end I itemI i (by rw [HN.out.2.2]; omega), List.append_nil] at e
          subst e
          exact ⟨v, rfl, ⟨HS.out.2.2.r, HS.out.2.2.b⟩⟩
end Go.Proofs.Ytlbicibihdkpnaa.P
namespace Go.Proofs.Ytlbicibihdkpnaa.P
open Go.RowKit Go.Proofs.YtlbicibihdkpnaaW.PrintWords Go.Proofs.YtlbicibihdkpnaaW.PrintLast Go.Proofs.YtlbicibihdkpnaaW.PrintMore
set_option linter.unusedVariables false
set_option linter.unusedSimpArgs false

theorem C_nil {α : Type} (d : Kd α) (w : World) : Kd.C d w none ([] : List α).length [] := (Kd.R_reads' (Kd.R_nil d 0 w 0 (fun _ => True))).2.2
theorem info34c : (Try.prog.info? 34).map (fun i => (i.zero, i.size, i.bytes)) = some (some (.agg #[.int .i64 0, .int .i64 0, .slice none 0 0]), 3, 40) := by kernel_rfl
theorem make0 (W : World) : Sem.run Try.prog (Instr.makeSlice 25 (.int .i64 0) (.int .i64 0)) W = .ok (.slice (some ⟨W.heap.size, 0, none⟩) 0 0) (W.alloc (.cells #[] 34)) := by
  obtain ⟨i0, hi, hzz⟩ := Option.map_eq_some_iff.1 info34c
  simp only [Prod.mk.injEq] at hzz
  obtain ⟨hz0, hz1, hz2⟩ := hzz
  have hr := run_make (P := Try.prog) W 25 34 i0 (.agg #[.int .i64 0, .int .i64 0, .slice none 0 0]) (by kernel_rfl) hi hz0 .i64 .i64 0 0 (by omega) (by omega) (by omega) (by omega)
  rw [hz1, show madeCells _ (Int.toNat 0 * 3) = #[] from Array.eq_empty_of_size_eq_zero (by simp [size_madeCells])] at hr
  exact hr
theorem R_empty (W : World) (base : Nat) (hb : base ≤ W.heap.size) : Kd.R k34 34 (W.alloc (.cells #[] 34)) base (fun _ => True) (.slice (some ⟨W.heap.size, 0, none⟩) 0 0) [] := by
  have h := World.ownsRow_lit (base := base) (e := 34) (size := 3) W #[] 0 hb (by decide) (by simp)
  exact ⟨fun _ _ => trivial, [], h, ⟨by rfl, fun j p hj => by simp at hj⟩⟩
theorem clone0 (w : World) : Calls Try.prog 10 #[.slice none 0 0] w fun e w' => ∃ v0_ : Value, e = .returned (v0_) ∧ Kd.R (Kd.int .i64) 3 w' w.heap.size (fun _ => True) v0_ [] ∧ Below w.heap.size w w' :=
  slices_Clone_int_int.calls none 0 [] [] w (C_nil _ _) (Nat.zero_le _) rfl
theorem N_fin {w6 W : World} {b g : Nat} {v : Value} {K : List S55} (h : Kd.N k55 55 w6 b (fun k => b ≤ k) v K) (hB : Below w6.heap.size w6 W) (hg : g < b ∨ w6.heap.size ≤ g) (x y z : Value) :
    Kd.N k55 55 (((W.setCell ⟨g, 0, none⟩ x).setCell ⟨g, 1, none⟩ y).setCell ⟨g, 2, none⟩ z) b (fun k => b ≤ k ∧ k < w6.heap.size) v K := by
  have h1 := Kd.N_below (Kd.N_bound h) hB
  have hne : ∀ k, (b ≤ k ∧ k < w6.heap.size) → k ≠ g := fun k hk e => by omega
  exact Kd.N_far (Kd.N_far (Kd.N_far h1 (p := ⟨g, 0, none⟩) hne x) (p := ⟨g, 1, none⟩) hne y) (p := ⟨g, 2, none⟩) hne z
theorem N_fin1 {w6 W : World} {b : Nat} {v : Value} {K : List S55} (h : Kd.N k55 55 w6 b (fun k => b ≤ k) v K) (hB : Below w6.heap.size w6 W) :
    Kd.N k55 55 W b (fun k => b ≤ k ∧ k < w6.heap.size) v K := Kd.N_below (Kd.N_bound h) hB
theorem R_empty' (W : World) (n : Nat) {base : Nat} (hb : base ≤ W.heap.size) (hn : W.heap.size = n) : Kd.R k34 34 (W.alloc (.cells #[] 34)) base (fun _ => True) (.slice (some ⟨n, 0, none⟩) 0 0) [] := hn ▸ R_empty W base hb
theorem R_fin {α : Type} {d : Kd α} {e : Nat} {w6 W : World} {b b' g : Nat} {v : Value} {L : List α} {cs : Array Value} (h : d.R e w6 b (fun _ => True) v L) (hb : b' ≤ b) (hB : Below w6.heap.size w6 W) (hg : W.heap[g]? = some (.cells cs 27 (0, 0))) (ht : ∀ q, q ∈ e :: d.E → q ≠ 27) (x y z : Value) :
    d.R e (((W.setCell ⟨g, 0, none⟩ x).setCell ⟨g, 1, none⟩ y).setCell ⟨g, 2, none⟩ z) b' (fun _ => True) v L :=
  R_set3 (Kd.R_lower (Kd.R_below h hB) hb) hg ht x y z
theorem blk_far' {W : World} {g r j : Nat} {o : Obj} (h : W.heap[r]? = some o) (hne : r ≠ g) (x : Value) : (W.setCell ⟨g, j, none⟩ x).heap[r]? = some o := (Below.heap_setCell W ⟨g, j, none⟩ x r hne).trans h
theorem put_far {W : World} {g r : Nat} {o : Obj} (h : W.heap[r]? = some o) (hne : r ≠ g) (x y z : Value) : (((W.setCell ⟨g, 0, none⟩ x).setCell ⟨g, 1, none⟩ y).setCell ⟨g, 2, none⟩ z).heap[r]? = some o :=
  blk_far' (blk_far' (blk_far' h hne x) hne y) hne z
theorem below_set3 {B : Nat} {w W : World} (h : Below B w W) {g : Nat} (hg : B ≤ g) (x y z : Value) : Below B w (((W.setCell ⟨g, 0, none⟩ x).setCell ⟨g, 1, none⟩ y).setCell ⟨g, 2, none⟩ z) :=
  ((h.setCell (p := ⟨g, 0, none⟩) hg x).setCell (p := ⟨g, 1, none⟩) hg y).setCell (p := ⟨g, 2, none⟩) hg z
theorem size_drew' (W : World) : W.drew.heap.size = W.heap.size := rfl
theorem drew_set3 (W : World) (g : Nat) (x y z : Value) : ((((W.setCell ⟨g, 0, none⟩ x).setCell ⟨g, 1, none⟩ y).setCell ⟨g, 2, none⟩ z)).drew.heap = (((W.setCell ⟨g, 0, none⟩ x).setCell ⟨g, 1, none⟩ y).setCell ⟨g, 2, none⟩ z).heap := rfl
theorem R_low {α : Type} {d : Kd α} {e : Nat} {w6 W : World} {b b' : Nat} {v : Value} {L : List α} (h : d.R e w6 b (fun _ => True) v L) (hb : b' ≤ b) (hB : Below w6.heap.size w6 W) : d.R e W b' (fun _ => True) v L := Kd.R_lower (Kd.R_below h hB) hb
theorem new_set3 {W : World} {o : Obj} {g : Nat} {x y z : Value} : ((((W.setCell ⟨g, 0, none⟩ x).setCell ⟨g, 1, none⟩ y).setCell ⟨g, 2, none⟩ z).alloc o).heap[W.heap.size]? = some o := by
  have h := blk_new (((W.setCell ⟨g, 0, none⟩ x).setCell ⟨g, 1, none⟩ y).setCell ⟨g, 2, none⟩ z) o
  simpa only [World.size_setCell] using h
theorem no3_27 : ∀ q, q ∈ 3 :: (Kd.int .i64).E → q ≠ 27 := no3 (by decide)
theorem R_emp {W : World} {n base : Nat} (h : W.heap[n]? = some (.cells #[] 34 (0, 0))) (hb : base ≤ n) : Kd.R k34 34 W base (fun _ => True) (.slice (some ⟨n, 0, none⟩) 0 0) [] :=
  ⟨fun _ _ => trivial, [], ⟨rfl, .inr ⟨n, 0, #[], rfl, hb, h, Nat.le_refl _, by decide, by simp, rfl⟩⟩, ⟨rfl, fun j p hj => by simp at hj⟩⟩
/-- the kinds' rows lie in [b, t): no row of numbers or of items, no box -/
def Parts (w W : World) (b t : Nat) (vK vG vI : Value) (K : List S55) : Prop := w.heap.size ≤ b ∧ b ≤ t ∧ t ≤ W.heap.size ∧ Kd.N k55 55 W b (fun k => b ≤ k ∧ k < t) vK K ∧ Kd.R (Kd.int .i64) 3 W w.heap.size (fun _ => True) vG [] ∧ (∀ k, vG.ownBlock = some k → t ≤ k) ∧
  (∃ n, vI = .slice (some ⟨n, 0, none⟩) 0 0 ∧ w.heap.size ≤ n ∧ W.heap[n]? = some (.cells #[] 34 (0, 0)) ∧ (n < b ∨ t ≤ n)) ∧ Below w.heap.size w W
/-- behind region 1 of Copy: the new world's box is g -/
def CopyC (w W : World) (K : List S55) (gx gr : Nat) (v0 : Value) (v3 : Value) : Prop := ∃ (g b t : Nat) (vK vG vI : Value), v3 = .pointer (some ⟨g, 0, none⟩) ∧ W.heap[g]? = some (.cells #[vK, vG, vI] 27 (0, 0)) ∧ W.heap[gr]? = some (.cells #[.slice none 0 0, .slice none 0 0, .slice none 0 0] 27 (0, 0)) ∧ gr ≠ g ∧ w.heap.size ≤ gr ∧ W.heap[gx]? = some (.cells #[v0, .slice none 0 0, .slice none 0 0] 27 (0, 0)) ∧ gr < b ∧ Parts w W b t vK vG vI K
theorem CopyC.mk {w W : World} {K : List S55} {gx gr g n b t : Nat} {v0 vK vG : Value} (h1 : W.heap[g]? = some (.cells #[vK, vG, .slice (some ⟨n, 0, none⟩) 0 0] 27 (0, 0))) (h5 : Kd.N k55 55 W b (fun k => b ≤ k ∧ k < t) vK K) (h2 : W.heap[gr]? = some (.cells #[.slice none 0 0, .slice none 0 0, .slice none 0 0] 27 (0, 0))) (h3 : gr ≠ g) (h4 : w.heap.size ≤ gr)
    (h6 : Kd.R (Kd.int .i64) 3 W w.heap.size (fun _ => True) vG []) (h7 : W.heap[n]? = some (.cells #[] 34 (0, 0))) (h8 : Below w.heap.size w W) (h9 : W.heap[gx]? = some (.cells #[v0, .slice none 0 0, .slice none 0 0] 27 (0, 0)))
    (ha : gr < b) (hb : w.heap.size ≤ b) (hc : b ≤ t) (hd : t ≤ W.heap.size) (he : ∀ k, vG.ownBlock = some k → t ≤ k) (hf : w.heap.size ≤ n) (hg : n < b ∨ t ≤ n) : CopyC w W K gx gr v0 (.pointer (some ⟨g, 0, none⟩)) :=
  ⟨g, b, t, vK, vG, _, rfl, h1, h2, h3, h4, h9, ha, hb, hc, hd, h5, h6, he, ⟨n, rfl, hf, h7, hg⟩, h8⟩
def CopyP (w : World) (K : List S55) (e : Ending) (w' : World) : Prop := ∃ vK vG vI : Value, e = .returned (.agg #[vK, vG, vI]) ∧ ∃ b t, Aside0 (Parts w w' b t vK vG vI K)
theorem Parts.set3 {w W : World} {b t g : Nat} {vK vG vI : Value} {K : List S55} (h : Parts w W b t vK vG vI K) {cs : Array Value} (hg : W.heap[g]? = some (.cells cs 27 (0, 0))) (hb : g < b) (hw : w.heap.size ≤ g) (x y z : Value) : Parts w (((W.setCell ⟨g, 0, none⟩ x).setCell ⟨g, 1, none⟩ y).setCell ⟨g, 2, none⟩ z) b t vK vG vI K := by
  obtain ⟨h1, h2, h3, h4, h5, h6, ⟨n, h7, h8, h9, h10⟩, h11⟩ := h
  have hne : ∀ k, (b ≤ k ∧ k < t) → k ≠ g := fun k hk e => by omega
  exact ⟨h1, h2, by simpa only [World.size_setCell] using h3, Kd.N_far (Kd.N_far (Kd.N_far h4 (p := ⟨g, 0, none⟩) hne x) (p := ⟨g, 1, none⟩) hne y) (p := ⟨g, 2, none⟩) hne z, R_set3 h5 hg no3_27 x y z, h6, ⟨n, h7, h8, put_far h9 (blk_ne h9 hg (by decide)) x y z, h10⟩, below_set3 h11 hw x y z⟩
set_option maxHeartbeats 4000000 in
set_option maxRecDepth 100000 in
theorem T_copy0 (w : World) (AK : Option Addr) (cK k : Nat) (K K2 : List S55) (hK : Kd.C k55 w AK K.length K) (hc : K.length ≤ cK) (hf : kind_Copy.f k K = some K2) :
    Calls Try.prog 32 #[.agg #[.slice AK K.length cK, .slice none 0 0, .slice none 0 0]] w (CopyP w K2) := by
  have HK := Aside0.mk (And.intro hK (And.intro hc hf))
  clear hK hc hf
  have HM := make0
  go_enter Try.func32, Try.ntmps32
  go_upto_region 1 with (fail)
  have B0 := below_alloc (below_alloc (Below.refl w.heap.size w) (.cells #[.slice AK K.length cK, .slice none 0 0, .slice none 0 0] 27)) (.cells #[.slice none 0 0, .slice none 0 0, .slice none 0 0] 27)
  have HX := Aside0.mk (blk_alloc (blk_new w (.cells #[.slice AK K.length cK, .slice none 0 0, .slice none 0 0] 27)) (.cells #[.slice none 0 0, .slice none 0 0, .slice none 0 0] 27))
  have HR := Aside0.mk (new2 (W := w) (o := .cells #[.slice AK K.length cK, .slice none 0 0, .slice none 0 0] 27) (o' := .cells #[.slice none 0 0, .slice none 0 0, .slice none 0 0] 27))
  have HB := Aside0.mk B0
  obtain ⟨w1, hw1⟩ : ∃ W, (w.alloc (.cells #[.slice AK K.length cK, .slice none 0 0, .slice none 0 0] 27)).alloc (.cells #[.slice none 0 0, .slice none 0 0, .slice none 0 0] 27) = W := ⟨_, rfl⟩
  obtain ⟨gx, hgx⟩ : ∃ k, w.heap.size = k := ⟨_, rfl⟩
  obtain ⟨gr, hgr⟩ : ∃ k, w.heap.size + 1 = k := ⟨_, rfl⟩
  rw [hgr] at HR ⊢
  rw [hw1] at HX HR HB ⊢
  have HE := Aside0.mk (show gx < w1.heap.size ∧ gr < w1.heap.size ∧ gx < gr from ⟨by rw [← hgx]; exact blk_lt HX.out, blk_lt HR.out, by omega⟩)
  have HX : Aside0 (w1.heap[gx]? = some (.cells #[.slice AK K.length cK, .slice none 0 0, .slice none 0 0] 27 (0, 0))) := ⟨hgx ▸ HX.out⟩
  rw [hgx]
  clear B0 hw1
  have HKp := Aside0.mk (show ∀ w', Below w1.heap.size w1 w' → w'.cell? ⟨gx, 0, none⟩ = some (.slice AK K.length cK) ∧ w'.cell? ⟨gx, 1, none⟩ = some (.slice none 0 0) ∧ w'.cell? ⟨gx, 2, none⟩ = some (.slice none 0 0) from
    fun w' h => by
      obtain ⟨a, b, c, _⟩ := cells3 (blk_below HX.out h)
      exact ⟨a, b, c⟩)
  have HC1 := Aside0.mk (show ∀ w', Below w1.heap.size w1 w' → Kd.C k55 w' AK K.length K from fun w' h => Kd.C_below (Kd.C_below HK.out.1 HB.out) h)
  go_cut [3] (fun v3 wc => Aside0 (CopyC w wc K2 gx gr (.slice AK K.length cK) v3))
  case rest =>
    obtain ⟨g, b, t, vK, vG, vI, rfl, h1, h2, h3, h4, h9, ha, hP⟩ := hcut.out
    have HF := Aside0.mk (And.intro h4 (And.intro ha (And.intro h2 hP)))
    obtain ⟨x0, x1, x2, _, _, _⟩ := cells3 h9
    obtain ⟨y0, y1, y2, _, _, _⟩ := cells3 h1
    obtain ⟨r0, r1, r2, z0, z1, z2⟩ := cells3 h2
    obtain ⟨AA, cA, e⟩ := Kd.N_slice hP.2.2.2.1
    subst e
    obtain ⟨AB, cB, e⟩ := Kd.R_slice hP.2.2.2.2.1
    replace e : vG = .slice AB 0 cB := e
    subst e
    obtain ⟨n, e, _⟩ := hP.2.2.2.2.2.2.1
    subst e
    clear hcut h1 h2 h3 h4 h9 ha hP HK HM HX HR HB HE HKp HC1
    go_wp2_with (fail)
    go_loopg [20] 1 (fun kq v20 w' => v20 = .int .i64 0 ∧ w' = wc)
    case atStart => exact ⟨rfl, rfl⟩
    case round =>
      obtain ⟨rfl, rfl⟩ := hrel
      go_upto_region 7 with (fail)
      have HW := Aside0.mk (put3 (a := .slice AA K2.length cA) (b := .slice AB 0 cB) (c := .slice (some ⟨n, 0, none⟩) 0 0) HF.out.2.2.1)
      obtain ⟨q0, q1, q2, _, _, _⟩ := cells3 HW.out
      have HN := Aside0.mk (show CopyP w K2 (.returned (.agg #[.slice AA K2.length cA, .slice AB 0 cB, .slice (some ⟨n, 0, none⟩) 0 0])) (((wr.setCell ⟨gr, 0, none⟩ (.slice AA K2.length cA)).setCell ⟨gr, 1, none⟩ (.slice AB 0 cB)).setCell ⟨gr, 2, none⟩ (.slice (some ⟨n, 0, none⟩) 0 0)) from
        ⟨_, _, _, rfl, b, t, ⟨HF.out.2.2.2.set3 HF.out.2.2.1 HF.out.2.1 HF.out.1 _ _ _⟩⟩)
      go_wp2_with (fail)
      generalize (((wr.setCell ⟨gr, 0, none⟩ (.slice AA K2.length cA)).setCell ⟨gr, 1, none⟩ (.slice AB 0 cB)).setCell ⟨gr, 2, none⟩ (.slice (some ⟨n, 0, none⟩) 0 0)) = w5 at HN q0 q1 q2 ⊢
      exact bodyPost_ret (v := .agg #[.slice AA K2.length cA, .slice AB 0 cB, .slice (some ⟨n, 0, none⟩) 0 0]) (by simp [results, Try.results32, go_sem, q0, q1, q2]) rfl HN.out
  go_region_held3 (fun w' => w'.cell? ⟨gx, 0, none⟩ = some (.slice AK K.length cK) ∧ w'.cell? ⟨gx, 1, none⟩ = some (.slice none 0 0) ∧ w'.cell? ⟨gx, 2, none⟩ = some (.slice none 0 0))
    (exact HKp.out _ (by (with_reducible repeat (first | exact Below.refl _ _ | apply below_alloc | apply below_drew1 | (refine below_step ?_ hb6) | (refine below_step ?_ hb7) | (refine below_set3 ?_ (by (have s6 := hb6.size; have s7 := hb7.size; have e1 := HE.out; have e2 := HB.out.size; simp only [World.size_alloc, size_drew'] at s6 s7 ⊢; omega)) _ _ _)))))
    (first
      | (go_at_call 29; (with_reducible refine (kind_Copy.calls k AK cK K K2 _ (HC1.out _ (by with_reducible repeat (first | exact Below.refl _ _ | apply below_alloc | apply below_drew1 | (refine below_step ?_ hb6) | (refine below_step ?_ hb7)))) HK.out.2.1 HK.out.2.2).mono ?_); rintro e w6 ⟨v6, rfl, hN6, hb6⟩; obtain ⟨A6, c6, e6⟩ := Kd.N_slice hN6; subst e6; (with_reducible first | (have p := blk_below (new2 (o' := (.cells #[.slice none 0 0, .slice none 0 0, .slice none 0 0] 27))) hb6; obtain ⟨p0, p1, p2, p3, p4, p5⟩ := cells3 p; have pl := blk_lt p; have pn := Nat.ne_of_lt (blk_lt p); have pm := Nat.ne_of_gt (blk_lt p)) | (have p := blk_below (blk_new _ (.cells #[.slice none 0 0, .slice none 0 0, .slice none 0 0] 27)) hb6; obtain ⟨p0, p1, p2, p3, p4, p5⟩ := cells3 p; have pl := blk_lt p; have pn := Nat.ne_of_lt (blk_lt p); have pm := Nat.ne_of_gt (blk_lt p)) | (have p := blk_below (blk_alloc (blk_new _ (.cells #[.slice none 0 0, .slice none 0 0, .slice none 0 0] 27)) _) hb6; obtain ⟨p0, p1, p2, p3, p4, p5⟩ := cells3 p; have pl := blk_lt p; have pn := Nat.ne_of_lt (blk_lt p); have pm := Nat.ne_of_gt (blk_lt p)) | (have p := blk_below (blk_drew (new2 (o' := (.cells #[.slice none 0 0, .slice none 0 0, .slice none 0 0] 27)))) hb6; obtain ⟨p0, p1, p2, p3, p4, p5⟩ := cells3 p; have pl := blk_lt p; have pn := Nat.ne_of_lt (blk_lt p); have pm := Nat.ne_of_gt (blk_lt p)) | (have p := blk_below (blk_drew (blk_new _ (.cells #[.slice none 0 0, .slice none 0 0, .slice none 0 0] 27))) hb6; obtain ⟨p0, p1, p2, p3, p4, p5⟩ := cells3 p; have pl := blk_lt p; have pn := Nat.ne_of_lt (blk_lt p); have pm := Nat.ne_of_gt (blk_lt p)) | (have p := blk_below (blk_drew (blk_alloc (blk_new _ (.cells #[.slice none 0 0, .slice none 0 0, .slice none 0 0] 27)) _)) hb6; obtain ⟨p0, p1, p2, p3, p4, p5⟩ := cells3 p; have pl := blk_lt p; have pn := Nat.ne_of_lt (blk_lt p); have pm := Nat.ne_of_gt (blk_lt p)) | (have p := blk_below (q) hb6; obtain ⟨p0, p1, p2, p3, p4, p5⟩ := cells3 p; have pl := blk_lt p; have pn := Nat.ne_of_lt (blk_lt p); have pm := Nat.ne_of_gt (blk_lt p)) | (have p := blk_below (blk_alloc q _) hb6; obtain ⟨p0, p1, p2, p3, p4, p5⟩ := cells3 p; have pl := blk_lt p; have pn := Nat.ne_of_lt (blk_lt p); have pm := Nat.ne_of_gt (blk_lt p)) | skip))
      | (go_at_call 10; (with_reducible refine (clone0 _).mono ?_); rintro e w7 ⟨v7, rfl, hN7, hb7⟩; obtain ⟨A7, c7, e7⟩ := Kd.R_slice hN7; subst e7; replace hN7 : Kd.R (Kd.int .i64) 3 w7 _ (fun _ => True) (.slice A7 0 c7) [] := hN7; (with_reducible first | (have q := blk_below (new2 (o' := (.cells #[.slice none 0 0, .slice none 0 0, .slice none 0 0] 27))) hb7; obtain ⟨q0, q1, q2, q3, q4, q5⟩ := cells3 q; have ql := blk_lt q; have qn := Nat.ne_of_lt (blk_lt q); have qm := Nat.ne_of_gt (blk_lt q)) | (have q := blk_below (blk_new _ (.cells #[.slice none 0 0, .slice none 0 0, .slice none 0 0] 27)) hb7; obtain ⟨q0, q1, q2, q3, q4, q5⟩ := cells3 q; have ql := blk_lt q; have qn := Nat.ne_of_lt (blk_lt q); have qm := Nat.ne_of_gt (blk_lt q)) | (have q := blk_below (blk_alloc (blk_new _ (.cells #[.slice none 0 0, .slice none 0 0, .slice none 0 0] 27)) _) hb7; obtain ⟨q0, q1, q2, q3, q4, q5⟩ := cells3 q; have ql := blk_lt q; have qn := Nat.ne_of_lt (blk_lt q); have qm := Nat.ne_of_gt (blk_lt q)) | (have q := blk_below (blk_drew (new2 (o' := (.cells #[.slice none 0 0, .slice none 0 0, .slice none 0 0] 27)))) hb7; obtain ⟨q0, q1, q2, q3, q4, q5⟩ := cells3 q; have ql := blk_lt q; have qn := Nat.ne_of_lt (blk_lt q); have qm := Nat.ne_of_gt (blk_lt q)) | (have q := blk_below (blk_drew (blk_new _ (.cells #[.slice none 0 0, .slice none 0 0, .slice none 0 0] 27))) hb7; obtain ⟨q0, q1, q2, q3, q4, q5⟩ := cells3 q; have ql := blk_lt q; have qn := Nat.ne_of_lt (blk_lt q); have qm := Nat.ne_of_gt (blk_lt q)) | (have q := blk_below (blk_drew (blk_alloc (blk_new _ (.cells #[.slice none 0 0, .slice none 0 0, .slice none 0 0] 27)) _)) hb7; obtain ⟨q0, q1, q2, q3, q4, q5⟩ := cells3 q; have ql := blk_lt q; have qn := Nat.ne_of_lt (blk_lt q); have qm := Nat.ne_of_gt (blk_lt q)) | (have q := blk_below (p) hb7; obtain ⟨q0, q1, q2, q3, q4, q5⟩ := cells3 q; have ql := blk_lt q; have qn := Nat.ne_of_lt (blk_lt q); have qm := Nat.ne_of_gt (blk_lt q)) | (have q := blk_below (blk_alloc p _) hb7; obtain ⟨q0, q1, q2, q3, q4, q5⟩ := cells3 q; have ql := blk_lt q; have qn := Nat.ne_of_lt (blk_lt q); have qm := Nat.ne_of_gt (blk_lt q)) | skip)))
  all_goals (go_wp2; go_meet)
  all_goals
    refine ⟨?_⟩
    apply CopyC.mk
    · (with_reducible repeat (first | exact new2 | exact blk_new _ _ | exact q | apply put3 | apply blk_alloc))
    · ((with_reducible repeat (apply Kd.N_alloc)); (with_reducible first | refine N_fin hN6 ?_ ?_ _ _ _ | refine N_fin1 hN6 ?_) <;> first | (first | (left; (have s6 := hb6.size; have s7 := hb7.size; have e1 := HE.out; have e2 := HB.out.size; simp only [World.size_alloc, size_drew'] at s6 s7 ⊢; omega)) | (right; (have s6 := hb6.size; have s7 := hb7.size; have e1 := HE.out; have e2 := HB.out.size; simp only [World.size_alloc, size_drew'] at s6 s7 ⊢; omega))) | ((with_reducible repeat (first | exact Below.refl _ _ | apply below_alloc | apply below_drew1 | (refine below_step ?_ hb6) | (refine below_step ?_ hb7) | (refine below_set3 ?_ (by (have s6 := hb6.size; have s7 := hb7.size; have e1 := HE.out; have e2 := HB.out.size; simp only [World.size_alloc, size_drew'] at s6 s7 ⊢; omega)) _ _ _))); done))
    · (with_reducible repeat (first | exact new_set3 | exact new2 | exact blk_new _ _ | exact HR.out | exact HX.out | apply blk_alloc | apply blk_drew | (refine blk_below ?_ hb6) | (refine blk_below ?_ hb7) | (refine put_far ?_ (by (have s6 := hb6.size; have s7 := hb7.size; have e1 := HE.out; have e2 := HB.out.size; simp only [World.size_alloc, size_drew'] at s6 s7 ⊢; omega)) _ _ _)))
    · (have s6 := hb6.size; have s7 := hb7.size; have e1 := HE.out; have e2 := HB.out.size; simp only [World.size_alloc, size_drew'] at s6 s7 ⊢; omega)
    · omega
    · ((with_reducible repeat (apply Kd.R_alloc)); (with_reducible first | refine R_fin (cs := #[.slice none 0 0, .slice none 0 0, .slice none 0 0]) hN7 ?_ ?_ ?_ no3_27 _ _ _ | refine R_low hN7 ?_ ?_) <;> first | (have s6 := hb6.size; have s7 := hb7.size; have e1 := HE.out; have e2 := HB.out.size; simp only [World.size_alloc, size_drew'] at s6 s7 ⊢; omega) | exact q | ((with_reducible repeat (first | exact Below.refl _ _ | apply below_alloc | apply below_drew1 | (refine below_step ?_ hb6) | (refine below_step ?_ hb7) | (refine below_set3 ?_ (by (have s6 := hb6.size; have s7 := hb7.size; have e1 := HE.out; have e2 := HB.out.size; simp only [World.size_alloc, size_drew'] at s6 s7 ⊢; omega)) _ _ _))); done))
    · (with_reducible repeat (first | exact new_set3 | exact new2 | exact blk_new _ _ | exact HR.out | exact HX.out | apply blk_alloc | apply blk_drew | (refine blk_below ?_ hb6) | (refine blk_below ?_ hb7) | (refine put_far ?_ (by (have s6 := hb6.size; have s7 := hb7.size; have e1 := HE.out; have e2 := HB.out.size; simp only [World.size_alloc, size_drew'] at s6 s7 ⊢; omega)) _ _ _)))
    · exact below_step HB.out (by (with_reducible repeat (first | exact Below.refl _ _ | apply below_alloc | apply below_drew1 | (refine below_step ?_ hb6) | (refine below_step ?_ hb7) | (refine below_set3 ?_ (by (have s6 := hb6.size; have s7 := hb7.size; have e1 := HE.out; have e2 := HB.out.size; simp only [World.size_alloc, size_drew'] at s6 s7 ⊢; omega)) _ _ _))))
    · (with_reducible repeat (first | exact new_set3 | exact new2 | exact blk_new _ _ | exact HR.out | exact HX.out | apply blk_alloc | apply blk_drew | (refine blk_below ?_ hb6) | (refine blk_below ?_ hb7) | (refine put_far ?_ (by (have s6 := hb6.size; have s7 := hb7.size; have e1 := HE.out; have e2 := HB.out.size; simp only [World.size_alloc, size_drew'] at s6 s7 ⊢; omega)) _ _ _)))
    · (have s6 := hb6.size; have s7 := hb7.size; have e1 := HE.out; have e2 := HB.out.size; simp only [World.size_alloc, size_drew'] at s6 s7 ⊢; omega)
    · (have s6 := hb6.size; have s7 := hb7.size; have e1 := HE.out; have e2 := HB.out.size; simp only [World.size_alloc, size_drew'] at s6 s7 ⊢; omega)
    · exact hb6.size
    · simp only [World.size_alloc, World.size_setCell]; (have s6 := hb6.size; have s7 := hb7.size; have e1 := HE.out; have e2 := HB.out.size; simp only [World.size_alloc, size_drew'] at s6 s7 ⊢; omega)
    · exact fun k hk => Nat.le_trans (by (have s6 := hb6.size; have s7 := hb7.size; have e1 := HE.out; have e2 := HB.out.size; simp only [World.size_alloc, size_drew'] at s6 s7 ⊢; omega)) ((Kd.R_bound hN7).1 k hk).2.1
    · (have s6 := hb6.size; have s7 := hb7.size; have e1 := HE.out; have e2 := HB.out.size; simp only [World.size_alloc, size_drew'] at s6 s7 ⊢; omega)
    · (first | (left; (have s6 := hb6.size; have s7 := hb7.size; have e1 := HE.out; have e2 := HB.out.size; simp only [World.size_alloc, size_drew'] at s6 s7 ⊢; omega)) | (right; (have s6 := hb6.size; have s7 := hb7.size; have e1 := HE.out; have e2 := HB.out.size; simp only [World.size_alloc, size_drew'] at s6 s7 ⊢; omega)))
end Go.Proofs.Ytlbicibihdkpnaa.P
namespace Go.Proofs.Ytlbicibihdkpnaa.P
open Go.RowKit Go.Proofs.YtlbicibihdkpnaaW.PrintWords Go.Proofs.YtlbicibihdkpnaaW.PrintLast Go.Proofs.YtlbicibihdkpnaaW.PrintMore
set_option linter.unusedVariables false
set_option linter.unusedSimpArgs false

theorem info4b : (Try.prog.info? 4).map (fun i => (i.zero, i.size, i.bytes)) = some (some (.bool false), 1, 1) := by kernel_rfl
theorem make0b (W : World) : Sem.run Try.prog (Instr.makeSlice 44 (.int .i64 0) (.int .i64 0)) W = .ok (.slice (some ⟨W.heap.size, 0, none⟩) 0 0) (W.alloc (.cells #[] 4)) := by
  obtain ⟨i0, hi, hzz⟩ := Option.map_eq_some_iff.1 info4b
  simp only [Prod.mk.injEq] at hzz
  obtain ⟨hz0, hz1, hz2⟩ := hzz
  have hr := run_make (P := Try.prog) W 44 4 i0 (.bool false) (by kernel_rfl) hi hz0 .i64 .i64 0 0 (by omega) (by omega) (by omega) (by omega)
  rw [hz1, show madeCells _ (Int.toNat 0 * 1) = #[] from Array.eq_empty_of_size_eq_zero (by simp [size_madeCells])] at hr
  exact hr
set_option maxHeartbeats 4000000 in
set_option maxRecDepth 100000 in
theorem T_free0 (w : World) (AK AG AI : Option Addr) (nK cK cG cI : Nat) :
    Calls Try.prog 31 #[.agg #[.slice AK nK cK, .slice AG 0 cG, .slice AI 0 cI]] w fun e w' => e = .returned (.tuple #[.int .i64 0, .bool true]) ∧ Below w.heap.size w w' := by
  have HM := make0b
  go_enter Try.func31, Try.ntmps31
  go_upto_region 2 with (fail)
  have HB := Aside0.mk (below_alloc (below_alloc (Below.refl w.heap.size w) (.cells #[.slice AK nK cK, .slice AG 0 cG, .slice AI 0 cI] 27)) (.cells #[] 4))
  have HX := Aside0.mk (blk_alloc (blk_new w (.cells #[.slice AK nK cK, .slice AG 0 cG, .slice AI 0 cI] 27)) (.cells #[] 4))
  generalize (w.alloc (.cells #[.slice AK nK cK, .slice AG 0 cG, .slice AI 0 cI] 27)).alloc (.cells #[] 4) = w1 at HB HX ⊢
  obtain ⟨x0, x1, x2, _, _, _⟩ := cells3 HX.out
  go_wp2_with (fail)
  go_loopg [16] 1 (fun kq v16 w' => v16 = .int .i64 0 ∧ w' = w1)
  case atStart => exact ⟨rfl, rfl⟩
  case round =>
    obtain ⟨rfl, rfl⟩ := hrel
    go_wp2_with (fail)
    go_loopg [41] 1 (fun kq v41 w' => v41 = .int .i64 0 ∧ w' = wr)
    case atStart => exact ⟨rfl, rfl⟩
    case round =>
      obtain ⟨rfl, rfl⟩ := hrel
      go_wp2_with (fail)
      go_quiet (fail)
      go_wp2
      go_ret2
      exact ⟨rfl, pw_below_drewN HB.out _⟩
set_option maxHeartbeats 4000000 in
set_option maxRecDepth 100000 in
theorem T_bs0 (w : World) (A : Option Addr) (c : Nat) (x : Int) :
    Calls Try.prog 33 #[.slice A 0 c, .int .i64 x, .func (.func 34) #[] #[]] w fun e w' => e = .returned (.tuple #[.int .i64 0, .bool false]) ∧ w' = w := by
  go_enter Try.func33, Try.ntmps33
  go_wp2_with (fail)
  go_loopg [9, 10] 1 (fun kq v9 v10 w' => v9 = .int .i64 0 ∧ v10 = .int .i64 0 ∧ w' = w)
  case atStart => exact ⟨rfl, rfl, rfl⟩
  case round =>
    obtain ⟨rfl, rfl, rfl⟩ := hrel
    go_wp2_with (fail)
    go_ret2
    exact ⟨rfl, rfl⟩
end Go.Proofs.Ytlbicibihdkpnaa.P
namespace Go.Proofs.Ytlbicibihdkpnaa.P
open Go.RowKit Go.Proofs.YtlbicibihdkpnaaW.PrintWords Go.Proofs.YtlbicibihdkpnaaW.PrintLast Go.Proofs.YtlbicibihdkpnaaW.PrintMore
set_option linter.unusedVariables false
set_option linter.unusedSimpArgs false

set_option maxHeartbeats 4000000 in
set_option maxRecDepth 100000 in
theorem T_ins1 (w : World) (A : Option Addr) (c : Nat) (f : Value) :
    Calls Try.prog 68 #[.slice A 1 c, .int .i64 0, .int .i64 1, f] w fun e w' => e = .returned (.tuple #[]) ∧ w' = w := by
  go_enter Try.func68, Try.ntmps68
  go_wp2_with (fail)
  go_loopg [8] 1 (fun kq v8 w' => v8 = .int .i64 1 ∧ w' = w)
  case atStart => exact ⟨rfl, rfl⟩
  case round =>
    obtain ⟨rfl, rfl⟩ := hrel
    go_wp2_with (fail)
    go_end0
    exact ⟨rfl, rfl⟩
set_option maxHeartbeats 4000000 in
set_option maxRecDepth 100000 in
theorem T_pdq1 (w : World) (A : Option Addr) (c : Nat) (f : Value) (l : Int) :
    Calls Try.prog 64 #[.slice A 1 c, .int .i64 0, .int .i64 1, .int .i64 l, f] w fun e w' => e = .returned (.tuple #[]) ∧ w' = w := by
  go_enter Try.func64, Try.ntmps64
  go_upto_region 2 with (fail)
  go_loopg [1, 2] 1 (fun kq v1 v2 w' => v1 = .int .i64 0 ∧ v2 = .int .i64 1 ∧ w' = w)
  case atStart => exact ⟨rfl, rfl, rfl⟩
  case round =>
    obtain ⟨rfl, rfl, rfl⟩ := hrel
    go_wp2_with (fail)
    refine (T_ins1 wr A c f).mono ?_
    rintro e w' ⟨rfl, rfl⟩
    go_wp2_with (fail)
    refine bodyPost_ret (results_none rfl _ _ _) rfl ?_
    exact ⟨rfl, rfl⟩
set_option maxHeartbeats 4000000 in
set_option maxRecDepth 100000 in
theorem T_sort1 (w : World) (A : Option Addr) (c : Nat) :
    Calls Try.prog 51 #[.slice A 1 c, .func (.func 52) #[] #[]] w fun e w' => e = .returned (.tuple #[]) ∧ Below w.heap.size w w' := by
  have HL := Aside0.mk (show bits_Len.f 100 1 = some 1 by decide +kernel)
  go_enter Try.func51, Try.ntmps51
  go_wp2_with (fail)
  refine (bits_Len.calls 100 1 1 w HL.out).mono ?_
  rintro e w' ⟨rfl, ⟨m, rfl⟩⟩
  go_wp2_with (fail)
  refine (T_pdq1 _ A c _ 1).mono ?_
  rintro e w' ⟨rfl, rfl⟩
  go_wp2_with (fail)
  go_end0
  exact ⟨rfl, pw_below_drewN (Below.refl _ _) _⟩
set_option maxHeartbeats 4000000 in
set_option maxRecDepth 100000 in
theorem T_idx0 (w : World) (A : Option Addr) (c : Nat) (f : Value) :
    Calls Try.prog 62 #[.slice A 0 c, f] w fun e w' => e = .returned (.int .i64 (-1)) ∧ w' = w := by
  go_enter Try.func62, Try.ntmps62
  go_wp2_with (fail)
  go_loopg [8] 1 (fun kq v8 w' => v8 = .int .i64 0 ∧ w' = w)
  case atStart => exact ⟨rfl, rfl⟩
  case round =>
    obtain ⟨rfl, rfl⟩ := hrel
    go_wp2_with (fail)
    go_ret
    exact ⟨rfl, rfl⟩
set_option maxHeartbeats 4000000 in
set_option maxRecDepth 100000 in
theorem T_has0 (w : World) (A : Option Addr) (c : Nat) (f : Value) :
    Calls Try.prog 48 #[.slice A 0 c, f] w fun e w' => e = .returned (.bool false) ∧ w' = w := by
  go_enter Try.func48, Try.ntmps48
  go_wp2_with (fail)
  refine (T_idx0 w A c f).mono ?_
  rintro e w' ⟨rfl, rfl⟩
  go_wp2_with (fail)
  go_ret
  exact ⟨rfl, rfl⟩
end Go.Proofs.Ytlbicibihdkpnaa.P
namespace Go.Proofs.Ytlbicibihdkpnaa.P
open Go.RowKit Go.Proofs.YtlbicibihdkpnaaW.PrintWords Go.Proofs.YtlbicibihdkpnaaW.PrintLast Go.Proofs.YtlbicibihdkpnaaW.PrintMore
set_option linter.unusedVariables false
set_option linter.unusedSimpArgs false

theorem add0 (a : Addr) : a.add 0 = a := by
  obtain ⟨b, o, i⟩ := a
  cases i <;> simp [Addr.add]
def F1 : List S52 := [⟨⟨#[120]⟩, 4, 0⟩]
def K1 : List S55 := [⟨⟨#[97]⟩, F1⟩]
def C1 : List S59 := [⟨0, [3]⟩]
theorem check1 : kind_Check.f 100 K1 = some 0 := by decide +kernel
theorem fit1 : kind_Fit.f 100 ⟨#[97]⟩ F1 [3] = some ([3], 0) := by decide +kernel
theorem fit50 (w : World) (AF AV : Option Addr) (cF cV : Nat) (hF : Kd.C k52 w AF F1.length F1) (h1 : 1 ≤ cF) (hV : Kd.C (Kd.int .i64) w AV [3].length [3]) (h2 : 1 ≤ cV) :
    Calls Try.prog 50 #[.agg #[.string ⟨#[97]⟩, .slice AF 1 cF], .slice AV 1 cV] w fun e w' => ∃ A n c, e = .returned (.tuple #[.slice A n c, .int .i64 0]) ∧ Kd.R (Kd.int .i64) 3 w' w.heap.size (fun _ => True) (.slice A n c) [3] ∧ Below w.heap.size w w' :=
  (kind_Fit.calls 100 ⟨#[97]⟩ AF cF F1 AV cV [3] [3] 0 w hF h1 hV h2 fit1).mono (by
    rintro e w' ⟨v, rfl, hR, hb⟩
    obtain ⟨n, A, c, e⟩ := R_slice3 hR
    subst e
    exact ⟨A, n, c, rfl, hR, hb⟩)
def FitP (w : World) (e : Ending) (w' : World) : Prop := ∃ A c, e = .returned (.tuple #[.slice A 1 c, .int .i64 0]) ∧ Aside0 (Kd.R k59 59 w' w.heap.size (fun _ => True) (.slice A 1 c) C1 ∧ Below w.heap.size w w')
set_option maxHeartbeats 4000000 in
set_option maxRecDepth 100000 in
theorem T_fit1 (w : World) (AK AL : Option Addr) (cK cL : Nat) (hK : Kd.C k55 w AK K1.length K1) (hc : 1 ≤ cK) (hL : Kd.C k59 w AL C1.length C1) (hl : 1 ≤ cL) :
    Calls Try.prog 30 #[.slice AK 1 cK, .slice AL 1 cL] w (FitP w) := by
  have HK := Aside0.mk hK
  have HL := Aside0.mk hL
  have HC := Aside0.mk (And.intro hc hl)
  obtain ⟨ak, AF, cF, e, y0, y1, y2, y3⟩ := at_T55 hK 0 (by omega) (by decide)
  subst e
  obtain ⟨al, AV, cV, e, u0, u1, u2, u3⟩ := at_T59 hL 0 (by omega) (by decide)
  subst e
  replace y0 : w.cell? (ak.add 0) = some (.string ⟨#[97]⟩) := y0
  replace y1 : w.cell? ⟨(ak.add 0).block, (ak.add 0).off + 1, none⟩ = some (.slice AF 1 cF) := y1
  replace u0 : w.cell? (al.add 0) = some (.int .i64 0) := u0
  replace u1 : w.cell? ⟨(al.add 0).block, (al.add 0).off + 1, none⟩ = some (.slice AV 1 cV) := u1
  rw [add0] at y0 y1
  rw [add0] at u0 u1
  have HF := Aside0.mk (show 1 ≤ cF ∧ Kd.C k52 w AF F1.length F1 from ⟨y2, y3⟩)
  have HV := Aside0.mk (show 1 ≤ cV ∧ Kd.C (Kd.int .i64) w AV 1 [3] from ⟨u2, u3⟩)
  have HY := Aside0.mk (And.intro y0 (And.intro y1 (And.intro u0 u1)))
  clear hK hc hL hl y0 y1 y2 y3 u0 u1 u2 u3
  go_enter Try.func30, Try.ntmps30
  go_wp2_with (fail)
  refine (kind_Check.calls 100 _ _ K1 0 w HK.out HC.out.1 check1).mono ?_
  rintro e w1 ⟨rfl, hb⟩
  have HB := Aside0.mk hb
  clear hb
  go_wp2_with (fail)
  go_loopg [7, 19] 2 (fun kq v7 v19 w' => (kq = 2 ∧ v7 = .slice none 0 0 ∧ v19 = .int .i64 0 ∧ w' = w1) ∨ (kq = 1 ∧ ∃ A c, v7 = .slice A 1 c ∧ v19 = .int .i64 1 ∧ Aside0 (Kd.R k59 59 w' w.heap.size (fun _ => True) v7 C1 ∧ Below w.heap.size w w')))
  case atStart => exact .inl ⟨rfl, rfl, rfl, rfl⟩
  case round =>
    rcases hrel with ⟨rfl, rfl, rfl, rfl⟩ | ⟨rfl, A, c, rfl, rfl, HR⟩
    · have u0 := (HB.out.cell (p := al) (World.block_lt_of_cell? w _ HY.out.2.2.1)).trans HY.out.2.2.1
      have u1 := (HB.out.cell (p := ⟨al.block, al.off + 1, none⟩) (World.block_lt_of_cell? w _ HY.out.2.2.2)).trans HY.out.2.2.2
      go_upto_region 8 with (fail)
      have b1 := below_alloc (Below.refl wr.heap.size wr) (.cells #[.int .i64 0, .slice AV 1 cV] 59)
      have HX := Aside0.mk (blk_new wr (.cells #[.int .i64 0, .slice AV 1 cV] 59))
      have HB := Aside0.mk (below_step HB.out b1)
      generalize wr.heap.size = g9 at HX ⊢
      generalize wr.alloc (.cells #[.int .i64 0, .slice AV 1 cV] 59) = w2 at HX HB ⊢
      clear u0 u1 b1
      obtain ⟨x0, x1, _, _⟩ := cells2 HX.out
      go_wp2_with (fail)
      refine (T_has0 w2 (some al) cL _).mono ?_
      rintro e w2 ⟨rfl, rfl⟩
      go_upto_region 12 with (fail)
      go_cut [10, 11] (fun v10 v11 wc => v11 = .int .i64 0 ∧ ∃ A n c, v10 = .slice A n c ∧ Aside0 (Kd.R (Kd.int .i64) 3 wc w.heap.size (fun k => g9 < k) v10 [3] ∧ Below w.heap.size w wc ∧ wc.heap[g9]? = some (.cells #[.int .i64 0, .slice AV 1 cV] 59 (0, 0))))
      case rest =>
        obtain ⟨rfl, A, n, c, rfl, HR⟩ := hcut
        obtain ⟨x0, x1, _, _⟩ := cells2 HR.out.2.2
        clear HX HB
        go_wp2_with (((with_reducible refine gate_builtin (b := .append) (xs := #[.tmp 53, .tmp 58]) rfl ?_); at_builtin; refine Kd.R_append k59 (w0 := w) w.heap.size rfl (.tmp 53) (.tmp 58) 32 59 (.agg #[.int .i64 0, .slice none 0 0]) 32 rfl Try.underlying32 info59' rfl (by decide) (by decide) (.slice none 0 0) [] (⟨0, [3]⟩ : S59) [.int .i64 0, .slice A n c] (fun _ => True) (fun k => g9 < k) rfl rfl ?aP ?aK ?aF ?aO ?aB ?aS ?aL ?_; (case aP => exact k59_mkM _ _ _ _ HR.out.1); (case aK => exact (fun k hk => ⟨trivial, by simp [Value.ownBlock]⟩)); (case aF => exact (fun _ _ => trivial)); (case aO => exact Kd.R_nil _ _ _ _ _); (case aB => exact HR.out.2.1); (case aS => exact below_size HR.out.2.1); (case aL => decide); intro v9 w9 ho hb hg hat; obtain ⟨A9, c9, e9⟩ := Kd.R_slice ho; replace e9 : v9 = .slice A9 1 c9 := e9; subst e9; have HZ := Aside0.mk (And.intro ho hb); clear ho hb hg hat))
        go_roundg 1
        case measure => omega
        case rel => exact .inr ⟨rfl, A9, c9, rfl, rfl, HZ⟩
      case first =>
        have HKp := Aside0.mk (show ∀ W, Below w2.heap.size w2 W → W.cell? ⟨g9, 0, none⟩ = some (.int .i64 0) ∧ W.cell? ⟨g9, 1, none⟩ = some (.slice AV 1 cV) ∧ W.cell? ak = some (.string ⟨#[97]⟩) ∧ W.cell? ⟨ak.block, ak.off + 1, none⟩ = some (.slice AF 1 cF) from fun W h => by
          have hw := below_step HB.out h
          obtain ⟨a, b, _, _⟩ := cells2 (blk_below HX.out h)
          exact ⟨a, b, (hw.cell (p := ak) (World.block_lt_of_cell? w _ HY.out.1)).trans HY.out.1, (hw.cell (p := ⟨ak.block, ak.off + 1, none⟩) (World.block_lt_of_cell? w _ HY.out.2.1)).trans HY.out.2.1⟩)
        have HC2 := Aside0.mk (show ∀ W, Below w2.heap.size w2 W → Kd.C k52 W AF F1.length F1 ∧ Kd.C (Kd.int .i64) W AV [3].length [3] from fun W h => ⟨Kd.C_below HF.out.2 (below_step HB.out h), Kd.C_below HV.out.2 (below_step HB.out h)⟩)
        have HG := Aside0.mk (blk_lt HX.out)
        go_region_held3 (fun W => W.cell? ⟨g9, 0, none⟩ = some (.int .i64 0) ∧ W.cell? ⟨g9, 1, none⟩ = some (.slice AV 1 cV) ∧ W.cell? ak = some (.string ⟨#[97]⟩) ∧ W.cell? ⟨ak.block, ak.off + 1, none⟩ = some (.slice AF 1 cF))
          (exact HKp.out _ (by with_reducible repeat (first | exact Below.refl _ _ | apply below_drew1 | apply pw_below_drewN | (refine below_step ?_ hb6))))
          (first
            | (go_at_call 50; (with_reducible refine (fit50 _ AF AV cF cV (HC2.out _ (by with_reducible repeat (first | exact Below.refl _ _ | apply below_drew1 | apply pw_below_drewN))).1 HF.out.1 (HC2.out _ (by with_reducible repeat (first | exact Below.refl _ _ | apply below_drew1 | apply pw_below_drewN))).2 HV.out.1).mono ?_); rintro e w6 ⟨A6, n6, c6, rfl, hR6, hb6⟩))
        all_goals
          go_wp2
          go_meet
          refine ⟨rfl, A6, n6, c6, rfl, ⟨?_, ?_, ?_⟩⟩
          · exact Kd.R_lower (Kd.R_mono (Kd.R_bound hR6) (fun k hk => Nat.lt_of_lt_of_le HG.out hk.2.1)) (below_size (below_step HB.out (by with_reducible repeat (first | exact Below.refl _ _ | apply below_drew1 | apply pw_below_drewN))))
          · exact below_step (below_step HB.out (by with_reducible repeat (first | exact Below.refl _ _ | apply below_drew1 | apply pw_below_drewN))) hb6
          · exact blk_below (blk_below HX.out (by with_reducible repeat (first | exact Below.refl _ _ | apply below_drew1 | apply pw_below_drewN))) hb6
    · go_wp2_with (fail)
      refine (T_sort1 wr A c).mono ?_
      rintro e w2 ⟨rfl, hb⟩
      go_wp2_with (fail)
      go_ret2
      exact ⟨A, c, rfl, ⟨Kd.R_below HR.out.1 hb, below_step HR.out.2 hb⟩⟩
end Go.Proofs.Ytlbicibihdkpnaa.P
namespace Go.Proofs.Ytlbicibihdkpnaa.P
open Go.RowKit Go.Proofs.YtlbicibihdkpnaaW.PrintWords Go.Proofs.YtlbicibihdkpnaaW.PrintLast Go.Proofs.YtlbicibihdkpnaaW.PrintMore
set_option linter.unusedVariables false
set_option linter.unusedSimpArgs false

/-- what is not block gI lies as it lay -/
def Fi (W W' : World) (gI : Nat) : Prop := W.heap.size ≤ W'.heap.size ∧ ∀ k, k < W.heap.size → k ≠ gI → W'.heap[k]? = W.heap[k]?
def I1 : List S34 := [⟨⟨0, 0⟩, C1⟩]
theorem mem59 : ∀ q, q ∈ 59 :: k59.E → q = 59 ∨ q = 3 := by
  intro q hq
  simpa [k59, Kd.iso, Kd.pair, Kd.slice, Kd.int, Kd.scalar] using hq
theorem no59 {t : Nat} (h1 : 59 ≠ t) (h2 : 3 ≠ t) : ∀ q, q ∈ 59 :: k59.E → q ≠ t := fun q hq => (mem59 q hq).elim (fun e => e ▸ h1) (fun e => e ▸ h2)
theorem lit_row (w : World) (gv : Nat) (a b c : Value) (P : S34 → List Value → Prop) (hP : P ⟨⟨0, 0⟩, C1⟩ [a, b, c]) (h : w.heap[gv]? = some (.cells #[a, b, c] 34 (0, 0))) : ReadsRow P 3 w (some ⟨gv, 0, none⟩) 1 I1 := by
  obtain ⟨x0, x1, x2, _, _, _⟩ := cells3 h
  refine ⟨rfl, by decide, fun _ => ⟨_, rfl, fun j p hj => ?_⟩⟩
  cases j with
  | zero =>
    obtain rfl : (⟨⟨0, 0⟩, C1⟩ : S34) = p := by simpa [I1] using hj
    refine ⟨_, rfl, hP, fun i u hi => ?_⟩
    rw [add_plain, Nat.zero_mul, Nat.zero_add]
    match i, hi with
    | 0, hi => injection hi with hi; subst hi; exact x0
    | 1, hi => injection hi with hi; subst hi; exact x1
    | 2, hi => injection hi with hi; subst hi; exact x2
    | i + 3, hi => simp at hi
  | succ j => simp [I1] at hj
set_option maxHeartbeats 4000000 in
set_option maxRecDepth 100000 in
theorem T_insert (w w0 : World) (gI gv c c9 : Nat) (A9 : Option Addr) (csI : Array Value) (hI : Kd.R k34 34 w w0.heap.size (fun _ => True) (.slice (some ⟨gI, 0, none⟩) 0 c) []) (hgI : w.heap[gI]? = some (.cells csI 34 (0, 0))) (hB : Below w0.heap.size w0 w)
    (hv : w.heap[gv]? = some (.cells #[.int .i64 0, .int .i64 0, .slice A9 1 c9] 34 (0, 0))) (h9 : Kd.R k59 59 w w0.heap.size (fun _ => True) (.slice A9 1 c9) C1) :
    Calls Try.prog 36 #[.slice (some ⟨gI, 0, none⟩) 0 c, .int .i64 0, .slice (some ⟨gv, 0, none⟩) 1 1] w fun e w' => ∃ A n c, e = .returned (.slice A n c) ∧ Kd.R k34 34 w' w0.heap.size (fun _ => True) (.slice A n c) I1 ∧ Below w0.heap.size w0 w' ∧ Fi w w' gI := by
  have HI := Aside0.mk hI
  have HB := Aside0.mk hB
  have HR := Aside0.mk (Kd.R_types h9 hgI (no59 (by decide) (by decide)))
  have HV := Aside0.mk hv
  have HG := Aside0.mk hgI
  clear hI hB hv h9 hgI
  go_enter Try.func36, Try.ntmps36
  go_wp2_with (((with_reducible refine gate_builtin (b := .append) (xs := #[.tmp 23, .tmp 24]) rfl ?_); at_builtin; refine Kd.R_append_rows k34 (Rr := fun x cs => x = (⟨⟨0, 0⟩, C1⟩ : S34) ∧ cs = [.int .i64 0, .int .i64 0, .slice A9 1 c9]) (w0 := w0) w0.heap.size rfl (.tmp 23) (.tmp 24) 25 34 (.agg #[.int .i64 0, .int .i64 0, .slice none 0 0]) 40 rfl Try.underlying25 info34c rfl (by decide) (by decide) (.slice (some ⟨gI, 0, none⟩) 0 c) [] I1 (some ⟨gv, 0, none⟩) 1 1 (fun _ => True) (fun k => True ∧ k ≠ gI) rfl rfl ?aO ?aR ?aM ?aK ?aF ?aB ?aS ?aL ?_; (case aO => exact HI.out); (case aR => exact lit_row _ _ _ _ _ _ ⟨rfl, rfl⟩ HV.out); (case aM => (rintro x cs ⟨rfl, rfl⟩; exact k34_mkM _ _ _ _ HR.out)); (case aK => exact (fun k hk => ⟨trivial, fun e => hk.2 (by simpa [Value.ownBlock] using e)⟩)); (case aF => exact (fun _ _ => trivial)); (case aB => exact HB.out); (case aS => exact below_size HB.out); (case aL => decide); intro v1 w1 ho hb hg hat; obtain ⟨n2, A2, c2, e2⟩ := R_slice3 ho; subst e2; have HZ := Aside0.mk (And.intro ho (And.intro hb hg)); clear ho hb hg hat))
  go_ret
  refine ⟨A2, n2, c2, rfl, HZ.out.1, HZ.out.2.1, HZ.out.2.2.size, fun k hk hne => HZ.out.2.2.block k hk (by simpa [Value.ownBlock] using hne)⟩
end Go.Proofs.Ytlbicibihdkpnaa.P
namespace Go.Proofs.Ytlbicibihdkpnaa.P
open Go.RowKit Go.Proofs.YtlbicibihdkpnaaW.PrintWords Go.Proofs.YtlbicibihdkpnaaW.PrintLast Go.Proofs.YtlbicibihdkpnaaW.PrintMore
set_option linter.unusedVariables false
set_option linter.unusedSimpArgs false

theorem wcheck1 : world_Check.f 100 K1 [] [] = some 0 := by decide +kernel
theorem kcopy1 : kind_Copy.f 100 K1 = some K1 := by kernel_rfl
theorem check21 (w : World) (AK : Option Addr) (cK : Nat) (hK : Kd.C k55 w AK K1.length K1) (hc : 1 ≤ cK) : Calls Try.prog 21 #[.agg #[.slice AK 1 cK, .slice none 0 0, .slice none 0 0]] w fun e w' => e = .returned (.int .i64 0) ∧ Below w.heap.size w w' :=
  world_Check.calls 100 AK cK K1 none 0 [] none 0 [] 0 w hK hc (C_nil _ _) (Nat.le_refl _) (C_nil _ _) (Nat.le_refl _) wcheck1
theorem copy32 (w : World) (AK : Option Addr) (cK : Nat) (hK : Kd.C k55 w AK K1.length K1) (hc : 1 ≤ cK) : Calls Try.prog 32 #[.agg #[.slice AK 1 cK, .slice none 0 0, .slice none 0 0]] w (CopyP w K1) :=
  T_copy0 w AK cK 100 K1 K1 hK hc kcopy1
/-- the three boxes of Spawn -/
def Boxes (W : World) (g2 g4 g5 : Nat) (a b c : Value) : Prop := W.heap[g2]? = some (.cells #[a, b, c] 27 (0, 0)) ∧ W.heap[g4]? = some (.cells #[.slice none 0 0, .slice none 0 0, .slice none 0 0] 27 (0, 0)) ∧ W.heap[g5]? = some (.cells #[.int .i64 0, .int .i64 0] 31 (0, 0)) ∧ g2 < g4 ∧ g4 < g5
theorem Boxes.below {W W' : World} {g2 g4 g5 : Nat} {a b c : Value} (h : Boxes W g2 g4 g5 a b c) (hb : Below W.heap.size W W') : Boxes W' g2 g4 g5 a b c := ⟨blk_below h.1 hb, blk_below h.2.1 hb, blk_below h.2.2.1 hb, h.2.2.2⟩
/-- behind Copy: the world's box g2, the answer's boxes g4 and g5 -/
structure SS (w W : World) (g2 g4 g5 b t n : Nat) (vK vG : Value) (G : List Int) (A9 : Option Addr) (c9 : Nat) : Prop where
  bx : Boxes W g2 g4 g5 vK vG (.slice (some ⟨n, 0, none⟩) 0 0)
  lt : w.heap.size ≤ g2 ∧ g5 < b ∧ b ≤ t ∧ t ≤ W.heap.size
  k : Kd.N k55 55 W b (fun k => b ≤ k ∧ k < t) vK K1
  g : Kd.R (Kd.int .i64) 3 W w.heap.size (fun _ => True) vG G
  gt : ∀ k, vG.ownBlock = some k → t ≤ k
  f : Kd.R k59 59 W w.heap.size (fun k => k < b) (.slice A9 1 c9) C1
  i : w.heap.size ≤ n ∧ W.heap[n]? = some (.cells #[] 34 (0, 0)) ∧ (n < b ∨ t ≤ n)
  b : Below w.heap.size w W
section
variable {w W W1 : World} {g2 g4 g5 b t n c9 : Nat} {vK vG v1 : Value} {G G1 : List Int} {A9 : Option Addr}
theorem SS.below (h : SS w W g2 g4 g5 b t n vK vG G A9 c9) (hb : Below W.heap.size W W1) : SS w W1 g2 g4 g5 b t n vK vG G A9 c9 :=
  ⟨h.bx.below hb, ⟨h.lt.1, h.lt.2.1, h.lt.2.2.1, Nat.le_trans h.lt.2.2.2 hb.size⟩, Kd.N_below h.k hb, Kd.R_below h.g hb, h.gt, Kd.R_below h.f hb, ⟨h.i.1, blk_below h.i.2.1 hb, h.i.2.2⟩, below_step h.b hb⟩
theorem SS.growG (h : SS w W g2 g4 g5 b t n vK vG G A9 c9) (ho : Kd.R (Kd.int .i64) 3 W1 w.heap.size (fun _ => True) v1 G1) (hb : Below w.heap.size w W1) (hg : W.grownBy W1 vG.ownBlock) (hat : v1.ownBlock = vG.ownBlock ∨ ∃ b, v1.ownBlock = some b ∧ W.heap.size ≤ b) :
    SS w (W1.setCell ⟨g2, 1, none⟩ v1) g2 g4 g5 b t n vK v1 G1 A9 c9 := by
  have x2 := blk_grown h.bx.1 hg (Kd.R_ne h.g h.bx.1 (by decide))
  have x4 := blk_grown h.bx.2.1 hg (Kd.R_ne h.g h.bx.2.1 (by decide))
  have x5 := blk_grown h.bx.2.2.1 hg (Kd.R_ne h.g h.bx.2.2.1 (by decide))
  have xn := blk_grown h.i.2.1 hg (Kd.R_ne h.g h.i.2.1 (by decide))
  have l1 := h.bx.2.2.2.1
  have l2 := h.bx.2.2.2.2
  have l3 := h.lt
  have e2 : (W1.setCell ⟨g2, 1, none⟩ v1).heap[g2]? = some (.cells #[vK, v1, .slice (some ⟨n, 0, none⟩) 0 0] 27 (0, 0)) := by simpa using blk_set x2 1 v1
  exact ⟨⟨e2, blk_far' x4 (by omega) v1, blk_far' x5 (by omega) v1, l1, l2⟩, ⟨l3.1, l3.2.1, l3.2.2.1, by rw [World.size_setCell]; exact Nat.le_trans l3.2.2.2 hg.size⟩,
    Kd.N_far (Kd.N_grown h.k hg (fun k hk e => by have := h.gt k e.symm; omega)) (p := ⟨g2, 1, none⟩) (fun k hk e => by subst e; have := hk.1; omega) v1,
    Kd.R_set ho x2 no3_27 1 v1, fun k hk => (by
      rcases hat with hat | ⟨b1, hat, hle⟩
      · exact h.gt k (hat ▸ hk)
      · rw [hat] at hk; injection hk with hk; omega),
    Kd.R_set (Kd.R_grown h.f hg (fun k hk e => by have := h.gt k e.symm; omega)) x2 (no59 (by decide) (by decide)) 1 v1,
    ⟨h.i.1, blk_far' xn (blk_ne h.i.2.1 h.bx.1 (by decide)) v1, h.i.2.2⟩, hb.setCell (p := ⟨g2, 1, none⟩) l3.1 v1⟩
/-- behind Insert -/
structure SF (w W : World) (g2 g4 g5 b t : Nat) (vK vG vI a4 b4 c4 : Value) (vN : Value) : Prop where
  x2 : W.heap[g2]? = some (.cells #[vK, vG, vI] 27 (0, 0))
  x4 : W.heap[g4]? = some (.cells #[a4, b4, c4] 27 (0, 0))
  x5 : W.heap[g5]? = some (.cells #[.int .i64 0, .int .i64 0] 31 (0, 0))
  lt : w.heap.size ≤ g2 ∧ g2 < g4 ∧ g4 < g5 ∧ g5 < b
  k : Kd.N k55 55 W b (fun k => b ≤ k ∧ k < t) vK K1
  g : Kd.R (Kd.int .i64) 3 W w.heap.size (fun _ => True) vG [0]
  i : Kd.R k34 34 W w.heap.size (fun _ => True) vN I1
  b : Below w.heap.size w W
variable {vI vN a4 b4 c4 : Value} {A2 : Option Addr} {n2 c2 : Nat}
theorem SS.fin (h : SS w W g2 g4 g5 b t n vK vG [0] A9 c9) (hF : Fi W W1 n) (hR : Kd.R k34 34 W1 w.heap.size (fun _ => True) (.slice A2 n2 c2) I1) (hB : Below w.heap.size w W1) :
    SF w W1 g2 g4 g5 b t vK vG (.slice (some ⟨n, 0, none⟩) 0 0) (.slice none 0 0) (.slice none 0 0) (.slice none 0 0) (.slice A2 n2 c2) := by
  have l3 := h.lt
  have hn := h.i.2.2
  exact ⟨(hF.2 g2 (blk_lt h.bx.1) (blk_ne h.bx.1 h.i.2.1 (by decide))).trans h.bx.1, (hF.2 g4 (blk_lt h.bx.2.1) (blk_ne h.bx.2.1 h.i.2.1 (by decide))).trans h.bx.2.1, (hF.2 g5 (blk_lt h.bx.2.2.1) (blk_ne h.bx.2.2.1 h.i.2.1 (by decide))).trans h.bx.2.2.1,
    ⟨l3.1, h.bx.2.2.2.1, h.bx.2.2.2.2, l3.2.1⟩, Kd.N_step h.k (fun k hk hlt => hF.2 k hlt (by omega)), Kd.R_mono (Kd.R_step (Kd.R_types h.g h.i.2.1 (no3 (by decide))) (fun k hk hlt => hF.2 k hlt hk.2)) (fun _ hk => hk.1), hR, hB⟩
theorem SF.below (h : SF w W g2 g4 g5 b t vK vG vI a4 b4 c4 vN) (hb : Below W.heap.size W W1) : SF w W1 g2 g4 g5 b t vK vG vI a4 b4 c4 vN :=
  ⟨blk_below h.x2 hb, blk_below h.x4 hb, blk_below h.x5 hb, h.lt, Kd.N_below h.k hb, Kd.R_below h.g hb, Kd.R_below h.i hb, below_step h.b hb⟩
/-- the items' slice is stored -/
theorem SF.put2 (h : SF w W g2 g4 g5 b t vK vG vI a4 b4 c4 vN) : SF w (W.setCell ⟨g2, 2, none⟩ vN) g2 g4 g5 b t vK vG vN a4 b4 c4 vN := by
  obtain ⟨l1, l2, l3, l4⟩ := h.lt
  exact ⟨by simpa using blk_set h.x2 2 vN, blk_far' h.x4 (by omega) vN, blk_far' h.x5 (by omega) vN, h.lt, Kd.N_far h.k (p := ⟨g2, 2, none⟩) (fun k hk e => by subst e; have := hk.1; omega) vN,
    Kd.R_set h.g h.x2 no3_27 2 vN, Kd.R_set h.i h.x2 (no34 (by decide) (by decide) (by decide)) 2 vN, h.b.setCell (p := ⟨g2, 2, none⟩) l1 vN⟩
theorem SF.put4 (h : SF w W g2 g4 g5 b t vK vG vI a4 b4 c4 vN) (x y z : Value) : SF w (((W.setCell ⟨g4, 0, none⟩ x).setCell ⟨g4, 1, none⟩ y).setCell ⟨g4, 2, none⟩ z) g2 g4 g5 b t vK vG vI x y z vN := by
  obtain ⟨l1, l2, l3, l4⟩ := h.lt
  have hne : ∀ k, (b ≤ k ∧ k < t) → k ≠ g4 := fun k hk e => by omega
  exact ⟨put_far h.x2 (by omega) x y z, put3 h.x4, put_far h.x5 (by omega) x y z, h.lt, Kd.N_far (Kd.N_far (Kd.N_far h.k (p := ⟨g4, 0, none⟩) hne x) (p := ⟨g4, 1, none⟩) hne y) (p := ⟨g4, 2, none⟩) hne z,
    R_set3 h.g h.x4 no3_27 x y z, R_set3 h.i h.x4 (no34 (by decide) (by decide) (by decide)) x y z, below_set3 h.b (by omega) x y z⟩
theorem SF.put5 (h : SF w W g2 g4 g5 b t vK vG vI a4 b4 c4 vN) : SF w ((W.setCell ⟨g5, 0, none⟩ (.int .i64 0)).setCell ⟨g5, 1, none⟩ (.int .i64 0)) g2 g4 g5 b t vK vG vI a4 b4 c4 vN := by
  obtain ⟨l1, l2, l3, l4⟩ := h.lt
  have hne : ∀ k, (b ≤ k ∧ k < t) → k ≠ g5 := fun k hk e => by omega
  have x5 : (W.setCell ⟨g5, 0, none⟩ (.int .i64 0)).heap[g5]? = some (.cells #[.int .i64 0, .int .i64 0] 31 (0, 0)) := by simpa using blk_set h.x5 0 (.int .i64 0)
  exact ⟨blk_far' (blk_far' h.x2 (by omega) _) (by omega) _, blk_far' (blk_far' h.x4 (by omega) _) (by omega) _, by simpa using blk_set x5 1 (.int .i64 0), h.lt, Kd.N_far (Kd.N_far h.k (p := ⟨g5, 0, none⟩) hne _) (p := ⟨g5, 1, none⟩) hne _,
    Kd.R_set (Kd.R_set h.g h.x5 (no3 (by decide)) 0 _) x5 (no3 (by decide)) 1 _, Kd.R_set (Kd.R_set h.i h.x5 (no34 (by decide) (by decide) (by decide)) 0 _) x5 (no34 (by decide) (by decide) (by decide)) 1 _, (h.b.setCell (p := ⟨g5, 0, none⟩) (by show w.heap.size ≤ g5; omega) _).setCell (p := ⟨g5, 1, none⟩) (by show w.heap.size ≤ g5; omega) _⟩
end
def SpawnP (w : World) (e : Ending) (w' : World) : Prop := ∃ A0 c0 A1 n1 c1 A2 n2 c2, e = .returned (.tuple #[.agg #[.slice A0 1 c0, .slice A1 n1 c1, .slice A2 n2 c2], .agg #[.int .i64 0, .int .i64 0], .int .i64 0]) ∧
  Aside0 (Kd.C k55 w' A0 K1.length K1 ∧ 1 ≤ c0 ∧ (∃ base, Kd.R (Kd.int .i64) 3 w' base (fun _ => True) (.slice A1 n1 c1) [0]) ∧ (∃ base, Kd.R k34 34 w' base (fun _ => True) (.slice A2 n2 c2) I1) ∧ Below w.heap.size w w')
set_option maxHeartbeats 8000000 in
set_option maxRecDepth 100000 in
theorem T_spawn (w : World) (AK AL : Option Addr) (cK cL : Nat) (hK : Kd.C k55 w AK K1.length K1) (hc : 1 ≤ cK) (hL : Kd.C k59 w AL C1.length C1) (hl : 1 ≤ cL) :
    Calls Try.prog 14 #[.agg #[.slice AK 1 cK, .slice none 0 0, .slice none 0 0], .slice AL 1 cL] w (SpawnP w) := by
  have HK := Aside0.mk (And.intro hK hc)
  have HL := Aside0.mk (And.intro hL hl)
  clear hK hc hL hl
  go_enter Try.func14, Try.ntmps14
  go_upto_region 1 with (fail)
  have HB := Aside0.mk (below_alloc (below_alloc (below_alloc (Below.refl w.heap.size w) (.cells #[.slice AK 1 cK, .slice none 0 0, .slice none 0 0] 27)) (.cells #[.slice none 0 0, .slice none 0 0, .slice none 0 0] 27)) (.cells #[.int .i64 0, .int .i64 0] 31))
  have HX := Aside0.mk (show Boxes (((w.alloc (.cells #[.slice AK 1 cK, .slice none 0 0, .slice none 0 0] 27)).alloc (.cells #[.slice none 0 0, .slice none 0 0, .slice none 0 0] 27)).alloc (.cells #[.int .i64 0, .int .i64 0] 31)) w.heap.size (w.heap.size + 1) (w.heap.size + 1 + 1) (.slice AK 1 cK) (.slice none 0 0) (.slice none 0 0) from
    ⟨blk_alloc (blk_alloc (blk_new w _) _) _, blk_alloc new2 _, new2' (by rw [World.size_alloc]), by omega, by omega⟩)
  have HG := Aside0.mk (Nat.le_refl w.heap.size)
  generalize ((w.alloc (.cells #[.slice AK 1 cK, .slice none 0 0, .slice none 0 0] 27)).alloc (.cells #[.slice none 0 0, .slice none 0 0, .slice none 0 0] 27)).alloc (.cells #[.int .i64 0, .int .i64 0] 31) = w1 at HB HX ⊢
  generalize hg2 : w.heap.size = g2 at HX ⊢
  generalize hg5 : g2 + 1 + 1 = g5 at HX ⊢
  generalize hg4 : g2 + 1 = g4 at HX ⊢
  have HG := Aside0.mk (And.intro (Nat.le_of_eq hg2) (show g4 = g2 + 1 ∧ g5 = g2 + 2 by omega))
  clear hg2 hg4 hg5
  obtain ⟨x0, x1, x2, z0, z1, z2⟩ := cells3 HX.out.1
  go_wp2_with (fail)
  refine (check21 w1 AK cK (Kd.C_below HK.out.1 HB.out) HK.out.2).mono ?_
  rintro e w2 ⟨rfl, hb⟩
  have HX := Aside0.mk (HX.out.below hb)
  have HB := Aside0.mk (below_step HB.out hb)
  clear hb x0 x1 x2 z0 z1 z2
  obtain ⟨x0, x1, x2, z0, z1, z2⟩ := cells3 HX.out.1
  go_wp2_with (fail)
  refine (T_fit1 w2 AK AL cK cL (Kd.C_below HK.out.1 HB.out) HK.out.2 (Kd.C_below HL.out.1 HB.out) HL.out.2).mono ?_
  rintro e w3 ⟨A9, c9, rfl, HF⟩
  have HX := Aside0.mk (HX.out.below HF.out.2)
  have HF9 := Aside0.mk (Kd.R_lower HF.out.1 HB.out.size)
  have HB := Aside0.mk (below_step HB.out HF.out.2)
  clear HF x0 x1 x2 z0 z1 z2
  obtain ⟨x0, x1, x2, z0, z1, z2⟩ := cells3 HX.out.1
  go_wp2_with (fail)
  refine (T_free0 w3 AK none none 1 cK 0 0).mono ?_
  rintro e w4 ⟨rfl, hb⟩
  have HX := Aside0.mk (HX.out.below hb)
  have HF9 := Aside0.mk (Kd.R_below HF9.out hb)
  have HB := Aside0.mk (below_step HB.out hb)
  clear hb x0 x1 x2 z0 z1 z2
  obtain ⟨x0, x1, x2, z0, z1, z2⟩ := cells3 HX.out.1
  go_wp2_with (fail)
  refine (copy32 w4 AK cK (Kd.C_below HK.out.1 HB.out) HK.out.2).mono ?_
  rintro e w5 ⟨vK, vG, vI, rfl, b, t, HP⟩
  obtain ⟨p1, p2, p3, pK, pG, pG2, ⟨n, pI, pn, pb, pn2⟩, pB⟩ := HP.out
  obtain ⟨A0, c0, hc0, hC0⟩ := Kd.N_reads pK
  obtain ⟨A1, c1, e1⟩ := Kd.R_slice pG
  replace e1 : vG = .slice A1 0 c1 := e1
  subst hc0 e1 pI
  have hX5 := HX.out.below pB
  have HX5 := Aside0.mk hX5
  obtain ⟨x0, x1, x2, z0, z1, z2⟩ := cells3 HX5.out.1
  have hlt := Nat.lt_of_lt_of_le (blk_lt HX.out.2.2.1) p1
  have hF9 := Kd.R_mono (Kd.R_below (Kd.R_bound HF9.out) pB) (fun k hk => (Nat.lt_of_lt_of_le hk.2.2.1 p1 : k < b))
  have HS := Aside0.mk (show SS w (((w5.setCell ⟨g2, 0, none⟩ (.slice A0 K1.length c0)).setCell ⟨g2, 1, none⟩ (.slice A1 0 c1)).setCell ⟨g2, 2, none⟩ (.slice (some ⟨n, 0, none⟩) 0 0)) g2 g4 g5 b t n (.slice A0 K1.length c0) (.slice A1 0 c1) [] A9 c9 from by
    have e := HX.out.2.2.2
    have hg := HG.out.1
    have hz := HB.out.size
    have hne : ∀ k, (b ≤ k ∧ k < t) → k ≠ g2 := fun k hk e => by omega
    exact ⟨⟨put3 hX5.1, put_far hX5.2.1 (by omega) _ _ _, put_far hX5.2.2.1 (by omega) _ _ _, e⟩, ⟨hg, hlt, p2, by simpa only [World.size_setCell] using p3⟩,
      Kd.N_far (Kd.N_far (Kd.N_far pK (p := ⟨g2, 0, none⟩) hne _) (p := ⟨g2, 1, none⟩) hne _) (p := ⟨g2, 2, none⟩) hne _,
      R_set3 (Kd.R_lower pG hz) hX5.1 no3_27 _ _ _, pG2, R_set3 hF9 hX5.1 (no59 (by decide) (by decide)) _ _ _, ⟨Nat.le_trans hz pn, put_far pb (blk_ne pb hX5.1 (by decide)) _ _ _, pn2⟩, below_set3 (below_step HB.out pB) hg _ _ _⟩)
  have HC0 := Aside0.mk hC0.1
  clear HP p1 p2 p3 pK pG pG2 pn pb pn2 pB hC0 hX5 hF9 hlt HX HF9 HB HK HL
  generalize hw6 : (((w5.setCell ⟨g2, 0, none⟩ (.slice A0 K1.length c0)).setCell ⟨g2, 1, none⟩ (.slice A1 0 c1)).setCell ⟨g2, 2, none⟩ (.slice (some ⟨n, 0, none⟩) 0 0)) = w6 at HS
  go_upto_region 11 with (fail)
  clear hw6 x0 x1 x2 z0 z1 z2 HX5
  obtain ⟨x0, x1, x2, z0, z1, z2⟩ := cells3 HS.out.bx.1
  go_upto_region 13 with (((with_reducible refine gate_builtin (b := .append) (xs := #[.tmp 51, .tmp 52]) rfl ?_); at_builtin; refine Kd.R_append (Kd.int .i64) (w0 := w) w.heap.size rfl (.tmp 51) (.tmp 52) 22 3 (.int .i64 0) 8 rfl Try.underlying22 info3' rfl (by decide) (by decide) (.slice A1 0 c1) [] (0 : Int) [.int .i64 0] (fun _ => True) (fun _ => False) rfl rfl ?aP (fun _ hk => hk.elim) (fun _ _ => trivial) ?aO ?aB ?aS ?aL ?_; (case aP => rfl); (case aO => exact HS.out.g); (case aB => exact HS.out.b); (case aS => exact below_size HS.out.b); (case aL => decide); intro v7 w7 ho hb hg hat; obtain ⟨A7, c7, e7⟩ := Kd.R_slice ho; replace e7 : v7 = .slice A7 1 c7 := e7; subst e7; have HA := Aside0.mk (HS.out.growG ho hb hg hat); have hx := blk_grown HS.out.bx.1 hg (Kd.R_ne HS.out.g HS.out.bx.1 (by decide)); obtain ⟨y0, y1, y2, y3, y4, y5⟩ := cells3 hx; clear ho hb hg hat hx))
  clear HS x0 x1 x2 z0 z1 z2 y0 y1 y2 y3 y4 y5
  have HS := Aside0.mk (show SS w (w7.setCell ⟨g2, 1, none⟩ (.slice A7 1 c7)) g2 g4 g5 b t n (.slice A0 K1.length c0) (.slice A7 1 c7) [0] A9 c9 from HA.out)
  generalize w7.setCell ⟨g2, 1, none⟩ (.slice A7 1 c7) = w8 at HS ⊢
  obtain ⟨x0, x1, x2, z0, z1, z2⟩ := cells3 HS.out.bx.1
  obtain ⟨g7, cap7, e7, _, _, _⟩ := Kd.R_form HS.out.g (by decide)
  injection e7 with e71 e72 e73
  subst e71 e73
  clear e72 HA
  have y0 := gcell HS.out.g 0 (by decide)
  replace y0 : w8.cell? ⟨g7, 0, none⟩ = some (.int .i64 0) := y0
  go_upto_region 14 with (fail)
  have b1 := below_alloc (Below.refl w8.heap.size w8) (.cells #[.int .i64 0, .int .i64 0] 31)
  have HG12 := Aside0.mk (blk_lt HS.out.bx.2.2.1)
  have HS := Aside0.mk (HS.out.below b1)
  have HE := Aside0.mk (blk_new w8 (.cells #[.int .i64 0, .int .i64 0] 31))
  generalize w8.heap.size = g12 at HE HG12 ⊢
  generalize w8.alloc (.cells #[.int .i64 0, .int .i64 0] 31) = w9 at HS HE ⊢
  clear b1 x0 x1 x2 z0 z1 z2 y0
  obtain ⟨x0, x1, x2, z0, z1, z2⟩ := cells3 HS.out.bx.1
  obtain ⟨y0, y1, _, _⟩ := cells2 HE.out
  go_wp2_with (fail)
  refine (T_bs0 w9 _ 0 0).mono ?_
  rintro e w9 ⟨rfl, rfl⟩
  have b1 := below_alloc (Below.refl w9.heap.size w9) (.cells #[.int .i64 0, .int .i64 0, .slice A9 1 c9] 34)
  have HS' := Aside0.mk (HS.out.below b1)
  have HE' := Aside0.mk (blk_below HE.out b1)
  have HV := Aside0.mk (blk_new w9 (.cells #[.int .i64 0, .int .i64 0, .slice A9 1 c9] 34))
  clear b1
  go_wp2_with (fail)
  generalize w9.heap.size = gv at HV ⊢
  generalize w9.alloc (.cells #[.int .i64 0, .int .i64 0, .slice A9 1 c9] 34) = w10 at HS' HE' HV ⊢
  clear x0 x1 x2 z0 z1 z2 y0 y1 HS HE
  have HI := Aside0.mk HS'.out.i
  refine (T_insert w10 w n gv 0 c9 A9 #[] (R_emp HI.out.2.1 HI.out.1) HI.out.2.1 HS'.out.b HV.out (Kd.R_mono HS'.out.f (fun _ _ => trivial))).mono ?_
  rintro e w11 ⟨A2, n2, c2, rfl, hR, hB, hFi⟩
  have HF := Aside0.mk (HS'.out.fin hFi hR hB)
  have HE := Aside0.mk (show w11.heap[g12]? = some (.cells #[.int .i64 0, .int .i64 0] 31 (0, 0)) from (hFi.2 g12 (blk_lt HE'.out) (blk_ne HE'.out HI.out.2.1 (by decide))).trans HE'.out)
  clear hR hB hFi HS' HE' HV HI
  obtain ⟨x0, x1, x2, z0, z1, z2⟩ := cells3 HF.out.x2
  obtain ⟨y0, y1, _, _⟩ := cells2 HE.out
  go_upto_region 16 with (fail)
  have HE := Aside0.mk (blk_far' (j := 2) HE.out (blk_ne HE.out HF.out.x2 (by decide)) (.slice A2 n2 c2))
  have HF := Aside0.mk HF.out.put2
  generalize w11.setCell ⟨g2, 2, none⟩ (.slice A2 n2 c2) = w12 at HE HF ⊢
  clear x0 x1 x2 z0 z1 z2 y0 y1
  obtain ⟨x0, x1, x2, _, _, _⟩ := cells3 HF.out.x2
  obtain ⟨y0, y1, _, _⟩ := cells2 HE.out
  obtain ⟨u0, u1, u2, p0, p1, p2⟩ := cells3 HF.out.x4
  obtain ⟨v0, v1, q0, q1⟩ := cells2 HF.out.x5
  have HD := Aside0.mk (HF.out.below (below_drew (Below.refl _ _)))
  have n45 : g4 ≠ g5 := Nat.ne_of_lt HF.out.lt.2.2.1
  have n54 : g5 ≠ g4 := Ne.symm n45
  have n24 : g2 ≠ g4 := Nat.ne_of_lt HF.out.lt.2.1
  have n42 := Ne.symm n24
  have n25 : g2 ≠ g5 := Nat.ne_of_lt (Nat.lt_trans HF.out.lt.2.1 HF.out.lt.2.2.1)
  have n52 := Ne.symm n25
  have m5 : g5 ≠ g12 := Nat.ne_of_lt HG12.out
  have m4 : g4 ≠ g12 := Nat.ne_of_lt (Nat.lt_trans HF.out.lt.2.2.1 HG12.out)
  have m55 := Ne.symm m5
  have m44 := Ne.symm m4
  go_region
  all_goals
    go_wp2_with (fail)
    have HZ := Aside0.mk (((HF.out.put4 (.slice A0 K1.length c0) (.slice (some ⟨g7, 0, none⟩) 1 c7) (.slice A2 n2 c2)).put5).below (below_drew (Below.refl _ _)))
    generalize (((((w12.setCell ⟨g4, 0, none⟩ (.slice A0 K1.length c0)).setCell ⟨g4, 1, none⟩ (.slice (some ⟨g7, 0, none⟩) 1 c7)).setCell ⟨g4, 2, none⟩ (.slice A2 n2 c2)).setCell ⟨g5, 0, none⟩ (.int .i64 0)).setCell ⟨g5, 1, none⟩ (.int .i64 0)).drew = w13 at HZ ⊢
    obtain ⟨u0, u1, u2, _, _, _⟩ := cells3 HZ.out.x4
    obtain ⟨v0, v1, _, _⟩ := cells2 HZ.out.x5
    have hN := Kd.N_reads' HZ.out.k
    refine bodyPost_ret (v := .tuple #[.agg #[.slice A0 K1.length c0, .slice (some ⟨g7, 0, none⟩) 1 c7, .slice A2 n2 c2], .agg #[.int .i64 0, .int .i64 0], .int .i64 0]) (by simp [results, Try.results14, go_sem, u0, u1, u2, v0, v1]) rfl ?_
    exact ⟨A0, c0, _, 1, c7, A2, n2, c2, rfl, ⟨hN.2.2, hN.2.1, ⟨_, HZ.out.g⟩, ⟨_, HZ.out.i⟩, HZ.out.b⟩⟩
end Go.Proofs.Ytlbicibihdkpnaa.P
namespace Go.Proofs.Ytlbicibihdkpnaa.P
open Go.RowKit Go.Proofs.YtlbicibihdkpnaaW.PrintWords Go.Proofs.YtlbicibihdkpnaaW.PrintLast Go.Proofs.YtlbicibihdkpnaaW.PrintMore
set_option linter.unusedVariables false
set_option linter.unusedSimpArgs false

theorem sum0 : sum_Ints.f 200 (intsW K1 [] []) = some 1873753830672552490 := by decide +kernel
theorem sum1 : sum_Ints.f 200 (intsW K1 [0] I1) = some 17554949346377231374 := by decide +kernel
theorem words0 : sum_Words.f 200 [] = some 3343520718893763685 := by decide +kernel
theorem bytes0 : sum_Bytes.f 200 [] = some 6139017866475620866 := by decide +kernel
set_option maxHeartbeats 4000000 in
set_option maxRecDepth 100000 in
theorem T_digest (w : World) (AK AG AI : Option Addr) (nK nG nI cK cG cI : Nat) (K : List S55) (G : List Int) (I : List S34) (hK : Kd.C k55 w AK K.length K) (hG : Kd.C (Kd.int .i64) w AG G.length G) (hI : Kd.C k34 w AI I.length I) (h1 : K.length = nK) (h2 : G.length = nG) (h3 : I.length = nI) (r : Int) (hr : sum_Ints.f 200 (intsW K G I) = some r) (hl : (intsW K G I).length ≤ 100) :
    Calls Try.prog 15 #[.agg #[.slice AK nK cK, .slice AG nG cG, .slice AI nI cI]] w fun e w' => e = .returned (.int .u64 r) ∧ Below w.heap.size w w' := by
  subst h1 h2 h3
  have HK := Aside0.mk (And.intro hK (And.intro hG hI))
  have HR := Aside0.mk (And.intro hr hl)
  clear hK hG hI hr hl
  go_enter Try.func15, Try.ntmps15
  go_wp2_with (fail)
  have b1 := below_alloc (Below.refl w.heap.size w) (.cells #[.slice AK K.length cK, .slice AG G.length cG, .slice AI I.length cI] 27)
  refine (T_ints _ AK AG AI cK cG cI K G I (Kd.C_below HK.out.1 b1) (Kd.C_below HK.out.2.1 b1) (Kd.C_below HK.out.2.2 b1) _ rfl HR.out.2).mono ?_
  rintro e w2 ⟨v, rfl, HV⟩
  obtain ⟨A, c, e⟩ := Kd.R_slice HV.out.1
  subst e
  have HB := Aside0.mk (below_step b1 HV.out.2)
  go_wp2_with (fail)
  refine (sum_Ints.calls 200 A c _ r w2 (Kd.R_reads' HV.out.1).2.2 (Kd.R_reads' HV.out.1).2.1 HR.out.1).mono ?_
  rintro e w3 ⟨rfl, hb⟩
  have HB := Aside0.mk (below_step HB.out hb)
  go_wp2_with (fail)
  go_ret
  exact ⟨rfl, HB.out⟩
def NewP (w : World) (e : Ending) (w' : World) : Prop := ∃ A0 c0, e = .returned (.tuple #[.agg #[.slice A0 1 c0, .slice none 0 0, .slice none 0 0], .int .i64 0]) ∧ Aside0 (Kd.C k55 w' A0 K1.length K1 ∧ 1 ≤ c0 ∧ Below w.heap.size w w')
set_option maxHeartbeats 4000000 in
set_option maxRecDepth 100000 in
theorem T_new1 (w : World) (A : Option Addr) (c : Nat) (hK : Kd.C k55 w A K1.length K1) (hc : 1 ≤ c) : Calls Try.prog 13 #[.slice A 1 c] w (NewP w) := by
  have HK := Aside0.mk (And.intro hK hc)
  clear hK hc
  go_enter Try.func13, Try.ntmps13
  go_wp2_with (fail)
  have HB := Aside0.mk (below_alloc (Below.refl w.heap.size w) (.cells #[.slice none 0 0, .slice none 0 0, .slice none 0 0] 27))
  have HX := Aside0.mk (blk_new w (.cells #[.slice none 0 0, .slice none 0 0, .slice none 0 0] 27))
  have HG := Aside0.mk (Nat.le_refl w.heap.size)
  generalize hw1 : w.alloc (.cells #[.slice none 0 0, .slice none 0 0, .slice none 0 0] 27) = w1 at HB HX ⊢
  generalize hgr : w.heap.size = gr at HX ⊢
  have HG := Aside0.mk (Nat.le_of_eq hgr)
  clear hw1 hgr
  refine (kind_Check.calls 100 A c K1 0 w1 (Kd.C_below HK.out.1 HB.out) HK.out.2 check1).mono ?_
  rintro e w2 ⟨rfl, hb⟩
  have HX := Aside0.mk (blk_below HX.out hb)
  have HB := Aside0.mk (below_step HB.out hb)
  clear hb
  go_wp2_with (fail)
  refine (kind_Copy.calls 100 A c K1 K1 w2 (Kd.C_below HK.out.1 HB.out) HK.out.2 kcopy1).mono ?_
  rintro e w3 ⟨v, rfl, hN, hb⟩
  obtain ⟨A0, c0, e⟩ := Kd.N_slice hN
  replace e : v = .slice A0 1 c0 := e
  subst e
  have hne : ∀ k, w2.heap.size ≤ k → k ≠ gr := fun k hk e => by have := blk_lt HX.out; omega
  have HX := Aside0.mk (blk_below HX.out hb)
  have HB := Aside0.mk (below_step HB.out hb)
  have HN := Aside0.mk (Kd.N_far (Kd.N_far (Kd.N_far hN (p := ⟨gr, 0, none⟩) hne (.slice A0 1 c0)) (p := ⟨gr, 1, none⟩) hne (.slice none 0 0)) (p := ⟨gr, 2, none⟩) hne (.slice none 0 0))
  have HB := Aside0.mk (below_set3 HB.out HG.out (.slice A0 1 c0) (.slice none 0 0) (.slice none 0 0))
  have HY := Aside0.mk (put3 (a := .slice A0 1 c0) (b := .slice none 0 0) (c := .slice none 0 0) HX.out)
  clear hN hb hne
  obtain ⟨x0, x1, x2, z0, z1, z2⟩ := cells3 HX.out
  go_wp2_with (fail)
  generalize ((w3.setCell ⟨gr, 0, none⟩ (.slice A0 1 c0)).setCell ⟨gr, 1, none⟩ (.slice none 0 0)).setCell ⟨gr, 2, none⟩ (.slice none 0 0) = w4 at HN HB HY ⊢
  obtain ⟨y0, y1, y2, _, _, _⟩ := cells3 HY.out
  refine bodyPost_ret (v := .tuple #[.agg #[.slice A0 1 c0, .slice none 0 0, .slice none 0 0], .int .i64 0]) (by simp [results, Try.results13, go_sem, y0, y1, y2]) rfl ?_
  have hR := Kd.N_reads' HN.out
  exact ⟨A0, c0, rfl, ⟨hR.2.2, hR.2.1, HB.out⟩⟩
theorem words16 (w : World) : Calls Try.prog 16 #[.slice none 0 0] w fun e w' => e = .returned (.int .u64 3343520718893763685) ∧ Below w.heap.size w w' :=
  (sum_Words.calls 200 none 0 [] _ w (C_nil _ _) (Nat.le_refl _) words0).mono (by
    rintro e w' ⟨rfl, ⟨m, rfl⟩⟩
    exact ⟨rfl, pw_below_drewN (Below.refl _ _) _⟩)
theorem bytes17 (w : World) : Calls Try.prog 17 #[.slice none 0 0] w fun e w' => e = .returned (.int .u64 6139017866475620866) ∧ Below w.heap.size w w' :=
  sum_Bytes.calls 200 (fun _ => True) none 0 [] _ w (Kd.V_nil _ _ _ _ _) bytes0
theorem C_one {α : Type} {d : Kd α} {w : World} {b t : Nat} {x : α} {cs : List Value} (h : w.heap[b]? = some (.cells cs.toArray t (0, 0))) (hK : d.K w x cs) : Kd.C d w (some ⟨b, 0, none⟩) [x].length [x] := by
  refine ⟨rfl, by simp, fun _ => ⟨_, rfl, fun j p hj => ?_⟩⟩
  cases j with
  | zero =>
    obtain rfl : x = p := by simpa using hj
    refine ⟨cs, d.K_len hK, hK, fun i u hi => ?_⟩
    rw [add_plain, Nat.zero_mul, Nat.zero_add]
    exact (blk_cell h i).trans (by simpa using hi)
  | succ j => simp at hj
theorem lit55 {w : World} {a b : Nat} (ha : w.heap[a]? = some (.cells #[.string ⟨#[120]⟩, .int .i64 4, .int .i64 0] 52 (0, 0))) (hb : w.heap[b]? = some (.cells #[.string ⟨#[97]⟩, .slice (some ⟨a, 0, none⟩) 1 1] 55 (0, 0))) : Kd.C k55 w (some ⟨b, 0, none⟩) K1.length K1 :=
  C_one (cs := [.string ⟨#[97]⟩, .slice (some ⟨a, 0, none⟩) 1 1]) hb (k55_mk w ⟨⟨#[97]⟩, F1⟩ (Nat.le_refl _) (C_one (cs := [.string ⟨#[120]⟩, .int .i64 4, .int .i64 0]) ha (k52_mk w ⟨⟨#[120]⟩, 4, 0⟩)))
theorem lit59 {w : World} {a b : Nat} (ha : w.heap[a]? = some (.cells #[.int .i64 3] 3 (0, 0))) (hb : w.heap[b]? = some (.cells #[.int .i64 0, .slice (some ⟨a, 0, none⟩) 1 1] 59 (0, 0))) : Kd.C k59 w (some ⟨b, 0, none⟩) C1.length C1 :=
  C_one (cs := [.int .i64 0, .slice (some ⟨a, 0, none⟩) 1 1]) hb (k59_mk w ⟨0, [3]⟩ (Nat.le_refl _) (C_one (cs := [.int .i64 3]) ha rfl))
theorem dig0 (w : World) (A0 : Option Addr) (c0 : Nat) (hK : Kd.C k55 w A0 K1.length K1) : Calls Try.prog 15 #[.agg #[.slice A0 1 c0, .slice none 0 0, .slice none 0 0]] w fun e w' => e = .returned (.int .u64 1873753830672552490) ∧ Below w.heap.size w w' :=
  T_digest w A0 none none 1 0 0 c0 0 0 K1 [] [] hK (C_nil _ _) (C_nil _ _) rfl rfl rfl _ sum0 (by decide)
theorem dig1 (w : World) (A0 A1 A2 : Option Addr) (c0 c1 c2 : Nat) (hK : Kd.C k55 w A0 K1.length K1) (hG : Kd.C (Kd.int .i64) w A1 [(0 : Int)].length [0]) (hI : Kd.C k34 w A2 I1.length I1) : Calls Try.prog 15 #[.agg #[.slice A0 1 c0, .slice A1 1 c1, .slice A2 1 c2]] w fun e w' => e = .returned (.int .u64 17554949346377231374) ∧ Below w.heap.size w w' :=
  T_digest w A0 A1 A2 1 1 1 c0 c1 c2 K1 [0] I1 hK hG hI rfl rfl rfl _ sum1 (by decide)
set_option maxHeartbeats 8000000 in
set_option maxRecDepth 100000 in
theorem T_begun (w : World) : Calls Try.prog 4 #[] w fun e w' => e = .returned (.bool true) ∧ Below w.heap.size w w' := by
  go_enter Try.func4, Try.ntmps4
  go_wp2_with (fail)
  have HB := Aside0.mk (below_alloc (below_alloc (Below.refl w.heap.size w) (.cells #[.string ⟨#[120]⟩, .int .i64 4, .int .i64 0] 52)) (.cells #[.string ⟨#[97]⟩, .slice (some ⟨w.heap.size, 0, none⟩) 1 1] 55))
  refine (T_new1 _ _ 1 (lit55 (a := w.heap.size) (blk_alloc (blk_new w _) _) new2) (Nat.le_refl _)).mono ?_
  rintro e w2 ⟨A0, c0, rfl, HN⟩
  have HB := Aside0.mk (below_step HB.out HN.out.2.2)
  have HK := Aside0.mk (And.intro HN.out.1 HN.out.2.1)
  clear HN
  go_upto_region 4 with (fail)
  have b1 := below_alloc (Below.refl w2.heap.size w2) (.cells #[.slice A0 1 c0, .slice none 0 0, .slice none 0 0] 27)
  have HX := Aside0.mk (blk_new w2 (.cells #[.slice A0 1 c0, .slice none 0 0, .slice none 0 0] 27))
  have HK := Aside0.mk (And.intro (Kd.C_below HK.out.1 b1) HK.out.2)
  have HB := Aside0.mk (below_step HB.out b1)
  generalize w2.heap.size = g1 at HX ⊢
  generalize w2.alloc (.cells #[.slice A0 1 c0, .slice none 0 0, .slice none 0 0] 27) = w3 at HX HK HB ⊢
  clear b1
  obtain ⟨x0, x1, x2, _, _, _⟩ := cells3 HX.out
  go_wp2_with (fail)
  have b1 := below_alloc (below_alloc (Below.refl w3.heap.size w3) (.cells #[.int .i64 3] 3)) (.cells #[.int .i64 0, .slice (some ⟨w3.heap.size, 0, none⟩) 1 1] 59)
  refine (T_spawn _ A0 _ c0 1 (Kd.C_below HK.out.1 b1) HK.out.2 (lit59 (a := w3.heap.size) (blk_alloc (blk_new w3 _) _) new2) (Nat.le_refl _)).mono ?_
  rintro e w4 ⟨B0, d0, A1, n1, c1, A2, n2, c2, rfl, HS⟩
  have b2 := below_step b1 HS.out.2.2.2.2
  have HX := Aside0.mk (blk_below HX.out b2)
  have HK := Aside0.mk (And.intro (Kd.C_below HK.out.1 b2) HK.out.2)
  have HB := Aside0.mk (below_step HB.out b2)
  obtain ⟨base1, hG⟩ := HS.out.2.2.1
  obtain ⟨base2, hI⟩ := HS.out.2.2.2.1
  have e1 := (Kd.R_reads' hG).1
  have e2 := (Kd.R_reads' hI).1
  replace e1 : n1 = 1 := e1
  replace e2 : n2 = 1 := e2
  subst e1 e2
  have HV := Aside0.mk (And.intro HS.out.1 (And.intro (Kd.R_reads' hG).2.2 (Kd.R_reads' hI).2.2))
  clear b1 b2 hG hI HS x0 x1 x2
  go_upto_region 5 with (fail)
  have b1 := below_alloc (below_alloc (Below.refl w4.heap.size w4) (.cells #[.slice B0 1 d0, .slice A1 1 c1, .slice A2 1 c2] 27)) (.cells #[.int .i64 0, .int .i64 0] 31)
  have HX := Aside0.mk (blk_below HX.out b1)
  have HY := Aside0.mk (blk_alloc (blk_new w4 (.cells #[.slice B0 1 d0, .slice A1 1 c1, .slice A2 1 c2] 27)) (.cells #[.int .i64 0, .int .i64 0] 31))
  have HZ := Aside0.mk (new2 (W := w4) (o := .cells #[.slice B0 1 d0, .slice A1 1 c1, .slice A2 1 c2] 27) (o' := .cells #[.int .i64 0, .int .i64 0] 31))
  have HK := Aside0.mk (Kd.C_below HK.out.1 b1)
  have HV := Aside0.mk (And.intro (Kd.C_below HV.out.1 b1) (And.intro (Kd.C_below HV.out.2.1 b1) (Kd.C_below HV.out.2.2 b1)))
  have HB := Aside0.mk (below_step HB.out b1)
  generalize w4.heap.size + 1 = g4 at HZ ⊢
  generalize w4.heap.size = g3 at HY ⊢
  generalize (w4.alloc (.cells #[.slice B0 1 d0, .slice A1 1 c1, .slice A2 1 c2] 27)).alloc (.cells #[.int .i64 0, .int .i64 0] 31) = w5 at HX HY HZ HK HV HB ⊢
  clear b1
  have HKp := Aside0.mk (show ∀ W, Below w5.heap.size w5 W → W.cell? ⟨g1, 0, none⟩ = some (.slice A0 1 c0) ∧ W.cell? ⟨g1, 1, none⟩ = some (.slice none 0 0) ∧ W.cell? ⟨g1, 2, none⟩ = some (.slice none 0 0) ∧ W.cell? ⟨g3, 0, none⟩ = some (.slice B0 1 d0) ∧ W.cell? ⟨g3, 1, none⟩ = some (.slice A1 1 c1) ∧ W.cell? ⟨g3, 2, none⟩ = some (.slice A2 1 c2) ∧ W.cell? ⟨g4, 0, none⟩ = some (.int .i64 0) ∧ W.cell? ⟨g4, 1, none⟩ = some (.int .i64 0) from fun W h => by
    obtain ⟨a, b, c, _⟩ := cells3 (blk_below HX.out h)
    obtain ⟨d, e, f, _⟩ := cells3 (blk_below HY.out h)
    obtain ⟨i, j, _⟩ := cells2 (blk_below HZ.out h)
    exact ⟨a, b, c, d, e, f, i, j⟩)
  have HC := Aside0.mk (show ∀ W, Below w5.heap.size w5 W → Kd.C k55 W A0 K1.length K1 ∧ Kd.C k55 W B0 K1.length K1 ∧ Kd.C (Kd.int .i64) W A1 [(0 : Int)].length [0] ∧ Kd.C k34 W A2 I1.length I1 from fun W h => ⟨Kd.C_below HK.out h, Kd.C_below HV.out.1 h, Kd.C_below HV.out.2.1 h, Kd.C_below HV.out.2.2 h⟩)
  go_region_held3 (fun W => W.cell? ⟨g1, 0, none⟩ = some (.slice A0 1 c0) ∧ W.cell? ⟨g1, 1, none⟩ = some (.slice none 0 0) ∧ W.cell? ⟨g1, 2, none⟩ = some (.slice none 0 0) ∧ W.cell? ⟨g3, 0, none⟩ = some (.slice B0 1 d0) ∧ W.cell? ⟨g3, 1, none⟩ = some (.slice A1 1 c1) ∧ W.cell? ⟨g3, 2, none⟩ = some (.slice A2 1 c2) ∧ W.cell? ⟨g4, 0, none⟩ = some (.int .i64 0) ∧ W.cell? ⟨g4, 1, none⟩ = some (.int .i64 0))
    (exact HKp.out _ (by with_reducible repeat (first | exact Below.refl _ _ | apply below_alloc | apply below_drew1 | apply pw_below_drewN | (refine below_step ?_ h6) | (refine below_step ?_ h7) | (refine below_step ?_ h8) | (refine below_step ?_ h9))))
    (first
      | (go_at_call 15; (with_reducible refine (dig0 _ A0 c0 (HC.out _ (by with_reducible repeat (first | exact Below.refl _ _ | apply below_alloc | apply below_drew1 | apply pw_below_drewN | (refine below_step ?_ h6) | (refine below_step ?_ h7) | (refine below_step ?_ h8) | (refine below_step ?_ h9)))).1).mono ?_); rintro e w6 ⟨rfl, h6⟩)
      | (go_at_call 15; (with_reducible refine (dig1 _ B0 A1 A2 d0 c1 c2 (HC.out _ (by with_reducible repeat (first | exact Below.refl _ _ | apply below_alloc | apply below_drew1 | apply pw_below_drewN | (refine below_step ?_ h6) | (refine below_step ?_ h7) | (refine below_step ?_ h8) | (refine below_step ?_ h9)))).2.1 (HC.out _ (by with_reducible repeat (first | exact Below.refl _ _ | apply below_alloc | apply below_drew1 | apply pw_below_drewN | (refine below_step ?_ h6) | (refine below_step ?_ h7) | (refine below_step ?_ h8) | (refine below_step ?_ h9)))).2.2.1 (HC.out _ (by with_reducible repeat (first | exact Below.refl _ _ | apply below_alloc | apply below_drew1 | apply pw_below_drewN | (refine below_step ?_ h6) | (refine below_step ?_ h7) | (refine below_step ?_ h8) | (refine below_step ?_ h9)))).2.2.2).mono ?_); rintro e w7 ⟨rfl, h7⟩)
      | (go_at_call 16; (with_reducible refine (words16 _).mono ?_); rintro e w8 ⟨rfl, h8⟩)
      | (go_at_call 17; (with_reducible refine (bytes17 _).mono ?_); rintro e w9 ⟨rfl, h9⟩))
  all_goals
    go_wp2
    go_ret
    exact ⟨rfl, below_step HB.out (by with_reducible repeat (first | exact Below.refl _ _ | apply below_alloc | apply below_drew1 | apply pw_below_drewN | (refine below_step ?_ h6) | (refine below_step ?_ h7) | (refine below_step ?_ h8) | (refine below_step ?_ h9)))⟩
end Go.Proofs.Ytlbicibihdkpnaa.P
namespace Go.Proofs.Ytlbicibihdkpnaa.P
open Go.RowKit Go.Proofs.YtlbicibihdkpnaaW.PrintWords Go.Proofs.YtlbicibihdkpnaaW.PrintLast Go.Proofs.YtlbicibihdkpnaaW.PrintMore
set_option linter.unusedVariables false
set_option linter.unusedSimpArgs false

def entOf (I : List S34) (i : Nat) : Int × Int := ((rd_T34 I (i : Int)).f0.f0, (rd_T34 I (i : Int)).f0.f1)
theorem E.IsQ.below {w0 W W' : World} {g : Nat} {l : List (It (Int × Int))} {n : Int} (h : E.IsQ w0 W g l n) (hb : Below W.heap.size W W') : E.IsQ w0 W' g l n := by
  obtain ⟨v, h1, h2, h3⟩ := h
  exact ⟨v, (hb.block g (blk_lt h1)).trans h1, h2, Kd.R_below h3 hb⟩
theorem Qs.start {ent : Nat → Int × Int} {z : List Int} {n : Nat} {h : List (It (Int × Int))} (H : Qs ent z (fun _ => False) n h) : Qs ent z (· ∈ (sortI z).take 0) n h :=
  ⟨H.heap, H.pw, fun x hx => ⟨(H.mem x hx).1, (H.mem x hx).2.1, (H.mem x hx).2.2.1, (H.mem x hx).2.2.2.1, by simp⟩, fun j hj _ => H.all j hj (fun h => h)⟩
/-- behind the sort: the queue g11, the order vo, the numbers vl, what is done vd -/
structure TS (wq W : World) (g11 : Nat) (h : List (It (Int × Int))) (nq : Int) (vo vl vd : Value) (z : List Int) (dn : List Bool) : Prop where
  q : E.IsQ wq W g11 h nq
  o : Kd.R (Kd.int .i64) 3 W wq.heap.size (fun _ => True) vo (sortI z)
  l : Kd.R (Kd.int .i64) 3 W wq.heap.size (fun _ => True) vl z
  d : Kd.R Kd.bool 4 W wq.heap.size (fun _ => True) vd dn
  b : Below wq.heap.size wq W
section
variable {wq W W1 : World} {g11 : Nat} {h h1 : List (It (Int × Int))} {nq n1 : Int} {vo vl vd : Value} {z : List Int} {dn : List Bool}
theorem TS.below (s : TS wq W g11 h nq vo vl vd z dn) (hb : Below W.heap.size W W1) : TS wq W1 g11 h nq vo vl vd z dn :=
  ⟨s.q.below hb, Kd.R_below s.o hb, Kd.R_below s.l hb, Kd.R_below s.d hb, below_step s.b hb⟩
theorem keepR {α : Type} {d : Kd α} {e base g : Nat} {v : Value} {xs : List α} (H : d.R e W base (fun _ => True) v xs) (ht : ∀ q, q ∈ e :: d.E → q ≠ 76 ∧ q ≠ 40) {cs : Array Value} (hg : W.heap[g]? = some (.cells cs 40 (0, 0)))
    (hk : ∀ k cells t, W.heap[k]? = some (.cells cells t (0, 0)) → t ≠ 76 → k ≠ g → W1.heap[k]? = W.heap[k]?) : d.R e W1 base (fun _ => True) v xs := by
  refine Kd.R_mono (Kd.R_step (Kd.R_types (Kd.R_bound H) hg (fun q hq => (ht q hq).2)) (fun k hk' hlt => ?_)) (fun _ _ => trivial)
  obtain ⟨⟨_, _, _, q, hq, cells, hc⟩, hne⟩ := hk'
  exact hk k cells q hc (ht q hq).1 hne
theorem TS.take (s : TS wq W g11 h nq vo vl vd z dn) (hq : E.IsQ wq W1 g11 h1 n1) (hb : Below wq.heap.size wq W1) (hk : ∀ k cells t, W.heap[k]? = some (.cells cells t (0, 0)) → t ≠ 76 → k ≠ g11 → W1.heap[k]? = W.heap[k]?) : TS wq W1 g11 h1 n1 vo vl vd z dn := by
  obtain ⟨v, hg, _⟩ := s.q
  exact ⟨hq, keepR s.o (fun q hq => by have := mem3 q hq; subst this; decide) hg hk, keepR s.l (fun q hq => by have := mem3 q hq; subst this; decide) hg hk,
    keepR s.d (fun q hq => by have : q = 4 := by simpa [Kd.bool, Kd.scalar] using hq
                              subst this; decide) hg hk, hb⟩
theorem TS.put {gd n cap : Nat} (s : TS wq W g11 h nq vo vl (.slice (some ⟨gd, 0, none⟩) n cap) z dn) (hn : 0 < n) (i : Int) : TS wq (W.setCell ⟨gd, i.toNat, none⟩ (.bool true)) g11 h nq vo vl (.slice (some ⟨gd, 0, none⟩) n cap) z (dn.set i.toNat true) := by
  have hl := (Kd.R_reads' s.d).1
  obtain ⟨g2, cap2, e, h1, h2, cells, hc⟩ := Kd.R_form s.d (by omega)
  injection e with e _ _
  injection e with e
  injection e with e
  subst e
  obtain ⟨v, hq1, hq2, hq3⟩ := s.q
  exact ⟨⟨v, blk_far' hq1 (blk_ne hq1 hc (by decide)) _, hq2, Kd.R_set hq3 hc (by intro q hq; have : q = 76 := (by simpa [E.itK, Kd.pair, Kd.int, Kd.scalar] using hq); subst this; decide) _ _⟩,
    Kd.R_set s.o hc (no3 (by decide)) _ _, Kd.R_set s.l hc (no3 (by decide)) _ _, Kd.R_putn s.d i true, s.b.setCell (p := ⟨gd, i.toNat, none⟩) h1 _⟩
end
def TopP (w : World) (e : Ending) (w' : World) : Prop := e = .returned (.bool true) ∧ Below w.heap.size w w'
set_option maxHeartbeats 16000000 in
set_option maxRecDepth 100000 in
theorem T_top (w : World) (A : Option Addr) (c : Nat) (L : List Int) (kx : Int) (hC : Kd.C (Kd.int .i64) w A L.length L) (hc : L.length ≤ c) (hx : ∀ x ∈ L, -9223372036854775808 ≤ x ∧ x < 9223372036854775808) (hk : -9223372036854775808 ≤ kx ∧ kx < 9223372036854775808) :
    Calls Try.prog 3 #[.slice A L.length c, .int .i64 kx] w (TopP w) := by
  have HA := Aside0.mk (And.intro hC (And.intro hc hx))
  have HKX := Aside0.mk hk
  clear hC hc hx hk
  go_enter Try.func3, Try.ntmps3
  go_wp2_with (fail)
  refine (T_begun w).mono ?_
  rintro e w1 ⟨rfl, hb⟩
  have HB := Aside0.mk hb
  clear hb
  go_wp2_with (fail)
  refine (T_world w1 A c L (Kd.C_below HA.out.1 HB.out) HA.out.2.1 HA.out.2.2).mono ?_
  rintro e w2 ⟨vK, vG, vI, K, G, I, rfl, HO, HR⟩
  have HB := Aside0.mk (below_step HB.out HR.out.2.2.2)
  obtain ⟨AK, cK, eK⟩ := Kd.R_slice HR.out.1
  obtain ⟨AG, cG, eG⟩ := Kd.R_slice HR.out.2.1
  obtain ⟨AI, cI, eI⟩ := Kd.R_slice HR.out.2.2.1
  subst eK eG eI
  have b1 := below_alloc (Below.refl w2.heap.size w2) (.cells #[.slice AK K.length cK, .slice AG G.length cG, .slice AI I.length cI] 27)
  have HX := Aside0.mk (blk_new w2 (.cells #[.slice AK K.length cK, .slice AG G.length cG, .slice AI I.length cI] 27))
  have HR := Aside0.mk (And.intro (Kd.R_below HR.out.1 b1) (And.intro (Kd.R_below HR.out.2.1 b1) (Kd.R_below HR.out.2.2.1 b1)))
  have HB := Aside0.mk (below_step HB.out b1)
  go_upto_region 4 with (fail)
  generalize w2.heap.size = g5 at HX ⊢
  generalize w2.alloc (.cells #[.slice AK K.length cK, .slice AG G.length cG, .slice AI I.length cI] 27) = w3 at HX HR HB ⊢
  clear b1
  obtain ⟨x0, x1, x2, _, _, _⟩ := cells3 HX.out
  obtain ⟨kk, hkk, hk0, hk1⟩ := below_some kx K.length HKX.out (by have := HO.out.1; omega) (by have := HO.out.2.1; omega)
  have HKK := Aside0.mk hkk
  clear hkk hk0 hk1
  go_wp2_with (fail)
  refine (tourmake_Below.calls kx K.length kk w3 HKK.out).mono ?_
  rintro e w4 ⟨rfl, ⟨m, hm⟩⟩
  have hb := pw_below_drewN (Below.refl w3.heap.size w3) m
  rw [← hm] at hb
  have HX := Aside0.mk (blk_below HX.out hb)
  have HR := Aside0.mk (And.intro (Kd.R_below HR.out.1 hb) (And.intro (Kd.R_below HR.out.2.1 hb) (Kd.R_below HR.out.2.2 hb)))
  have HB := Aside0.mk (below_step HB.out hb)
  clear hb hm x0 x1 x2 HA HKX HKK
  obtain ⟨x0, x1, x2, _, _, _⟩ := cells3 HX.out
  have HN := Aside0.mk (show I.length ≤ 8 from HO.out.2.2.2.2.2.1)
  obtain ⟨rc, hrc⟩ := world_some K G I HO.out 400 (Nat.le_refl _)
  have HRC := Aside0.mk hrc
  clear hrc
  go_wp2_with (fail)
  go_loopg [6, 37] I.length (fun kq v6 v37 w' => ∃ (i : Nat) (z : List Int) (A n c : _), v6 = .slice A n c ∧ v37 = .int .i64 (i : Int) ∧ Aside0 (kq = I.length - i ∧ i ≤ I.length ∧ z.length = i) ∧ Aside0 (Kd.R (Kd.int .i64) 3 w' w4.heap.size (fun _ => True) v6 z ∧ Below w4.heap.size w4 w'))
  case atStart => exact ⟨0, [], none, 0, 0, rfl, rfl, ⟨by omega, by omega, rfl⟩, ⟨Kd.R_nil _ _ _ _ _, Below.refl _ _⟩⟩
  case round =>
    obtain ⟨i, z, Az, nz, cz, rfl, rfl, HJ, HW⟩ := hrel
    clear x0 x1 x2
    by_cases hi : i < I.length
    · have i0 : (0 : Int) ≤ (i : Int) := by omega
      have i1 : (i : Int) < (I.length : Int) := by omega
      have hBe := HW.out.2
      obtain ⟨ad, A2, c2, e, y0, y1, y2, _, _⟩ := at_T34 (Kd.R_reads' (Kd.R_below HR.out.2.2 hBe)).2.2 (i : Int) i0 i1
      subst e
      rw [Int.toNat_natCast] at y0 y1 y2
      generalize rd_T34 I (i : Int) = it at y0 y1 y2
      obtain ⟨⟨en, eg⟩, C⟩ := it
      replace y0 : wr.cell? (ad.add (i * 3)) = some (.int .i64 en) := y0
      replace y1 : wr.cell? ⟨(ad.add (i * 3)).block, (ad.add (i * 3)).off + 1, none⟩ = some (.int .i64 eg) := y1
      replace y2 : wr.cell? ⟨(ad.add (i * 3)).block, (ad.add (i * 3)).off + 2, none⟩ = some (.slice A2 C.length c2) := y2
      obtain ⟨x0, x1, x2, _, _, _⟩ := cells3 (blk_below HX.out hBe)
      clear hBe
      go_upto_region 9 with (fail)
      have b1 := below_alloc (Below.refl wr.heap.size wr) (.cells #[.int .i64 en, .int .i64 eg, .slice A2 C.length c2] 34)
      have HE := Aside0.mk (blk_new wr (.cells #[.int .i64 en, .int .i64 eg, .slice A2 C.length c2] 34))
      have HW := Aside0.mk (And.intro (Kd.R_below HW.out.1 b1) (below_step HW.out.2 b1))
      generalize wr.heap.size = g8 at HE ⊢
      generalize wr.alloc (.cells #[.int .i64 en, .int .i64 eg, .slice A2 C.length c2] 34) = w5 at HE HW ⊢
      clear b1 x0 x1 x2 y0 y1 y2
      obtain ⟨x0, x1, x2, _, _, _⟩ := cells3 (blk_below HX.out HW.out.2)
      obtain ⟨y0, y1, y2, _, _, _⟩ := cells3 HE.out
      go_wp2_with (fail)
      refine (T_get w5 _ _ _ K G I en eg kk _ (Kd.R_below HR.out.1 HW.out.2) (Kd.R_below HR.out.2.1 HW.out.2) (Kd.R_below HR.out.2.2 HW.out.2) HO.out 400 rc HRC.out).mono ?_
      rintro e w6 ⟨v, l, er, rfl, HV, HB6⟩
      obtain ⟨Al, cl, el⟩ := Kd.R_slice HV.out.1
      subst el
      have HW := Aside0.mk (And.intro (Kd.R_below HW.out.1 HB6.out) (below_step HW.out.2 HB6.out))
      clear x0 x1 x2 y0 y1 y2
      by_cases h0 : er = 0
      · subst h0
        by_cases hl : 0 < l.length
        · have d0 : (0 : Int) < (l.length : Int) := by omega
          obtain ⟨gl, capl, e, _, _, _⟩ := Kd.R_form HV.out.1 hl
          injection e with e1 e2 e3
          subst e1 e3
          clear e2
          have y0 := gcell HV.out.1 0 hl
          replace y0 : w6.cell? ⟨gl, 0, none⟩ = some (.int .i64 (rd l 0)) := y0
          go_wp2_with (((with_reducible refine gate_builtin (b := .append) (xs := #[.tmp 56, .tmp 60]) rfl ?_); at_builtin; refine Kd.R_append (Kd.int .i64) (w0 := w4) w4.heap.size rfl (.tmp 56) (.tmp 60) 22 3 (.int .i64 0) 8 rfl Try.underlying22 info3' rfl (by decide) (by decide) (.slice Az nz cz) z (rd l 0) [.int .i64 (rd l 0)] (fun _ => True) (fun _ => False) rfl rfl ?aP (fun _ hk => hk.elim) (fun _ _ => trivial) ?aO ?aB ?aS ?aL ?_; (case aP => rfl); (case aO => exact HW.out.1); (case aB => exact HW.out.2); (case aS => exact below_size HW.out.2); (case aL => have := HJ.out.2.2; have := HN.out; omega); intro v7 w7 ho hb hg hat; obtain ⟨n7, A7, c7, e7⟩ := R_slice3 ho; subst e7; have HZ := Aside0.mk (And.intro ho hb); clear ho hb hg hat))
          go_roundg (I.length - (i + 1))
          case measure => have := HJ.out.1; omega
          case rel => exact ⟨i + 1, _, A7, n7, c7, rfl, congrArg (Value.int .i64) (by have := HN.out; unfold wrap64; omega), ⟨by omega, by omega, by rw [List.length_append, HJ.out.2.2]; rfl⟩, HZ⟩
        · have d0 : ¬ ((0 : Int) < (l.length : Int)) := by omega
          go_wp2_with (((with_reducible refine gate_builtin (b := .append) (xs := #[.tmp 62, .tmp 63]) rfl ?_); at_builtin; refine Kd.R_append (Kd.int .i64) (w0 := w4) w4.heap.size rfl (.tmp 62) (.tmp 63) 22 3 (.int .i64 0) 8 rfl Try.underlying22 info3' rfl (by decide) (by decide) (.slice Az nz cz) z (0) [.int .i64 (0)] (fun _ => True) (fun _ => False) rfl rfl ?aP (fun _ hk => hk.elim) (fun _ _ => trivial) ?aO ?aB ?aS ?aL ?_; (case aP => rfl); (case aO => exact HW.out.1); (case aB => exact HW.out.2); (case aS => exact below_size HW.out.2); (case aL => have := HJ.out.2.2; have := HN.out; omega); intro v7 w7 ho hb hg hat; obtain ⟨n7, A7, c7, e7⟩ := R_slice3 ho; subst e7; have HZ := Aside0.mk (And.intro ho hb); clear ho hb hg hat))
          go_roundg (I.length - (i + 1))
          case measure => have := HJ.out.1; omega
          case rel => exact ⟨i + 1, _, A7, n7, c7, rfl, congrArg (Value.int .i64) (by have := HN.out; unfold wrap64; omega), ⟨by omega, by omega, by rw [List.length_append, HJ.out.2.2]; rfl⟩, HZ⟩
      · have d0 : (er == 0) = false := by simp [h0]
        go_wp2_with (((with_reducible refine gate_builtin (b := .append) (xs := #[.tmp 62, .tmp 63]) rfl ?_); at_builtin; refine Kd.R_append (Kd.int .i64) (w0 := w4) w4.heap.size rfl (.tmp 62) (.tmp 63) 22 3 (.int .i64 0) 8 rfl Try.underlying22 info3' rfl (by decide) (by decide) (.slice Az nz cz) z (0) [.int .i64 (0)] (fun _ => True) (fun _ => False) rfl rfl ?aP (fun _ hk => hk.elim) (fun _ _ => trivial) ?aO ?aB ?aS ?aL ?_; (case aP => rfl); (case aO => exact HW.out.1); (case aB => exact HW.out.2); (case aS => exact below_size HW.out.2); (case aL => have := HJ.out.2.2; have := HN.out; omega); intro v7 w7 ho hb hg hat; obtain ⟨n7, A7, c7, e7⟩ := R_slice3 ho; subst e7; have HZ := Aside0.mk (And.intro ho hb); clear ho hb hg hat))
        go_roundg (I.length - (i + 1))
        case measure => have := HJ.out.1; omega
        case rel => exact ⟨i + 1, _, A7, n7, c7, rfl, congrArg (Value.int .i64) (by have := HN.out; unfold wrap64; omega), ⟨by omega, by omega, by rw [List.length_append, HJ.out.2.2]; rfl⟩, HZ⟩
    · have i1 : ¬ ((i : Int) < (I.length : Int)) := by omega
      have HZL := Aside0.mk (show z.length = I.length by have := HJ.out.2; omega)
      have e : nz = z.length := (Kd.R_reads' HW.out.1).1
      subst e
      clear HJ
      have hX := blk_below HX.out HW.out.2
      have HI := Aside0.mk (Kd.R_below HR.out.2.2 HW.out.2)
      have HZ := Aside0.mk HW.out.1
      have HB := Aside0.mk (below_step HB.out HW.out.2)
      have HX := Aside0.mk hX
      clear HW hX HR
      go_upto_region 15 with (fail)
      clear hi i1
      have HQ := Aside0.mk (show E.IsQ wr (wr.alloc (.cells #[.slice none 0 0, .int .i64 0] 40)) wr.heap.size [] 0 from ⟨_, blk_new wr _, Nat.le_refl _, Kd.R_nil _ _ _ _ _⟩)
      have HBQ := Aside0.mk (below_alloc (Below.refl wr.heap.size wr) (.cells #[.slice none 0 0, .int .i64 0] 40))
      obtain ⟨wq, hwq⟩ : ∃ W, W = wr := ⟨_, rfl⟩
      subst hwq
      generalize hg : wq.heap.size = g11 at HQ ⊢
      generalize wq.alloc (.cells #[.slice none 0 0, .int .i64 0] 40) = w5 at HQ HBQ ⊢
      clear hg
      obtain ⟨x0, x1, x2, _, _, _⟩ := cells3 (blk_below HX.out HBQ.out)
      go_wp2_with (fail)
      go_loopg [69] I.length (fun kq v69 w' => ∃ (i : Nat), v69 = .int .i64 (i : Int) ∧ Aside0 (kq = I.length - i ∧ i ≤ I.length) ∧ Aside0 (E.IsQ wq w' g11 (fillE (entOf I) z i) i ∧ Below wq.heap.size wq w'))
      case atStart => exact ⟨0, rfl, ⟨by omega, by omega⟩, ⟨HQ.out, HBQ.out⟩⟩
      case round =>
        clear x0 x1 x2 HQ HBQ
        obtain ⟨i, rfl, HJ, HW⟩ := hrel
        by_cases hi : i < I.length
        · have i0 : (0 : Int) ≤ (i : Int) := by omega
          have i1 : (i : Int) < (I.length : Int) := by omega
          have i2 : (i : Int) < (z.length : Int) := by have := HZL.out; omega
          obtain ⟨ad, A2, c2, e, y0, y1, y2, _, _⟩ := at_T34 (Kd.R_reads' (Kd.R_below HI.out HW.out.2)).2.2 (i : Int) i0 i1
          subst e
          obtain ⟨az, e, u0⟩ := Kd.at_int (Kd.R_reads' (Kd.R_below HZ.out HW.out.2)).2.2 (i : Int) i0 i2
          subst e
          rw [Int.toNat_natCast] at y0 y1 y2 u0
          have HEN := Aside0.mk (show entOf I i = ((rd_T34 I (i : Int)).f0.f0, (rd_T34 I (i : Int)).f0.f1) from rfl)
          generalize rd_T34 I (i : Int) = it at y0 y1 y2 HEN
          obtain ⟨⟨en, eg⟩, C⟩ := it
          replace y0 : wr.cell? (ad.add (i * 3)) = some (.int .i64 en) := y0
          replace y1 : wr.cell? ⟨(ad.add (i * 3)).block, (ad.add (i * 3)).off + 1, none⟩ = some (.int .i64 eg) := y1
          replace y2 : wr.cell? ⟨(ad.add (i * 3)).block, (ad.add (i * 3)).off + 2, none⟩ = some (.slice A2 C.length c2) := y2
          replace HEN : Aside0 (entOf I i = (en, eg)) := HEN
          obtain ⟨rk, hrk⟩ : ∃ r, rd z (i : Int) = r := ⟨_, rfl⟩
          rw [hrk] at u0
          have HRK := Aside0.mk hrk
          clear hrk
          go_upto_region 18 with (fail)
          have b1 := below_alloc (Below.refl wr.heap.size wr) (.cells #[.int .i64 en, .int .i64 eg, .slice A2 C.length c2] 34)
          have HE := Aside0.mk (blk_new wr (.cells #[.int .i64 en, .int .i64 eg, .slice A2 C.length c2] 34))
          have HW := Aside0.mk (show E.IsQ wq (wr.alloc (.cells #[.int .i64 en, .int .i64 eg, .slice A2 C.length c2] 34)) g11 (fillE (entOf I) z i) i ∧ Below wq.heap.size wq (wr.alloc (.cells #[.int .i64 en, .int .i64 eg, .slice A2 C.length c2] 34)) from ⟨HW.out.1.below b1, below_step HW.out.2 b1⟩)
          have u1 := (b1.cell (p := az.add i) (World.block_lt_of_cell? wr _ u0)).trans u0
          generalize wr.heap.size = g13 at HE ⊢
          generalize wr.alloc (.cells #[.int .i64 en, .int .i64 eg, .slice A2 C.length c2] 34) = w6 at HE HW u1 ⊢
          clear b1 y0 y1 y2 u0
          obtain ⟨y0, y1, _, _, _, _⟩ := cells3 HE.out
          go_still_tail 6, (by kernel_rfl)
          clear y0 y1 u1
          change wpList _ _ _ _ _ w6.drew
          have HW := Aside0.mk (show E.IsQ wq w6.drew g11 (fillE (entOf I) z i) i ∧ Below wq.heap.size wq w6.drew from ⟨HW.out.1.below (below_drew (Below.refl _ _)), below_drew HW.out.2⟩)
          generalize w6.drew = w7 at HW ⊢
          have HFL := Aside0.mk (fillE_qs (entOf I) z i).2
          go_wp2_with (fail)
          refine (E.Q_put w7 wq g11 (fillE (entOf I) z i) i rk (en, eg) HW.out.1 HW.out.2 (by have := HFL.out; have := HN.out; omega) (by have := HN.out; omega)).mono ?_
          rintro e w8 ⟨rfl, hQ, hB⟩
          have HW := Aside0.mk (show E.IsQ wq w8 g11 (fillE (entOf I) z (i + 1)) ((i + 1 : Nat) : Int) ∧ Below wq.heap.size wq w8 from ⟨by
            rw [show ((i + 1 : Nat) : Int) = (i : Int) + 1 by omega]
            show E.IsQ wq w8 g11 (up (fillE (entOf I) z i).length (fillE (entOf I) z i ++ [(entOf I i, rd z (i : Int), (i : Int))])) _
            rw [HEN.out, HRK.out]
            exact hQ, hB⟩)
          clear hQ hB
          go_wp2_with (fail)
          go_roundg (I.length - (i + 1))
          case measure => have := HJ.out.1; omega
          case rel => exact ⟨i + 1, congrArg (Value.int .i64) (by have := HN.out; unfold wrap64; omega), ⟨by omega, by omega⟩, HW⟩
        · have i1 : ¬ ((i : Int) < (I.length : Int)) := by omega
          have HC := Aside0.mk (show i = z.length by have := HJ.out.2; have := HZL.out; omega)
          go_wp2_with (fail)
          refine (queue_Sort.calls Az cz z (sortI z) 0 wr (Kd.C_below (Kd.R_reads' HZ.out).2.2 HW.out.2) (Kd.R_reads' HZ.out).2.1 (by unfold queue_Sort.f; rw [if_pos (by have := HZL.out; have := HN.out; omega)])).mono ?_
          rintro e w6 ⟨vo, rfl, hRo, hb⟩
          clear hi i1
          obtain ⟨Ao, co, e⟩ := Kd.R_slice hRo
          subst e
          have HSL := Aside0.mk (sortI_spec z).1
          have e0 := HSL.out
          rw [e0]
          have HO2 := Aside0.mk (show Kd.R (Kd.int .i64) 3 w6 wq.heap.size (fun _ => True) (.slice Ao z.length co) (sortI z) from e0 ▸ Kd.R_lower hRo HW.out.2.size)
          have HQ := Aside0.mk (show E.IsQ wq w6 g11 (fillE (entOf I) z z.length) (z.length : Int) from HC.out ▸ HW.out.1.below hb)
          have HBQ := Aside0.mk (below_step HW.out.2 hb)
          have d0 : ((z.length : Int) != (z.length : Int)) = false := by simp
          clear HW hRo hb HJ e0 HC
          go_wp2_with (fail)
          refine (slices_Clone_int_int.calls Az cz z z w6 (Kd.C_below (Kd.R_reads' HZ.out).2.2 HBQ.out) (Kd.R_reads' HZ.out).2.1 (by unfold slices_Clone_int_int.f; rw [if_pos (by have := HZL.out; have := HN.out; omega)])).mono ?_
          rintro e w7 ⟨vl, rfl, hRl, hb⟩
          obtain ⟨Al, cl, e⟩ := Kd.R_slice hRl
          subst e
          have HL2 := Aside0.mk (Kd.R_lower hRl HBQ.out.size)
          have HO2 := Aside0.mk (Kd.R_below HO2.out hb)
          have HQ := Aside0.mk (HQ.out.below hb)
          have HBQ := Aside0.mk (below_step HBQ.out hb)
          clear hRl hb d0
          have hzl : z.length ≤ 8 := by have := HZL.out; have := HN.out; omega
          go_upto_region 26 with (((with_reducible refine gate_dst (N := 101) rfl ?_); refine Kd.R_make Kd.bool (w0 := wq) wq.heap.size 4 rfl (N := 101) rfl 44 _ _ rfl (z.length : Int) rfl rfl Try.underlying44 (.bool false) 1 info4 rfl (by decide) (by decide) false (ok := fun _ => True) (okp := fun _ => True) rfl (fun _ hk => hk) trivial (by omega) (by omega) HBQ.out HBQ.out.size ?_; intro vd w8 hd hb hg hat))
          obtain ⟨Ad, cd, e⟩ := Kd.R_slice hd
          replace e : vd = .slice Ad z.length cd := by rw [e]; simp
          subst e
          have HT := Aside0.mk (show TS wq w8 g11 (fillE (entOf I) z z.length) (z.length : Int) (.slice Ao z.length co) (.slice Al z.length cl) (.slice Ad z.length cd) z (List.replicate z.length false) from
            ⟨by obtain ⟨v, q1, q2, q3⟩ := HQ.out; exact ⟨v, blk_grown q1 hg (by simp), q2, Kd.R_grown q3 hg (by simp)⟩, Kd.R_grown HO2.out hg (by simp), Kd.R_grown HL2.out hg (by simp), by simpa using hd, hb⟩)
          have HTE := Aside0.mk (fillE_qs (entOf I) z z.length)
          clear hd hb hg hat hzl HQ HO2 HL2 HBQ HZ
          go_wp2_with (fail)
          go_loopg [104] z.length (fun kq v104 w' => ∃ (k : Nat) (dn : List Bool) (h : List (It (Int × Int))), v104 = .int .i64 (k : Int) ∧ Aside0 (kq = z.length - k ∧ k ≤ z.length ∧ Dn z k dn ∧ Qs (entOf I) z (· ∈ (sortI z).take k) z.length h ∧ h.length + k = z.length) ∧ Aside0 (TS wq w' g11 h (z.length : Int) (.slice Ao z.length co) (.slice Al z.length cl) (.slice Ad z.length cd) z dn))
          case atStart => exact ⟨0, _, _, rfl, ⟨by omega, by omega, Dn.zero z, HTE.out.1.start, HTE.out.2⟩, HT⟩
          case round =>
            clear HT HTE
            obtain ⟨k, dn, h, rfl, HJ, HT⟩ := hrel
            by_cases hk : k < z.length
            · have k0 : (0 : Int) ≤ (k : Int) := by omega
              have k1 : (k : Int) < (z.length : Int) := by omega
              obtain ⟨ao, e, y0⟩ := Kd.at_int (Kd.R_reads' HT.out.o).2.2 (k : Int) k0 (by rw [HSL.out]; exact k1)
              subst e
              rw [Int.toNat_natCast] at y0
              obtain ⟨m, hm⟩ : ∃ m, rd (sortI z) (k : Int) = m := ⟨_, rfl⟩
              have HM := Aside0.mk hm
              rw [hm] at y0
              clear hm
              go_wp2_with (fail)
              obtain ⟨wk, hwk⟩ : ∃ W, W = wr := ⟨_, rfl⟩
              subst hwk
              clear y0
              go_loopg [20, 110] z.length (fun kq v20 v110 w' => ∃ (j : Nat), v20 = .int .i64 (leastI dn z j) ∧ v110 = .int .i64 (j : Int) ∧ Aside0 (kq = z.length - j ∧ j ≤ z.length) ∧ Aside0 (Below wk.heap.size wk w'))
              case atStart => exact ⟨0, rfl, rfl, ⟨by omega, by omega⟩, ⟨Below.refl _ _⟩⟩
              case round =>
                obtain ⟨j, rfl, rfl, HI2, HB2⟩ := hrel
                by_cases hj : j < z.length
                · have j0 : (0 : Int) ≤ (j : Int) := by omega
                  have j1 : (j : Int) < (z.length : Int) := by omega
                  have j2 : (j : Int) < (dn.length : Int) := by have := HJ.out.2.2.1.1; omega
                  obtain ⟨al, e, y0⟩ := Kd.at_int (Kd.R_reads' (Kd.R_below HT.out.l HB2.out)).2.2 (j : Int) j0 j1
                  subst e
                  obtain ⟨ad, e, u0⟩ := Kd.at_bool (Kd.R_reads' (Kd.R_below HT.out.d HB2.out)).2.2 (j : Int) j0 j2
                  subst e
                  rw [Int.toNat_natCast] at y0 u0
                  have hst : leastI dn z (j + 1) = if rdOf false dn j = false ∧ (leastI dn z j < 0 ∨ rd z j < rd z (leastI dn z j)) then (j : Int) else leastI dn z j := rfl
                  have HLS := Aside0.mk (leastI_spec dn z j)
                  obtain ⟨rj, hrj⟩ : ∃ r, rd z (j : Int) = r := ⟨_, rfl⟩
                  rw [hrj] at y0 hst
                  clear hrj
                  by_cases hd : rdOf false dn (j : Int) = true
                  · rw [hd] at u0
                    have HST := Aside0.mk (hst.trans (if_neg (fun h => by rw [hd] at h; cases h.1)))
                    clear hst hd
                    go_wp2_with (fail)
                    go_quiet (fail)
                    go_wp2_with (fail)
                    go_roundg (z.length - (j + 1))
                    case measure => have := HI2.out.1; omega
                    case rel => exact ⟨j + 1, congrArg (Value.int .i64) HST.out.symm, congrArg (Value.int .i64) (by have := HZL.out; have := HN.out; unfold wrap64; omega), ⟨by omega, by omega⟩, ⟨pw_below_drewN HB2.out _⟩⟩
                  · have hd : rdOf false dn (j : Int) = false := by simpa using hd
                    rw [hd] at u0
                    by_cases hl : leastI dn z j < 0
                    · have HST := Aside0.mk (hst.trans (if_pos ⟨hd, Or.inl hl⟩))
                      have d1 : decide (leastI dn z j < 0) = true := decide_eq_true hl
                      clear hst hd hl
                      go_wp2_with (fail)
                      go_quiet (fail)
                      go_wp2_with (fail)
                      go_roundg (z.length - (j + 1))
                      case measure => have := HI2.out.1; omega
                      case rel => exact ⟨j + 1, congrArg (Value.int .i64) HST.out.symm, congrArg (Value.int .i64) (by have := HZL.out; have := HN.out; unfold wrap64; omega), ⟨by omega, by omega⟩, ⟨pw_below_drewN HB2.out _⟩⟩
                    · obtain ⟨l, hlj, el, _, _⟩ := HLS.out.resolve_left (fun h => hl (by omega))
                      rw [el] at hst ⊢
                      have l0 : (0 : Int) ≤ (l : Int) := by omega
                      have l1 : (l : Int) < (z.length : Int) := by omega
                      obtain ⟨al2, e, v0⟩ := Kd.at_int (Kd.R_reads' (Kd.R_below HT.out.l HB2.out)).2.2 (l : Int) l0 l1
                      injection e with e
                      subst e
                      rw [Int.toNat_natCast] at v0
                      obtain ⟨rl, hrl⟩ : ∃ r, rd z (l : Int) = r := ⟨_, rfl⟩
                      rw [hrl] at v0 hst
                      have d1 : decide ((l : Int) < 0) = false := decide_eq_false (by omega)
                      clear hrl
                      by_cases hc : rj < rl
                      · have HST := Aside0.mk (hst.trans (if_pos ⟨hd, Or.inr hc⟩))
                        have d2 : decide (rj < rl) = true := decide_eq_true hc
                        clear hst hd hl el
                        go_wp2_with (fail)
                        go_quiet (fail)
                        go_wp2_with (fail)
                        go_roundg (z.length - (j + 1))
                        case measure => have := HI2.out.1; omega
                        case rel => exact ⟨j + 1, congrArg (Value.int .i64) HST.out.symm, congrArg (Value.int .i64) (by have := HZL.out; have := HN.out; unfold wrap64; omega), ⟨by omega, by omega⟩, ⟨pw_below_drewN HB2.out _⟩⟩
                      · have HST := Aside0.mk (hst.trans (if_neg (fun h => h.2.elim (fun h => by omega) hc)))
                        have d2 : decide (rj < rl) = false := decide_eq_false hc
                        clear hst hd hl el
                        go_wp2_with (fail)
                        go_quiet (fail)
                        go_wp2_with (fail)
                        go_roundg (z.length - (j + 1))
                        case measure => have := HI2.out.1; omega
                        case rel => exact ⟨j + 1, congrArg (Value.int .i64) HST.out.symm, congrArg (Value.int .i64) (by have := HZL.out; have := HN.out; unfold wrap64; omega), ⟨by omega, by omega⟩, ⟨pw_below_drewN HB2.out _⟩⟩
                · have j1 : ¬ ((j : Int) < (z.length : Int)) := by omega
                  have ej : j = z.length := by have := HI2.out.2; omega
                  have hle : leastI dn z j = m := by rw [ej, HJ.out.2.2.1.least hk]; exact HM.out
                  obtain ⟨o1, o2, o3, o4⟩ := ord_next z k hk
                  rw [HM.out] at o1 o2
                  rw [hle]
                  obtain ⟨mn, emn⟩ : ∃ mn : Nat, m = (mn : Int) := ⟨m.toNat, by omega⟩
                  subst emn
                  have m1 : (mn : Int) < (z.length : Int) := o2
                  have m2 : (mn : Int) < (I.length : Int) := by have := HZL.out; omega
                  have m3 : (mn : Int) < (dn.length : Int) := by have := HJ.out.2.2.1.1; omega
                  have m0 : (0 : Int) ≤ (mn : Int) := by omega
                  have hT := HT.out.below HB2.out
                  have hpos : 0 < h.length := by have := HJ.out.2.2.2.2; omega
                  obtain ⟨f1, f2, f3, f4, f5⟩ := HJ.out.2.2.2.1.next hk hpos
                  obtain ⟨hn, ehn⟩ : ∃ hn, h.length = hn + 1 := ⟨h.length - 1, by omega⟩
                  rw [HM.out] at f2 f3
                  rw [Int.toNat_natCast] at f3
                  have HF := Aside0.mk (And.intro f4 f5)
                  have HTQ := Aside0.mk hT
                  have HRS := Aside0.mk (show rest h = down 0 hn ((h.set 0 (at0 h hn)).take hn) from by unfold rest; rw [ehn]; rfl)
                  have HHN := Aside0.mk (And.intro ehn (show hn < 4096 by have := HJ.out.2.2.2.2; have := HZL.out; have := HN.out; omega))
                  have HF3 := Aside0.mk (And.intro f2 f3)
                  have HM1 := Aside0.mk (And.intro m1 (And.intro m2 (And.intro m3 m0)))
                  clear o1 o2 o3 o4 f1 f2 f3 f4 f5 hpos ehn hT hle ej m1 m2 m3 m0
                  go_wp2_with (fail)
                  refine (E.Q_takeK wr wq g11 h (z.length : Int) hn HTQ.out.q HTQ.out.b HHN.out.1 HHN.out.2).mono ?_
                  rintro e w9 ⟨rfl, hQ, hB, hkp⟩
                  rw [HF3.out.1, HF3.out.2]
                  have HT9 := Aside0.mk (HTQ.out.take (HRS.out ▸ hQ) hB hkp)
                  clear hQ hB hkp hj j1
                  go_upto_region 37 with (fail)
                  have b1 := below_alloc (Below.refl w9.heap.size w9) (.cells #[.int .i64 (entOf I mn).1, .int .i64 (entOf I mn).2] 31)
                  have HE := Aside0.mk (blk_new w9 (.cells #[.int .i64 (entOf I mn).1, .int .i64 (entOf I mn).2] 31))
                  have HT9 := Aside0.mk (HT9.out.below b1)
                  obtain ⟨m1, m2, m3, m0⟩ := HM1.out
                  obtain ⟨ai, A2, c2, e, y0, y1, y2, _, _⟩ := at_T34 (Kd.R_reads' HI.out).2.2 (mn : Int) m0 m2
                  subst e
                  obtain ⟨al, e, u0⟩ := Kd.at_int (Kd.R_reads' HT9.out.l).2.2 (mn : Int) m0 m1
                  subst e
                  obtain ⟨gd, cd2, e, _, _, csd, hcd⟩ := Kd.R_form HT9.out.d (by omega)
                  injection e with e e2 e3
                  subst e e3
                  clear e2
                  obtain ⟨ad, e, v0⟩ := Kd.at_bool (Kd.R_reads' HT9.out.d).2.2 (mn : Int) m0 m3
                  injection e with e
                  subst e
                  have v1 := blk_frozen hcd mn
                  rw [Int.toNat_natCast] at y0 y1 y2 u0 v0
                  rw [add_plain] at v0
                  replace y0 := (HT9.out.b.cell (p := ai.add (mn * 3)) (World.block_lt_of_cell? wq _ y0)).trans y0
                  replace y1 := (HT9.out.b.cell (p := ⟨(ai.add (mn * 3)).block, (ai.add (mn * 3)).off + 1, none⟩) (World.block_lt_of_cell? wq _ y1)).trans y1
                  generalize w9.heap.size = g22 at HE ⊢
                  generalize w9.alloc (.cells #[.int .i64 (entOf I mn).1, .int .i64 (entOf I mn).2] 31) = w10 at HE HT9 y0 y1 u0 v0 v1 ⊢
                  replace y0 : w10.cell? (ai.add (mn * 3)) = some (.int .i64 (entOf I mn).1) := y0
                  replace y1 : w10.cell? ⟨(ai.add (mn * 3)).block, (ai.add (mn * 3)).off + 1, none⟩ = some (.int .i64 (entOf I mn).2) := y1
                  generalize (entOf I mn).1 = en at y0 y1 HE ⊢
                  generalize (entOf I mn).2 = eg at y0 y1 HE ⊢
                  generalize rd z (mn : Int) = rk at u0 ⊢
                  obtain ⟨x0, x1, x2, _, _, _⟩ := cells3 (blk_below HX.out HT9.out.b)
                  obtain ⟨q0, q1, _, _⟩ := cells2 HE.out
                  have d1 : decide ((mn : Int) < 0) = false := decide_eq_false (by omega)
                  have d2 : ((mn : Int) != (mn : Int)) = false := by simp
                  have d3 : (rk != rk) = false := by simp
                  clear b1 y2 hcd
                  go_quiet (fail)
                  have HT9 := Aside0.mk (show TS wq ((w10.drewN nq).setCell ⟨gd, mn, none⟩ (.bool true)) g11 (rest h) (z.length : Int) (.slice (some ao) z.length co) (.slice (some al) z.length cl) (.slice (some ⟨gd, 0, none⟩) z.length cd) z (dn.set mn true) from by
                    have := (HT9.out.below (pw_below_drewN (Below.refl _ _) nq)).put (by omega) (mn : Int)
                    rwa [Int.toNat_natCast] at this)
                  have v2 : (w10.drewN nq).frozen? ⟨gd, mn, none⟩ = false := v1
                  have v3 : (w10.drewN nq).cell? ⟨gd, mn, none⟩ = some (.bool (rdOf false dn (mn : Int))) := v0
                  go_wp2_with (fail)
                  generalize (w10.drewN nq).setCell ⟨gd, mn, none⟩ (.bool true) = w11 at HT9 ⊢
                  have HDN := Aside0.mk (show Dn z (k + 1) (dn.set mn true) by
                    have := HJ.out.2.2.1.step hk
                    rwa [HM.out, Int.toNat_natCast] at this)
                  go_roundg (z.length - (k + 1))
                  case measure => have := HJ.out.1; omega
                  case rel => exact ⟨k + 1, dn.set mn true, rest h, congrArg (Value.int .i64) (by have := HZL.out; have := HN.out; unfold wrap64; omega), ⟨by omega, by omega, HDN.out, HF.out.1, by have := HF.out.2; have := HJ.out.2.2.2.2; omega⟩, HT9⟩
            · have k1 : ¬ ((k : Int) < (z.length : Int)) := by omega
              have hh : h = [] := List.eq_nil_of_length_eq_zero (by have := HJ.out.2.1; have := HJ.out.2.2.2.2; omega)
              subst hh
              have HTB := Aside0.mk (below_step HB.out HT.out.b)
              go_wp2_with (fail)
              refine (E.Q_len wr wq g11 [] (z.length : Int) HT.out.q).mono ?_
              rintro e w9 ⟨rfl, rfl⟩
              go_wp2_with (fail)
              go_ret
              exact ⟨rfl, HTB.out⟩
theorem wf_range {n : Int} (h : (Lit.int .i64 n).wf = true) : -9223372036854775808 ≤ n ∧ n < 9223372036854775808 := by
  simp only [Lit.wf, Bool.and_eq_true, decide_eq_true_eq] at h
  have e1 : IntKind.min .i64 = -9223372036854775808 := by decide
  have e2 : IntKind.max .i64 = 9223372036854775807 := by decide
  omega
theorem tourtop_TopSortedWorld.walk (a0 : Option Addr) (len0 cap0 : Nat) (z0 : List Int) (a1 : Int) (w : World) (w0 : (a0 = none ∧ len0 = 0 ∧ cap0 = 0 ∧ z0 = []) ∨ ∃ x, a0 = some x ∧ len0 ≤ cap0 ∧ cap0 ≤ maxLen ∧ z0.length = cap0 ∧ (∀ i, i < z0.length → w.cell? (x.add i) = some (.int .i64 (z0.getD i 0))) ∧ ∀ n ∈ z0, (Lit.int .i64 n).wf = true) (w1 : (Lit.int .i64 a1).wf = true) :
    Calls Try.prog 3 #[.slice a0 len0 cap0, .int .i64 a1] w fun e w' => e = .returned (.bool true) ∧ Below w.heap.size w w' := by
  obtain ⟨l0, rfl, hr0, hm0, hw0, hc0⟩ := ReadsInt.ofRowC w0
  exact T_top w _ _ l0 a1 (Kd.C_of_reads (d := (0 : Int)) (h1 := fun _ => rfl) hr0) hc0 (fun x hx => wf_range (hw0 x hx)) (wf_range w1)
end Go.Proofs.Ytlbicibihdkpnaa.P
