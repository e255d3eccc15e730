/- Package sets: the iterator over a set's elements, walked. No condition. -/
import Derived.RangeFuncNested
import Derived.RangeFuncBound
import Derived.RangeFuncCalls
import Derived.RangeFuncLeaves
import Derived.RangeFuncBox
import Derived.Shelf.Abstract
import Derived.Shelf.RegionOpen
import Derived.WalkKit
import Derived.OwnWalkIn
import Derived.TacticsInMore
import Derived.LoopNIn
import Derived.LoopIn
import Derived.Laws.BitsAllLaws
import Derived.Test.YtknmlikjmnhgkaaQSet
namespace Go.Proofs.Ytknmlikjmnhgkaa.P
open Go.RowKit Go.Shelf Go.Proofs.YtknmlikjmnhgkaaW.PrintWords Go.Proofs.YtknmlikjmnhgkaaW.PrintLast Go.Proofs.YtknmlikjmnhgkaaW.PrintMore
attribute [local go_sem] Oper.semAt_some
set_option linter.unusedVariables false
set_option linter.unusedSimpArgs false

/-- the elements of a word, from bit i on -/
def wbits (k i : Nat) (x : Nat) : List Int := if h : x = 0 then [] else (if x % 2 = 1 then [64 * (k : Int) + (i : Int)] else []) ++ wbits k (i + 1) (x / 2)
termination_by x
decreasing_by omega
theorem wbits_zero (k i : Nat) : wbits k i 0 = [] := by rw [wbits]; simp
theorem wbits_odd (k i x : Nat) (h : x % 2 = 1) : wbits k i x = (64 * (k : Int) + (i : Int)) :: wbits k (i + 1) (x / 2) := by
  rw [wbits, dif_neg (by omega), if_pos h]; rfl
theorem wbits_even (k i x : Nat) (h : x % 2 = 0) (h0 : x ≠ 0) : wbits k i x = wbits k (i + 1) (x / 2) := by
  rw [wbits, dif_neg h0, if_neg (by omega)]; rfl
/-- the elements of the words from k on -/
def elems (k : Nat) : List Int → List Int
  | [] => []
  | x :: l => wbits k 0 x.toNat ++ elems (k + 1) l
/-- blocks that must be kept -/
def KeepB (b : Nat) (W W' : World) : Prop := W'.heap[b]? = W.heap[b]?
theorem KeepB.cell {b : Nat} {W W' : World} (h : KeepB b W W') (j : Nat) : W'.cell? ⟨b, j, none⟩ = W.cell? ⟨b, j, none⟩ := by
  unfold World.cell?
  simp only [show W'.heap[b]? = W.heap[b]? from h]
theorem keepB_t {b : Nat} {A B C : World} (h : KeepB b A B) (k : KeepB b B C) : KeepB b A C := Eq.trans k h

theorem and_one_u64 (Y : Nat) (h : Y < 18446744073709551616) : bits BinOp.and IntKind.u64 (Y : Int) 1 = ((Y % 2 : Nat) : Int) := by
  have := u64_and_nat Y 1 (by omega) (by omega)
  rw [show ((1 : Nat) : Int) = 1 from rfl] at this
  rw [this, Nat.and_one_is_mod]
set_option maxHeartbeats 4000000 in
set_option maxRecDepth 100000 in
theorem sets_walk_in (F : Fence) (n : Nat) (h58 : F.fn 58) (hro : F.round = none) (hn : 1 ≤ n) (P : Int → Prop) (l Bs b cap : Nat) (L : List Int) (hL : L.length ≤ 64) (hw : ∀ x ∈ L, 0 ≤ x ∧ x < 18446744073709551616) (hP : ∀ x ∈ elems 0 L, P x)
    (J Jx : List {x : Int // P x} → World → Prop)
    (hY : ∀ pre (x : {x : Int // P x}) W, J pre W → pre.length < (elems 0 L).length → YieldAt F (n - 1) Try.prog l #[.int .i64 x.1] W fun e W' =>
      (e = .returned (.bool true) ∧ J (pre ++ [x]) W' ∧ KeepB b W W') ∨ (e = .returned (.bool false) ∧ Jx (pre ++ [x]) W'))
    (W : World) (hBs : W.cell? ⟨Bs, 0, none⟩ = some (.slice (some ⟨b, 0, none⟩) L.length cap)) (hc : ∀ j, j < L.length → W.cell? ⟨b, j, none⟩ = some (.int .u64 (L.getD j 0))) (h0 : J [] W) :
    CallsIn F n Try.prog 58 #[.func (.yield l) #[] #[], .pointer (some ⟨Bs, 0, none⟩)] W fun e W' => (∃ v, e = .returned v) ∧
      ((∃ ys, ys.map (·.1) = elems 0 L ∧ J ys W') ∨ (∃ pre, pre.map (·.1) <+: elems 0 L ∧ Jx pre W')) := by
  refine callsIn_of_wp Try.func58 rfl h58 ?_ hro
  simp only [Try.ntmps58, List.size_toArray, List.length_cons, List.length_nil, Nat.reduceAdd, Nat.reduceSub, Array.replicate_succ, Array.replicate_zero, List.push_toArray, List.append_toArray, List.nil_append, List.cons_append]
  gi_wp2
  gi_loopw [8] (fun i wr => ∃ (k : Nat) (pre : List {x : Int // P x}), k ≤ L.length ∧ i = .int .i64 k ∧ J pre wr ∧ KeepB b W wr ∧ elems 0 L = pre.map (·.1) ++ elems k (L.drop k))
    (fun i _ => L.length - (intOf i).toNat)
  case atStart => exact ⟨0, [], Nat.zero_le _, rfl, h0, rfl, rfl⟩
  case round =>
    obtain ⟨k, pre, hk, rfl, hJ, hK, he⟩ := hrel
    have hcx : k < L.length → wr.cell? ⟨b, k, none⟩ = some (.int .u64 (L.getD k 0)) := fun h => (hK.cell k).trans (hc k h)
    by_cases hlt : k < L.length
    · have hcx' := hcx hlt
      have hx := hw (L.getD k 0) (by rw [List.getD_eq_getElem?_getD, List.getElem?_eq_getElem hlt]; exact List.getElem_mem hlt)
      have hd : L.drop k = L.getD k 0 :: L.drop (k + 1) := by rw [List.drop_eq_getElem_cons hlt, List.getD_eq_getElem?_getD, List.getElem?_eq_getElem hlt]; rfl
      rw [hd] at he
      obtain ⟨x, hxe⟩ : ∃ x, L.getD k 0 = x := ⟨_, rfl⟩
      rw [hxe] at hcx' hx he
      obtain ⟨X, rfl⟩ : ∃ X : Nat, x = X := ⟨x.toNat, by omega⟩
      have hX : X < 18446744073709551616 := by omega
      have hk64 : k < 64 := by omega
      clear hx hcx hxe hd
      simp only [elems, Int.toNat_natCast] at he
      gi_wp2
      gi_loopw [4, 5] (fun v4 v5 wr => ∃ (i Y : Nat) (pre : List {x : Int // P x}), v4 = .int .u64 Y ∧ v5 = .int .i64 i ∧ Y < 2 ^ (64 - i) ∧ J pre wr ∧ KeepB b W wr ∧ elems 0 L = pre.map (·.1) ++ (wbits k i Y ++ elems (k + 1) (L.drop (k + 1))))
        (fun v4 _ _ => (intOf v4).toNat)
      case atStart => exact ⟨0, X, pre, rfl, rfl, by omega, hJ, hK, he⟩
      case round =>
        clear hJ hK he hcx' hX
        obtain ⟨i, Y, pre, rfl, rfl, hY2, hJ, hK, he⟩ := hrel
        by_cases h0 : Y = 0
        · subst h0
          rw [wbits_zero] at he
          gi_wp2
          go_roundw
          case rel => exact ⟨k + 1, pre, by omega, by simp, hJ, hK, he⟩
          case measure => simp [intOf]; omega
        · have hi : i < 64 := by
            apply Classical.byContradiction
            intro h
            rw [show 64 - i = 0 from by omega] at hY2
            omega
          have hY3 : Y / 2 < 2 ^ (64 - (i + 1)) := by
            have e1 : 2 ^ (64 - i) = 2 * 2 ^ (64 - (i + 1)) := by rw [show 64 - i = 64 - (i + 1) + 1 from by omega, Nat.pow_succ]; omega
            rw [e1] at hY2
            generalize 2 ^ (64 - (i + 1)) = q at hY2
            omega
          have hY4 : Y < 18446744073709551616 := by
            have := Nat.pow_le_pow_right (n := 2) (by omega) (show 64 - i ≤ 64 from by omega)
            generalize 2 ^ (64 - i) = q at hY2 this
            omega
          have n0 : ((Y : Int) == 0) = false := by simpa using h0
          have n1 : decide ((Y : Int) = 0) = false := by simpa using h0
          clear hY2
          by_cases h1 : Y % 2 = 1
          · rw [wbits_odd k i Y h1] at he
            have hm : (64 * (k : Int) + (i : Int)) ∈ elems 0 L := by rw [he]; simp
            obtain ⟨fn, tmps, assign, body, hy, hR⟩ := hY pre ⟨_, hP _ hm⟩ wr hJ (by rw [he]; simp)
            dsimp only at hy
            have hb : bits BinOp.and IntKind.u64 (Y : Int) 1 = 1 := by rw [and_one_u64 Y hY4, h1]; rfl
            gi_wp2
            refine hR.mono ?_
            rintro e W3 (⟨rfl, hJ3, hk3⟩ | ⟨rfl, hJx3⟩)
            · gi_wp2
              go_roundw
              case rel => exact ⟨i + 1, Y / 2, pre ++ [⟨_, hP _ hm⟩], by simp, by simp, hY3, hJ3, keepB_t hK hk3, by rw [he]; simp⟩
              case measure => simp [intOf]; omega
            · gi_wp2
              refine bodyPost_ret (results_none rfl _ _ _) rfl ?_
              exact ⟨⟨_, rfl⟩, .inr ⟨pre ++ [⟨_, hP _ hm⟩], ⟨wbits k (i + 1) (Y / 2) ++ elems (k + 1) (L.drop (k + 1)), by rw [he]; simp⟩, hJx3⟩⟩
          · rw [wbits_even k i Y (by omega) h0] at he
            have hb : bits BinOp.and IntKind.u64 (Y : Int) 1 = 0 := by rw [and_one_u64 Y hY4, show Y % 2 = 0 from by omega]; rfl
            gi_wp2
            refine ⟨fun _ h => (by cases h), ?_⟩
            gi_wp2
            go_roundw
            case rel => exact ⟨i + 1, Y / 2, pre, by simp, by simp, hY3, hJ, hK, he⟩
            case measure => simp [intOf]; omega
    · obtain rfl : k = L.length := by omega
      gi_wp2
      go_end0
      exact ⟨⟨_, rfl⟩, .inl ⟨pre, by rw [he]; simp [elems], hJ⟩⟩
end Go.Proofs.Ytknmlikjmnhgkaa.P
