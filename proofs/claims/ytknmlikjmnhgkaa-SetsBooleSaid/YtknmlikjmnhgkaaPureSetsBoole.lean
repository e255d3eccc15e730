/- SetsBoole: the laws of sets. No condition. -/
import Derived.Test.YtknmlikjmnhgkaaPAllx4
import Derived.Test.YtknmlikjmnhgkaaQWord
namespace Go.Proofs.Ytknmlikjmnhgkaa.Pure
open Go.RowKit Go.Proofs.Ytknmlikjmnhgkaa.P Go.Proofs.YtknmlikjmnhgkaaW.PrintWords Go.Proofs.YtknmlikjmnhgkaaW.PrintLast
set_option linter.unusedVariables false

theorem first_of : ofL [] [64, 1] = [2, 1] := by decide +kernel
theorem same_f {a b : List Int} (h : a = b) (ha : GoodS a) (k : Nat) (hk : 100 ≤ k) : tourkeep1_SetsBoole_1.f k a b = some true := by
  subst h
  unfold tourkeep1_SetsBoole_1.f
  rw [equal_f ha.len k hk, Option.bind_some]
theorem b1 (x y : List Int) : uni x y = uni y x := good_ext (good_uni _ _) (good_uni _ _) (fun k hk => by
  rw [wv_uni _ _ _ hk, wv_uni _ _ _ hk, BitVec.or_comm])
theorem b2 (x y : List Int) : itr x y = itr y x := good_ext (good_itr _ _) (good_itr _ _) (fun k hk => by
  rw [wv_itr _ _ _ hk, wv_itr _ _ _ hk, BitVec.and_comm])
theorem b3 {x : List Int} (hx : GoodS x) (y : List Int) : itr x (uni x y) = x := good_ext (good_itr _ _) hx (fun k hk => by
  rw [wv_itr _ _ _ hk, wv_uni _ _ _ hk]
  ext i hi
  simp only [BitVec.getElem_and, BitVec.getElem_or]
  cases (wv x k)[i] <;> simp)
theorem b4 {x : List Int} (hx : GoodS x) (y : List Int) : uni x (itr x y) = x := good_ext (good_uni _ _) hx (fun k hk => by
  rw [wv_uni _ _ _ hk, wv_itr _ _ _ hk]
  ext i hi
  simp only [BitVec.getElem_and, BitVec.getElem_or]
  cases (wv x k)[i] <;> simp)
theorem b5 (x y z : List Int) : dif z (uni x y) = itr (dif z x) (dif z y) := good_ext (good_dif _ _) (good_itr _ _) (fun k hk => by
  rw [wv_dif _ _ _ hk, wv_uni _ _ _ hk, wv_itr _ _ _ hk, wv_dif _ _ _ hk, wv_dif _ _ _ hk]
  ext i hi
  simp only [BitVec.getElem_and, BitVec.getElem_or, BitVec.getElem_not]
  cases (wv x k)[i] <;> cases (wv y k)[i] <;> cases (wv z k)[i] <;> rfl)
theorem b6 (x y z : List Int) : dif z (itr x y) = uni (dif z x) (dif z y) := good_ext (good_dif _ _) (good_uni _ _) (fun k hk => by
  rw [wv_dif _ _ _ hk, wv_itr _ _ _ hk, wv_uni _ _ _ hk, wv_dif _ _ _ hk, wv_dif _ _ _ hk]
  ext i hi
  simp only [BitVec.getElem_and, BitVec.getElem_or, BitVec.getElem_not]
  cases (wv x k)[i] <;> cases (wv y k)[i] <;> cases (wv z k)[i] <;> rfl)
theorem b7 (x y z : List Int) : itr x (uni y z) = uni (itr x y) (itr x z) := good_ext (good_itr _ _) (good_uni _ _) (fun k hk => by
  rw [wv_itr _ _ _ hk, wv_uni _ _ _ hk, wv_uni _ _ _ hk, wv_itr _ _ _ hk, wv_itr _ _ _ hk]
  ext i hi
  simp only [BitVec.getElem_and, BitVec.getElem_or]
  cases (wv x k)[i] <;> cases (wv y k)[i] <;> cases (wv z k)[i] <;> rfl)
theorem b8 (x y : List Int) : dif x y = dif x (itr x y) := good_ext (good_dif _ _) (good_dif _ _) (fun k hk => by
  rw [wv_dif _ _ _ hk, wv_dif _ _ _ hk, wv_itr _ _ _ hk]
  ext i hi
  simp only [BitVec.getElem_and, BitVec.getElem_not]
  cases (wv x k)[i] <;> cases (wv y k)[i] <;> rfl)

theorem SetsBoole : tourkeep1_SetsBoole.Pure := by
  intro l0 l1 l2 _ h0 _ _ h1 _ _ h2 _
  refine ⟨2 * (l0.length + l1.length + l2.length) + 200, ?_⟩
  have g0 := good_setL l0
  have g1 := good_setL l1
  have g2 := good_setL l2
  unfold tourkeep1_SetsBoole.f
  rw [of_f [64, 1] (by simp) _ (by first | omega | (simp; done) | (simp; omega)), Option.bind_some, first_of]
  rw [equal_f (a := [2, 1]) (by simp) _ (by omega), Option.bind_some, if_pos rfl]
  rw [setOf_f l0 h0 _ (by omega), Option.bind_some, setOf_f l1 h1 _ (by omega), Option.bind_some, setOf_f l2 h2 _ (by omega), Option.bind_some]
  generalize setL l0 = x at g0
  generalize setL l1 = y at g1
  generalize setL l2 = z at g2
  have hk : 100 ≤ 2 * (l0.length + l1.length + l2.length) + 200 := by omega
  generalize 2 * (l0.length + l1.length + l2.length) + 200 = k at hk
  simp only [Either_f, Both_f, Minus_f, Option.bind_some]
  rw [same_f (b1 x y) (good_uni _ _) k hk, Option.bind_some, if_pos rfl]
  rw [same_f (b2 x y) (good_itr _ _) k hk, Option.bind_some, if_pos rfl]
  rw [same_f (b3 g0 y) (good_itr _ _) k hk, Option.bind_some, if_pos rfl]
  rw [same_f (b4 g0 y) (good_uni _ _) k hk, Option.bind_some, if_pos rfl]
  rw [same_f (b5 x y z) (good_dif _ _) k hk, Option.bind_some, if_pos rfl]
  rw [same_f (b6 x y z) (good_dif _ _) k hk, Option.bind_some, if_pos rfl]
  rw [same_f (b7 x y z) (good_itr _ _) k hk, Option.bind_some, if_pos rfl]
  rw [same_f (b8 x y) (good_dif _ _) k hk, Option.bind_some, if_pos rfl]
  rw [len_f (good_uni x y), Option.bind_some, len_f (good_itr x y), Option.bind_some, len_f g0, Option.bind_some, len_f g1, Option.bind_some]
  have h := card_or_and x y
  rw [show ((card (uni x y) : Int) + (card (itr x y) : Int)) = ((card x : Int) + (card y : Int)) from by omega]
  simp
end Go.Proofs.Ytknmlikjmnhgkaa.Pure
