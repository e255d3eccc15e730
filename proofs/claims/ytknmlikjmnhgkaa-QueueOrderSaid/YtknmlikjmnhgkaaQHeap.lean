/- A binary heap as a list: what Put and Take do to it. No condition. -/
import Derived.Test.YtknmlikjmnhgkaaPAllx0
namespace Go.Proofs.Ytknmlikjmnhgkaa.P
set_option linter.unusedVariables false

abbrev It (α : Type) := α × Int × Int
section
variable {α : Type} [Inhabited α]
/-- comes out before: by the number, then by when it came -/
def ltI (a b : It α) : Bool := if a.2.1 = b.2.1 then decide (a.2.2 < b.2.2) else decide (a.2.1 < b.2.1)
def at0 (l : List (It α)) (i : Nat) : It α := l.getD i (default, 0, 0)
def swp (l : List (It α)) (i k : Nat) : List (It α) := (l.set i (at0 l k)).set k (at0 l i)
/-- item i goes up -/
def up (i : Nat) (l : List (It α)) : List (It α) := if h : 0 < i ∧ ltI (at0 l i) (at0 l ((i - 1) / 2)) = true then up ((i - 1) / 2) (swp l i ((i - 1) / 2)) else l
termination_by i
decreasing_by omega
theorem up_step (i : Nat) (l : List (It α)) (h0 : 0 < i) (h : ltI (at0 l i) (at0 l ((i - 1) / 2)) = true) : up i l = up ((i - 1) / 2) (swp l i ((i - 1) / 2)) := by
  rw [up, dif_pos ⟨h0, h⟩]
theorem up_stop (i : Nat) (l : List (It α)) (h : ¬ (0 < i ∧ ltI (at0 l i) (at0 l ((i - 1) / 2)) = true)) : up i l = l := by
  rw [up, dif_neg h]
theorem swp_length (l : List (It α)) (i k : Nat) : (swp l i k).length = l.length := by simp [swp]
/-- the child that comes out first -/
def kid (i n : Nat) (l : List (It α)) : Nat := if 2 * i + 2 < n ∧ ltI (at0 l (2 * i + 2)) (at0 l (2 * i + 1)) = true then 2 * i + 2 else 2 * i + 1
theorem kid_gt (i n : Nat) (l : List (It α)) : i < kid i n l := by unfold kid; split <;> omega
/-- item i goes down, among n -/
def down (i n : Nat) (l : List (It α)) : List (It α) := if h : kid i n l < n ∧ ltI (at0 l i) (at0 l (kid i n l)) = false then down (kid i n l) n (swp l i (kid i n l)) else l
termination_by n - i
decreasing_by have := kid_gt i n l; omega
theorem down_step (i n : Nat) (l : List (It α)) (h : kid i n l < n ∧ ltI (at0 l i) (at0 l (kid i n l)) = false) : down i n l = down (kid i n l) n (swp l i (kid i n l)) := by
  rw [down, dif_pos h]
theorem down_stop (i n : Nat) (l : List (It α)) (h : ¬ (kid i n l < n ∧ ltI (at0 l i) (at0 l (kid i n l)) = false)) : down i n l = l := by
  rw [down, dif_neg h]
end
end Go.Proofs.Ytknmlikjmnhgkaa.P
