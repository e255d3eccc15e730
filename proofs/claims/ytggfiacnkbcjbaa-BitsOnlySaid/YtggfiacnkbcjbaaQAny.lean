/- What bits.Reader.Int reads off whatever bits: nothing, or a number and just the bits that write it. No condition. -/
import Derived.Test.YtggfiacnkbcjbaaQNat
namespace Go.Proofs.Ytggfiacnkbcjbaa.Pure
open Go.RowKit Go.Proofs.Ytggfiacnkbcjbaa.P Go.Proofs.YtggfiacnkbcjbaaW.PrintWords Go.Proofs.YtggfiacnkbcjbaaW.PrintLast Go.Proofs.YtggfiacnkbcjbaaW.PrintMore
set_option linter.unusedVariables false

def Bits01 (R : List Int) : Prop := ∀ x ∈ R, x = 0 ∨ x = 1
theorem seg_01 (l : List Int) (k : Nat) : ∀ M, Bits01 (seg l M k) := by
  induction k with
  | zero => intro M x hx; cases hx
  | succ k ih =>
    intro M x hx
    rcases List.mem_cons.1 hx with rfl | hx
    · exact bitAt_01 l M
    · exact ih (M + 1) x hx
theorem Rdr.bits01 {b : ByteArray} {n : Int} {R : List Int} (h : Rdr b n R) : Bits01 R := by
  obtain ⟨M, _, _, _, _, hs⟩ := h
  rw [← hs]
  exact seg_01 _ _ _
theorem nb_ofBits (X : List Int) (h : Bits01 X) : nb (ofBits X) X.length = X ∧ 0 ≤ ofBits X ∧ ofBits X < 2 ^ X.length := by
  induction X with
  | nil => exact ⟨rfl, by decide, by decide⟩
  | cons x X ih =>
    obtain ⟨h1, h2, h3⟩ := ih (fun y hy => h y (List.mem_cons_of_mem _ hy))
    have hx := h x List.mem_cons_self
    simp only [List.length_cons, nb, ofBits]
    rw [Int.pow_succ]
    refine ⟨?_, by rcases hx with rfl | rfl <;> omega, by rcases hx with rfl | rfl <;> omega⟩
    rw [show (x + 2 * ofBits X) / 2 = ofBits X from by rcases hx with rfl | rfl <;> omega, h1]
    congr 1
    rcases hx with rfl | rfl <;> omega
theorem get_short {b : ByteArray} {n : Int} {R : List Int} (h : Rdr b n R) (m : Nat) (hm : m ≤ 64) (hR : R.length < m) : bits_Reader_Get.f b n m = some (0, 14, b, n) := by
  obtain ⟨M, rfl, hc, hb, hM, hs⟩ := h
  unfold bits_Reader_Get.f
  rw [if_neg (by omega), if_pos ⟨by omega, by omega, by omega⟩, if_pos (by omega)]

/-- one group, whatever stands there -/
theorem rnat_any (f : Nat) : ∀ (i : Nat) (was acc : Int) (b : ByteArray) (n : Int) (R : List Int) (k : Nat), i + f = 15 → 0 ≤ acc → acc < 16 ^ i → Rdr b n R → 3 * f + 6 ≤ k →
    (∃ e, e ≠ 0 ∧ bits_Reader_Nat.l0 k was acc i b n = some (0, e, b, was)) ∨
    (∃ u n' R', bits_Reader_Nat.l0 k was acc i b n = some (acc + u * 16 ^ i, 0, b, n') ∧ 0 ≤ u ∧ u < 16 ^ (f + 1) ∧ (u = 0 → i = 0) ∧ R = encF f u ++ R' ∧ Rdr b n' R') := by
  have head : ∀ (i : Nat) (was acc : Int) (b : ByteArray) (n : Int) (R : List Int) (k : Nat), i ≤ 16 → Rdr b n R →
      (∃ e, e ≠ 0 ∧ bits_Reader_Nat.l0 (k + 3) was acc i b n = some (0, e, b, was)) ∨ (i ≤ 15 ∧ ∃ y R1, R = nb y 5 ++ R1 ∧ 0 ≤ y ∧ y < 32 ∧ (y = 0 → i = 0)) := by
    intro i was acc b n R k hi hr
    by_cases hl : R.length < 5
    · left
      refine ⟨14, by decide, ?_⟩
      have e := get_short hr 5 (by omega) hl
      rw [show ((5 : Nat) : Int) = 5 from rfl] at e
      simp only [bits_Reader_Nat.l0]
      rw [e]
      simp only [Option.bind_some]
      rw [if_neg (by decide)]
      simp only [bits_Reader_Nat.j1]
      rw [if_neg (by decide)]
      simp only [bits_Reader_Nat.j2]
      rw [if_neg (by decide)]
    · have h01 := hr.bits01
      have h5 : (R.take 5).length = 5 := by rw [List.length_take]; omega
      obtain ⟨h1, h2, h3⟩ := nb_ofBits (R.take 5) (fun x hx => h01 x (List.mem_of_mem_take hx))
      rw [h5] at h1 h3
      have hR : R = nb (ofBits (R.take 5)) 5 ++ R.drop 5 := by rw [h1, List.take_append_drop]
      generalize ofBits (R.take 5) = y at *
      have hr' := hr
      rw [hR] at hr'
      obtain ⟨e, _⟩ := get_nb hr' (by omega) h2 (by simpa using h3)
      rw [show ((5 : Nat) : Int) = 5 from rfl] at e
      have hj1 : bits_Reader_Nat.j1 (k + 2) was acc i y 0 true b (n + 5) = some (0, 3, b, was) := by
        simp only [bits_Reader_Nat.j1]
        rw [if_pos trivial]
        simp only [bits_Reader_Nat.j2]
        rw [if_neg (by decide)]
      by_cases h16 : i = 16
      · left
        refine ⟨3, by decide, ?_⟩
        simp only [bits_Reader_Nat.l0]
        rw [e]
        simp only [Option.bind_some]
        rw [if_pos trivial, if_pos (by omega)]
        exact hj1
      · by_cases hy : y = 0 ∧ i ≠ 0
        · left
          refine ⟨3, by decide, ?_⟩
          simp only [bits_Reader_Nat.l0]
          rw [e]
          simp only [Option.bind_some]
          rw [if_pos trivial, if_neg (by omega), if_pos hy.1, decide_eq_true (show (i : Int) > 0 by omega)]
          exact hj1
        · right
          exact ⟨by omega, y, R.drop 5, hR, h2, by simpa using h3, fun hy0 => by omega⟩
  induction f with
  | zero =>
    intro i was acc b n R k hi ha0 ha1 hr hk
    obtain ⟨k, rfl⟩ : ∃ m, k = m + 6 := ⟨k - 6, by omega⟩
    rcases head i was acc b n R (k + 3) (by omega) hr with h | ⟨_, y, R1, rfl, hy0, hy1, hz⟩
    · exact .inl h
    · have hst := rnat_step (k + 3) was acc i b n y R1 hr (by omega) hy0 hy1 hz ha0 ha1
      have hr2 := (get_nb hr (by omega) hy0 (by simpa using hy1)).2
      by_cases h16 : y < 16
      · right
        rw [if_pos h16, show y % 16 = y from by omega] at hst
        exact ⟨y, _, R1, hst, hy0, by simpa using h16, hz, by simp only [encF]; rw [show y % 16 = y from by omega], hr2⟩
      · left
        rw [if_neg h16] at hst
        rcases head (i + 1) was (acc + y % 16 * 16 ^ i) b (n + 5) R1 k (by omega) hr2 with ⟨e, he, h⟩ | ⟨h, _⟩
        · exact ⟨e, he, by rw [hst]; exact h⟩
        · omega
  | succ f ih =>
    intro i was acc b n R k hi ha0 ha1 hr hk
    obtain ⟨k, rfl⟩ : ∃ m, k = m + 3 := ⟨k - 3, by omega⟩
    rcases head i was acc b n R k (by omega) hr with h | ⟨_, y, R1, rfl, hy0, hy1, hz⟩
    · exact .inl h
    · have hst := rnat_step k was acc i b n y R1 hr (by omega) hy0 hy1 hz ha0 ha1
      have hr2 := (get_nb hr (by omega) hy0 (by simpa using hy1)).2
      by_cases h16 : y < 16
      · right
        rw [if_pos h16, show y % 16 = y from by omega] at hst
        refine ⟨y, _, R1, hst, hy0, ?_, hz, ?_, hr2⟩
        · have := p16_pos (f + 1)
          rw [p16 (f + 1)]
          omega
        · simp only [encF]
          rw [if_neg (by omega), show y % 16 = y from by omega]
      · rw [if_neg h16] at hst
        have hp := p16_pos i
        have hm : y % 16 * 16 ^ i ≤ 15 * 16 ^ i := Int.mul_le_mul_of_nonneg_right (by omega) (by omega)
        have hm0 : 0 ≤ y % 16 * 16 ^ i := Int.mul_nonneg (by omega) (by omega)
        rcases ih (i + 1) was (acc + y % 16 * 16 ^ i) b (n + 5) R1 k (by omega) (by omega) (by rw [p16 i]; omega) hr2 (by omega) with ⟨e, he, h⟩ | ⟨u, n', R', h, hu0, hu1, huz, rfl, hr'⟩
        · exact .inl ⟨e, he, by rw [hst]; exact h⟩
        · right
          have hup : u > 0 := by
            rcases Int.lt_or_eq_of_le hu0 with h | h
            · exact h
            · have := huz h.symm; omega
          refine ⟨y % 16 + 16 * u, n', R', ?_, by omega, by rw [p16 (f + 1)]; omega, by omega, ?_, hr'⟩
          · rw [hst, h]
            congr 2
            rw [p16 i, Int.add_mul, ← Int.add_assoc, Int.mul_left_comm, ← Int.mul_assoc 16 u]
          · simp only [encF]
            rw [if_pos (by omega), show (y % 16 + 16 * u) % 16 + 16 = y from by omega, show (y % 16 + 16 * u) / 16 = u from by omega, List.append_assoc]

theorem encNat_len (v : Int) : (encNat v).length ≤ 80 := by
  unfold encNat
  rw [encF_length]
  have := gcF_le 15 v
  omega
theorem zig_onto (v : Int) (h0 : 0 ≤ v) (h1 : v < 18446744073709551616) : ∃ a, I64 a ∧ zig a = v := by
  unfold I64
  by_cases h : v % 2 = 0
  · refine ⟨v / 2, by omega, ?_⟩
    unfold zig
    rw [if_pos (by omega)]
    omega
  · refine ⟨-((v + 1) / 2), by omega, ?_⟩
    unfold zig
    rw [if_neg (by omega)]
    omega
theorem rint_any {b : ByteArray} {n : Int} {R : List Int} (hr : Rdr b n R) (k : Nat) (hk : 60 ≤ k) :
    (∃ e, e ≠ 0 ∧ bits_Reader_Int.f k b n = some (0, e, b, n)) ∨ (∃ a n' R', bits_Reader_Int.f k b n = some (a, 0, b, n') ∧ I64 a ∧ R = encInt a ++ R' ∧ Rdr b n' R') := by
  rcases rnat_any 15 0 n 0 b n R k (by omega) (by omega) (by decide) hr (by omega) with ⟨e, he, h⟩ | ⟨u, n', R', h, hu0, hu1, _, rfl, hr'⟩
  · left
    refine ⟨e, he, ?_⟩
    rw [show ((0 : Nat) : Int) = 0 from rfl] at h
    unfold bits_Reader_Int.f bits_Reader_Nat.f
    rw [h]
    simp only [Option.bind_some]
    rw [if_neg he]
  · right
    have hu : u < 18446744073709551616 := by simpa using hu1
    obtain ⟨a, ha, rfl⟩ := zig_onto u hu0 hu
    refine ⟨a, n', R', ?_, ha, rfl, hr'⟩
    rw [show ((0 : Nat) : Int) = 0 from rfl] at h
    unfold bits_Reader_Int.f bits_Reader_Nat.f
    rw [h]
    simp only [Option.bind_some]
    rw [if_pos trivial, show (0 : Int) + zig a * 16 ^ 0 = zig a from by simp, zig_read a ha]
end Go.Proofs.Ytggfiacnkbcjbaa.Pure
