/- Numbers of varying length: what bits.Writer.Nat and Int write, and bits.Reader.Nat and Int read. No condition. -/
import Derived.Test.YtggfiacnkbcjbaaQBits
import Derived.Test.YtggfiacnkbcjbaaQBelow
import Derived.Test.YtggfiacnkbcjbaaPAllx6
import Derived.Test.YtggfiacnkbcjbaaPAllx7
import Derived.Test.YtggfiacnkbcjbaaPAllx8
namespace Go.Proofs.Ytggfiacnkbcjbaa.Pure
open Go.RowKit Go.Proofs.Ytggfiacnkbcjbaa.P Go.Proofs.YtggfiacnkbcjbaaW.PrintWords Go.Proofs.YtggfiacnkbcjbaaW.PrintLast Go.Proofs.YtggfiacnkbcjbaaW.PrintMore
set_option linter.unusedVariables false

def gcF : Nat → Int → Nat
  | 0, _ => 1
  | f + 1, v => if v / 16 > 0 then gcF f (v / 16) + 1 else 1
def encF : Nat → Int → List Int
  | 0, v => nb (v % 16) 5
  | f + 1, v => if v / 16 > 0 then nb (v % 16 + 16) 5 ++ encF f (v / 16) else nb (v % 16) 5
def encNat (v : Int) : List Int := encF 15 v
theorem gcF_pos (f : Nat) (v : Int) : 1 ≤ gcF f v := by cases f <;> simp only [gcF] <;> (try split) <;> omega
theorem gcF_le (f : Nat) : ∀ v, gcF f v ≤ f + 1 := by
  induction f with
  | zero => intro v; simp [gcF]
  | succ f ih => intro v; simp only [gcF]; have := ih (v / 16); split <;> omega
theorem encF_length (f : Nat) : ∀ v, (encF f v).length = 5 * gcF f v := by
  induction f with
  | zero => intro v; simp [encF, gcF, nb_length]
  | succ f ih =>
    intro v
    simp only [encF, gcF]
    split
    · rw [List.length_append, nb_length, ih]; omega
    · rw [nb_length]
theorem p16 (f : Nat) : (16 : Int) ^ (f + 1) = 16 * 16 ^ f := by rw [Int.pow_succ]; omega
theorem p16_pos (f : Nat) : (1 : Int) ≤ 16 ^ f := Int.pow_pos (by omega)
theorem p16_two (i : Nat) : (16 : Int) ^ i = 2 ^ (4 * i) := by rw [Int.pow_mul]; rfl
theorem div16 {u : Int} {f : Nat} (h0 : 0 ≤ u) (h : u < 16 ^ (f + 1 + 1)) : 0 ≤ u / 16 ∧ u / 16 < 16 ^ (f + 1) := by
  rw [p16 (f + 1)] at h
  omega

theorem groups_loop (f : Nat) : ∀ (v : Int) (c : Int) (k : Nat), 0 ≤ v → v < 16 ^ (f + 1) → 0 ≤ c → c + f ≤ 1000 → f + 1 ≤ k → bits_groups.l0 k (v / 16) c = some (c + gcF f v - 1) := by
  induction f with
  | zero =>
    intro v c k h0 h1 hc hcf hk
    obtain ⟨k, rfl⟩ : ∃ m, k = m + 1 := ⟨k - 1, by omega⟩
    simp only [bits_groups.l0, gcF]
    rw [if_neg (by omega)]
    congr 1
    omega
  | succ f ih =>
    intro v c k h0 h1 hc hcf hk
    obtain ⟨k, rfl⟩ : ∃ m, k = m + 1 := ⟨k - 1, by omega⟩
    have hd := div16 h0 h1
    simp only [bits_groups.l0, gcF]
    by_cases hv : v / 16 > 0
    · rw [if_pos hv, if_pos hv, wrap64_in _ (by omega) (by omega), ih (v / 16) (c + 1) k hd.1 hd.2 (by omega) (by omega) (by omega)]
      congr 1
      push_cast
      omega
    · rw [if_neg hv, if_neg hv]
      congr 1
      omega
theorem groups_f (v : Int) (h0 : 0 ≤ v) (h1 : v < 18446744073709551616) (k : Nat) (hk : 16 ≤ k) : bits_groups.f k v = some ((gcF 15 v : Nat) : Int) := by
  unfold bits_groups.f
  rw [groups_loop 15 v 1 k h0 (by simpa using h1) (by omega) (by omega) hk]
  congr 1
  omega

theorem and15 (x : Int) (h0 : 0 ≤ x) (h1 : x < 18446744073709551616) : Go.bits .and .u64 x 15 = x % 16 := by
  obtain ⟨A, rfl⟩ := Int.eq_ofNat_of_zero_le h0
  have := u64_and_nat A 15 (by omega) (by omega)
  rw [show ((15 : Nat) : Int) = 15 from rfl] at this
  rw [this, show (15 : Nat) = 2 ^ 4 - 1 from rfl, Nat.and_two_pow_sub_one_eq_mod]
  omega
theorem or_gen (a c : Int) (k : Nat) (h0 : 0 ≤ a) (h1 : a < 2 ^ k) (hc : 0 ≤ c) (hb : c * 2 ^ k < 18446744073709551616) (ha : a < 18446744073709551616) : Go.bits .or .u64 a (c * 2 ^ k) = a + c * 2 ^ k := by
  obtain ⟨A, rfl⟩ := Int.eq_ofNat_of_zero_le h0
  obtain ⟨C, rfl⟩ := Int.eq_ofNat_of_zero_le hc
  have h1' : A < 2 ^ k := by exact_mod_cast h1
  have e : (C : Int) * 2 ^ k = ((2 ^ k * C : Nat) : Int) := by push_cast; rw [Int.mul_comm]
  rw [e] at hb ⊢
  rw [u64_or_nat A (2 ^ k * C) (by omega) (by omega)]
  have := Nat.two_pow_add_eq_or_of_lt h1' C
  rw [Nat.or_comm, ← this]
  push_cast
  omega
theorem or_16 (x : Int) (h0 : 0 ≤ x) (h1 : x < 16) : Go.bits .or .u64 x 16 = x + 16 := or_gen x 1 4 h0 (by simpa using h1) (by omega) (by decide) (by omega)
theorem or_0 (x : Int) (h0 : 0 ≤ x) (h1 : x < 18446744073709551616) : Go.bits .or .u64 x 0 = x := by
  obtain ⟨A, rfl⟩ := Int.eq_ofNat_of_zero_le h0
  have := u64_or_nat A 0 (by omega) (by omega)
  simpa using this
theorem shr4 (v : Int) (i : Nat) (hi : i ≤ 16) : shr .u64 v (4 * (i : Int)) = v / 16 ^ i := by
  have e : shr .u64 v (4 * (i : Int)) = v / 2 ^ min (4 * (i : Int)).toNat 64 := rfl
  rw [e, show min (4 * (i : Int)).toNat 64 = 4 * i from by omega, p16_two]

theorem wnat_loop (v : Int) (h0 : 0 ≤ v) (h1 : v < 18446744073709551616) (f : Nat) : ∀ (i : Nat) (g : Nat) (b : ByteArray) (n : Int) (S : List Int) (k : Nat), i + f = 15 → v / 16 ^ i < 16 ^ (f + 1) → g = i + gcF f (v / 16 ^ i) → Wr b n S → S.length + 5 * gcF f (v / 16 ^ i) ≤ 524288 → f + 3 ≤ k →
    ∃ b' n', bits_Writer_Nat.l0 k v g g i b n = some (0, b', n') ∧ Wr b' n' (S ++ encF f (v / 16 ^ i)) := by
  induction f with
  | zero =>
    intro i g b n S k hi hu hg hw hS hk
    obtain ⟨k, rfl⟩ : ∃ m, k = m + 2 := ⟨k - 2, by omega⟩
    have hr : 0 ≤ v / 16 ^ i ∧ v / 16 ^ i ≤ v := ⟨Int.ediv_nonneg h0 (by have := p16_pos i; omega), Int.ediv_le_self _ h0⟩
    simp only [gcF] at hg hS
    subst hg
    simp only [bits_Writer_Nat.l0]
    rw [wrap64_in (4 * (i : Int)) (by omega) (by omega), wrap64_in ((i : Int) + 1) (by omega) (by omega), if_pos (by push_cast; omega), if_neg (by push_cast; omega), if_pos (by omega), shr4 v i (by omega), and15 _ hr.1 (by omega), or_0 _ (by omega) (by omega)]
    obtain ⟨b', e, hw'⟩ := put_ok hw (v / 16 ^ i % 16) 5 (by omega) (by omega) (by omega) (by omega)
    rw [show ((5 : Nat) : Int) = 5 from rfl] at e hw'
    rw [e]
    simp only [Option.bind_some]
    rw [if_neg (by push_cast; omega)]
    exact ⟨b', _, rfl, hw'⟩
  | succ f ih =>
    intro i g b n S k hi hu hg hw hS hk
    obtain ⟨k, rfl⟩ : ∃ m, k = m + 2 := ⟨k - 2, by omega⟩
    have hr : 0 ≤ v / 16 ^ i ∧ v / 16 ^ i ≤ v := ⟨Int.ediv_nonneg h0 (by have := p16_pos i; omega), Int.ediv_le_self _ h0⟩
    have hd := div16 hr.1 hu
    have hdd : v / 16 ^ i / 16 = v / 16 ^ (i + 1) := by
      rw [Int.pow_succ, Int.ediv_ediv_of_nonneg (by have := p16_pos i; omega)]
    rw [show bits_Writer_Nat.l0 (k + 2) = bits_Writer_Nat.l0 ((k + 1) + 1) from rfl]
    simp only [bits_Writer_Nat.l0]
    simp only [gcF] at hg hS
    by_cases hv : v / 16 ^ i / 16 > 0
    · rw [if_pos hv] at hg hS
      have hgp := gcF_pos f (v / 16 ^ i / 16)
      rw [wrap64_in (4 * (i : Int)) (by omega) (by omega), wrap64_in ((i : Int) + 1) (by omega) (by omega), if_pos (by omega), if_pos (by omega), if_pos (by omega), shr4 v i (by omega), and15 _ hr.1 (by omega), or_16 _ (by omega) (by omega)]
      obtain ⟨b', e, hw'⟩ := put_ok hw (v / 16 ^ i % 16 + 16) 5 (by omega) (by omega) (by omega) (by omega)
      rw [show ((5 : Nat) : Int) = 5 from rfl] at e hw'
      rw [e]
      simp only [Option.bind_some]
      rw [hdd] at hg hS hd
      obtain ⟨b2, n2, e2, hw2⟩ := ih (i + 1) g b' (n + 5) _ (k + 1) (by omega) hd.2 (by omega) hw' (by rw [List.length_append, nb_length]; omega) (by omega)
      rw [show (((i + 1 : Nat)) : Int) = (i : Int) + 1 from by push_cast; rfl] at e2
      refine ⟨b2, n2, e2, ?_⟩
      simp only [encF]
      rw [if_pos hv, hdd, ← List.append_assoc]
      exact hw2
    · rw [if_neg hv] at hg hS
      subst hg
      rw [wrap64_in (4 * (i : Int)) (by omega) (by omega), wrap64_in ((i : Int) + 1) (by omega) (by omega), if_pos (by push_cast; omega), if_neg (by push_cast; omega), if_pos (by omega), shr4 v i (by omega), and15 _ hr.1 (by omega), or_0 _ (by omega) (by omega)]
      obtain ⟨b', e, hw'⟩ := put_ok hw (v / 16 ^ i % 16) 5 (by omega) (by omega) (by omega) (by omega)
      rw [show ((5 : Nat) : Int) = 5 from rfl] at e hw'
      rw [e]
      simp only [Option.bind_some]
      rw [if_neg (by push_cast; omega)]
      refine ⟨b', _, rfl, ?_⟩
      simp only [encF]
      rw [if_neg hv]
      exact hw'
theorem wnat_ok {b : ByteArray} {n : Int} {S : List Int} (hw : Wr b n S) (v : Int) (h0 : 0 ≤ v) (h1 : v < 18446744073709551616) (hS : S.length + 80 ≤ 524288) (k : Nat) (hk : 20 ≤ k) :
    ∃ b' n', bits_Writer_Nat.f k b n v = some (0, b', n') ∧ Wr b' n' (S ++ encNat v) := by
  have hg := gcF_le 15 v
  have hg1 := gcF_pos 15 v
  have hn := hw.len
  have e0 : v / 16 ^ 0 = v := by simp
  obtain ⟨b', n', e, hw'⟩ := wnat_loop v h0 h1 15 0 (gcF 15 v) b n S k (by omega) (by rw [e0]; simpa using h1) (by rw [e0]; omega) hw (by rw [e0]; omega) (by omega)
  rw [e0] at hw'
  refine ⟨b', n', ?_, hw'⟩
  unfold bits_Writer_Nat.f
  rw [groups_f v h0 h1 k (by omega)]
  simp only [Option.bind_some]
  rw [wrap64_in (5 * ((gcF 15 v : Nat) : Int)) (by omega) (by omega), wrap64_in (n + _) (by omega) (by omega), if_neg (by omega)]
  exact e

/-! reading -/
theorem shl4 (y : Int) (i : Nat) (hi : i ≤ 15) (h0 : 0 ≤ y) (h1 : y < 16) : shl .u64 y (4 * (i : Int)) = y * 2 ^ (4 * i) ∧ y * 2 ^ (4 * i) < 18446744073709551616 := by
  have e : shl .u64 y (4 * (i : Int)) = IntKind.u64.wrap (y * 2 ^ min (4 * (i : Int)).toNat 64) := rfl
  have hp : (1 : Int) ≤ 2 ^ (4 * i) := Int.pow_pos (by omega)
  have hp2 : (2 : Int) ^ (4 * i) ≤ 2 ^ 60 := pow2_le (by omega)
  have hm : y * 2 ^ (4 * i) ≤ 15 * 2 ^ (4 * i) := Int.mul_le_mul_of_nonneg_right (by omega) (by omega)
  have hm0 : 0 ≤ y * 2 ^ (4 * i) := Int.mul_nonneg h0 (by omega)
  rw [e, show min (4 * (i : Int)).toNat 64 = 4 * i from by omega, IntKind.wrap_u64]
  generalize y * 2 ^ (4 * i) = z at hm hm0
  omega
theorem rnat_step (k : Nat) (was acc : Int) (i : Nat) (b : ByteArray) (n y : Int) (R : List Int) (h : Rdr b n (nb y 5 ++ R)) (hi : i ≤ 15) (hy0 : 0 ≤ y) (hy1 : y < 32) (hz : y = 0 → i = 0) (ha0 : 0 ≤ acc) (ha1 : acc < 16 ^ i) :
    bits_Reader_Nat.l0 (k + 3) was acc i b n = (if y < 16 then some (acc + y % 16 * 16 ^ i, 0, b, n + 5) else bits_Reader_Nat.l0 k was (acc + y % 16 * 16 ^ i) ((i + 1 : Nat) : Int) b (n + 5)) := by
  obtain ⟨e, hr⟩ := get_nb h (by omega) hy0 (by simpa using hy1)
  rw [show ((5 : Nat) : Int) = 5 from rfl] at e
  have hs := shl4 (y % 16) i hi (by omega) (by omega)
  have hp2 : (16 : Int) ^ i ≤ 2 ^ 60 := by rw [p16_two]; exact pow2_le (by omega)
  have hor := or_gen acc (y % 16) (4 * i) ha0 (by rw [← p16_two]; exact ha1) (by omega) hs.2 (by omega)
  have hj2 : bits_Reader_Nat.j2 (k + 1) was acc i y 0 b (n + 5) = (if y < 16 then some (acc + y % 16 * 16 ^ i, 0, b, n + 5) else bits_Reader_Nat.l0 k was (acc + y % 16 * 16 ^ i) ((i + 1 : Nat) : Int) b (n + 5)) := by
    simp only [bits_Reader_Nat.j2]
    rw [if_pos trivial, wrap64_in (4 * (i : Int)) (by omega) (by omega), if_pos (by omega), and15 y hy0 (by omega), hs.1, hor, ← p16_two, wrap64_in ((i : Int) + 1) (by omega) (by omega)]
    push_cast
    rfl
  have hj1 : bits_Reader_Nat.j1 (k + 2) was acc i y 0 false b (n + 5) = bits_Reader_Nat.j2 (k + 1) was acc i y 0 b (n + 5) := by
    simp only [bits_Reader_Nat.j1]
    rw [if_neg (by decide)]
  simp only [bits_Reader_Nat.l0]
  rw [e]
  simp only [Option.bind_some]
  rw [if_pos trivial, if_neg (by omega)]
  by_cases hy : y = 0
  · have hi0 := hz hy
    subst hi0
    rw [if_pos hy, show decide (((0 : Nat) : Int) > 0) = false from rfl, hj1, hj2]
  · rw [if_neg hy, hj1, hj2]
theorem rnat_loop (f : Nat) : ∀ (i : Nat) (was acc u : Int) (b : ByteArray) (n : Int) (R : List Int) (k : Nat), i + f = 15 → 0 ≤ u → u < 16 ^ (f + 1) → (u = 0 → i = 0) → 0 ≤ acc → acc < 16 ^ i → Rdr b n (encF f u ++ R) → 3 * f + 3 ≤ k →
    ∃ n', bits_Reader_Nat.l0 k was acc i b n = some (acc + u * 16 ^ i, 0, b, n') ∧ Rdr b n' R := by
  induction f with
  | zero =>
    intro i was acc u b n R k hi h0 h1 hz ha0 ha1 hr hk
    obtain ⟨k, rfl⟩ : ∃ m, k = m + 3 := ⟨k - 3, by omega⟩
    simp only [encF] at hr
    have hu : u % 16 = u := by omega
    rw [hu] at hr
    have hst := rnat_step k was acc i b n u R hr (by omega) h0 (by omega) hz ha0 ha1
    rw [if_pos (by omega), hu] at hst
    exact ⟨_, hst, (get_nb hr (by omega) h0 (by omega)).2⟩
  | succ f ih =>
    intro i was acc u b n R k hi h0 h1 hz ha0 ha1 hr hk
    obtain ⟨k, rfl⟩ : ∃ m, k = m + 3 := ⟨k - 3, by omega⟩
    simp only [encF] at hr
    have hd := div16 h0 h1
    by_cases hv : u / 16 > 0
    · rw [if_pos hv, List.append_assoc] at hr
      have hst := rnat_step k was acc i b n (u % 16 + 16) _ hr (by omega) (by omega) (by omega) (by omega) ha0 ha1
      rw [if_neg (by omega), show (u % 16 + 16) % 16 = u % 16 from by omega] at hst
      have hr2 := (get_nb hr (by omega) (by omega) (by omega)).2
      have hp := p16_pos i
      have hm : u % 16 * 16 ^ i ≤ 15 * 16 ^ i := Int.mul_le_mul_of_nonneg_right (by omega) (by omega)
      have hm0 : 0 ≤ u % 16 * 16 ^ i := Int.mul_nonneg (by omega) (by omega)
      obtain ⟨n', e, hr'⟩ := ih (i + 1) was (acc + u % 16 * 16 ^ i) (u / 16) b (n + 5) R k (by omega) hd.1 hd.2 (by omega) (by omega) (by rw [p16 i]; omega) hr2 (by omega)
      refine ⟨n', ?_, hr'⟩
      rw [hst, e]
      congr 2
      rw [p16 i, Int.add_assoc, Int.mul_left_comm, ← Int.mul_assoc 16, ← Int.add_mul]
      congr 2
      omega
    · rw [if_neg hv] at hr
      have hu : u % 16 = u := by omega
      rw [hu] at hr
      have hst := rnat_step k was acc i b n u R hr (by omega) h0 (by omega) hz ha0 ha1
      rw [if_pos (by omega), hu] at hst
      exact ⟨_, hst, (get_nb hr (by omega) h0 (by omega)).2⟩
theorem rnat_ok {b : ByteArray} {n : Int} {R : List Int} (v : Int) (h0 : 0 ≤ v) (h1 : v < 18446744073709551616) (h : Rdr b n (encNat v ++ R)) (k : Nat) (hk : 50 ≤ k) :
    ∃ n', bits_Reader_Nat.f k b n = some (v, 0, b, n') ∧ Rdr b n' R := by
  obtain ⟨n', e, hr⟩ := rnat_loop 15 0 n 0 v b n R k (by omega) h0 (by simpa using h1) (fun _ => rfl) (by omega) (by decide) h (by omega)
  refine ⟨n', ?_, hr⟩
  unfold bits_Reader_Nat.f
  rw [show ((0 : Nat) : Int) = 0 from rfl] at e
  rw [e]
  simp

/-! numbers with a sign -/
def zig (a : Int) : Int := if 0 ≤ a then 2 * a else -2 * a - 1
theorem xor_ones (x : Int) (h0 : 0 ≤ x) (h1 : x < 18446744073709551616) : Go.bits .xor .u64 x 18446744073709551615 = 18446744073709551615 - x := by
  obtain ⟨A, rfl⟩ := Int.eq_ofNat_of_zero_le h0
  have hA : A < 18446744073709551616 := by omega
  have := u64_xor_nat A 18446744073709551615 hA (by omega)
  rw [show ((18446744073709551615 : Nat) : Int) = 18446744073709551615 from rfl] at this
  rw [this]
  have hx : A ^^^ 18446744073709551615 = 18446744073709551615 - A := by
    apply Nat.eq_of_testBit_eq
    intro i
    rw [Nat.testBit_xor, show (18446744073709551615 : Nat) = 2 ^ 64 - 1 from rfl, Nat.testBit_two_pow_sub_one, show 2 ^ 64 - 1 - A = 2 ^ 64 - (A + 1) from by omega, Nat.testBit_two_pow_sub_succ (by omega)]
    by_cases hi : i < 64
    · simp [hi]
    · have : A.testBit i = false := Nat.testBit_lt_two_pow (Nat.lt_of_lt_of_le (show A < 2 ^ 64 from hA) (Nat.pow_le_pow_right (by omega) (by omega)))
      simp [hi, this]
  rw [hx]
  omega
theorem xor_zero (x : Int) (h0 : 0 ≤ x) (h1 : x < 18446744073709551616) : Go.bits .xor .u64 x 0 = x := by
  obtain ⟨A, rfl⟩ := Int.eq_ofNat_of_zero_le h0
  have := u64_xor_nat A 0 (by omega) (by omega)
  simpa using this
def I64 (a : Int) : Prop := -9223372036854775808 ≤ a ∧ a < 9223372036854775808
theorem zig_range {a : Int} (h : I64 a) : 0 ≤ zig a ∧ zig a < 18446744073709551616 := by
  unfold I64 at h; unfold zig; split <;> omega
theorem zig_write (a : Int) (h : I64 a) : Go.bits .xor .u64 (IntKind.u64.wrap ((IntKind.u64.wrap a) * 2)) (IntKind.u64.wrap (a / 9223372036854775808)) = zig a := by
  unfold I64 at h
  rw [IntKind.wrap_u64, IntKind.wrap_u64, IntKind.wrap_u64]
  unfold zig
  by_cases h0 : 0 ≤ a
  · rw [if_pos h0, show a / 9223372036854775808 % 18446744073709551616 = 0 from by omega, xor_zero _ (by omega) (by omega)]
    omega
  · rw [if_neg h0, show a / 9223372036854775808 % 18446744073709551616 = 18446744073709551615 from by omega, xor_ones _ (by omega) (by omega)]
    omega
theorem zig_read (a : Int) (h : I64 a) : wrap64 (Go.bits .xor .u64 (zig a / 2) (IntKind.u64.wrap (-(Go.bits .and .u64 (zig a) 1)))) = a := by
  have hr := zig_range h
  unfold I64 at h
  rw [and1_u64 _ hr.1 hr.2, IntKind.wrap_u64]
  unfold zig at *
  by_cases h0 : 0 ≤ a
  · rw [if_pos h0] at *
    rw [show -(2 * a % 2) % 18446744073709551616 = 0 from by omega, xor_zero _ (by omega) (by omega), wrap64_in _ (by omega) (by omega)]
    omega
  · rw [if_neg h0] at *
    rw [show -((-2 * a - 1) % 2) % 18446744073709551616 = 18446744073709551615 from by omega, xor_ones _ (by omega) (by omega)]
    unfold wrap64
    omega
def encInt (a : Int) : List Int := encNat (zig a)
theorem wint_ok {b : ByteArray} {n : Int} {S : List Int} (hw : Wr b n S) (a : Int) (h : I64 a) (hS : S.length + 80 ≤ 524288) (k : Nat) (hk : 20 ≤ k) :
    ∃ b' n', bits_Writer_Int.f k b n a = some (0, b', n') ∧ Wr b' n' (S ++ encInt a) := by
  have hr := zig_range h
  obtain ⟨b', n', e, hw'⟩ := wnat_ok hw (zig a) hr.1 hr.2 hS k hk
  refine ⟨b', n', ?_, hw'⟩
  unfold bits_Writer_Int.f
  rw [zig_write a h, e]
  rfl
theorem rint_ok {b : ByteArray} {n : Int} {R : List Int} (a : Int) (ha : I64 a) (h : Rdr b n (encInt a ++ R)) (k : Nat) (hk : 50 ≤ k) :
    ∃ n', bits_Reader_Int.f k b n = some (a, 0, b, n') ∧ Rdr b n' R := by
  have hr := zig_range ha
  obtain ⟨n', e, hr'⟩ := rnat_ok (zig a) hr.1 hr.2 h k hk
  refine ⟨n', ?_, hr'⟩
  unfold bits_Reader_Int.f
  rw [e]
  simp only [Option.bind_some]
  rw [if_pos trivial, zig_read a ha]
end Go.Proofs.Ytggfiacnkbcjbaa.Pure
