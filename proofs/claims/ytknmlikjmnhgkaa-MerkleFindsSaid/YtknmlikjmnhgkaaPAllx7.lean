/- Functions of this seat in plain Lean and their contracts, written by a turned copy of the kit's print (turns: wip/pr/make.py of this session). No condition. Short rows. -/
import Derived.Test.YtknmlikjmnhgkaaPAllx0
import Derived.Test.YtknmlikjmnhgkaaPAllx1
import Derived.Test.YtknmlikjmnhgkaaPAllx4
import Derived.Test.YtknmlikjmnhgkaaPAllx5
import Derived.Test.YtknmlikjmnhgkaaPAllx6
namespace Go.Proofs.Ytknmlikjmnhgkaa.P
open Go.RowKit Go.Proofs.YtknmlikjmnhgkaaW.PrintWords Go.Proofs.YtknmlikjmnhgkaaW.PrintLast Go.Proofs.YtknmlikjmnhgkaaW.PrintMore
attribute [local go_sem] max2_int min2_int max_two min_two max_three min_three max_four min_four   -- for this text's walks alone
set_option linter.unusedVariables false
set_option linter.unusedSimpArgs false

/-! ### tourkeep1_MerkleFinds: function 6 -/
def tourkeep1_MerkleFinds.f (k : Nat) (l0 : List Int) (a1 : Int) (a2 : Int) : Option (Bool) := (tourkeep1_merkleBegun.f k).bind fun t172 => (if t172 = true then ((tourkeep1_leaves.f k l0).bind fun t173 => ((slices_Clone_uint64_uint64.f t173).bind fun t176 => ((tourmake_Below.f a1 (t173.length : Int)).bind fun t179 => (if 0 ≤ t179 then (if t179 < (t176.length : Int) then ((tourmake_Below.f a2 1152921504606846976).bind fun t181 => ((some (t176.set (t179 : Int).toNat (IntKind.u64.wrap ((rd t176 t179) + (IntKind.u64.wrap (1 + (IntKind.u64.wrap (t181)))))) : List Int)).bind fun y182 => ((merkle_Narrow.f k t173 y182).bind fun bt183 => ((merkle_Root.f k t173).bind fun bt185 => ((merkle_Root.f k y182).bind fun bt187 => ((merkle_Narrow.f k t173 t173).bind fun bt189 => (if bt183.1 = t179 then (if bt183.2 ≥ 1 then (if bt183.2 ≤ 7 then (if bt185.2 = 0 then (if bt187.2 = 0 then (if bt185.1 = bt187.1 then (none) else (if bt189.1 = (-1) then (some (bt189.2 == 1)) else (none))) else (none)) else (none)) else (none)) else (none)) else (none)))))))) else (none)) else (none))))) else (none))
theorem tourkeep1_MerkleFinds.mono : ∀ a0 a1 a2 k, LeO (tourkeep1_MerkleFinds.f k a0 a1 a2) (tourkeep1_MerkleFinds.f (k + 1) a0 a1 a2) := by
 intro a0 a1 a2 k
 unfold tourkeep1_MerkleFinds.f
 repeat' first
   | (with_reducible exact merkle_Narrow.mono _ _ _)
   | (with_reducible exact merkle_Root.mono _ _)
   | (with_reducible exact tourkeep1_leaves.mono _ _)
   | (with_reducible exact tourkeep1_merkleBegun.mono _)
   | (with_reducible exact LeO.refl _)
   | (with_reducible exact LeO.none _)
   | (with_reducible refine LeO.ite ?_ ?_)
   | (with_reducible refine LeO.bind ?_ (fun _ => ?_))
   | exact merkle_Narrow.mono _ _ _
   | exact merkle_Root.mono _ _
   | exact tourkeep1_leaves.mono _ _
   | exact tourkeep1_merkleBegun.mono _
   | exact LeO.none _
   | refine LeO.ite ?_ ?_
   | refine LeO.bind ?_ (fun _ => ?_)
def tourkeep1_MerkleFinds.T6 : Bool × List (List Nat × List Nat) := (true, [([], []), ([], []), ([0, 1], [0, 1]), ([2], [2]), ([], []), ([4], [4]), ([5], [5]), ([6], [6]), ([3, 7], [3, 7]), ([0, 1, 0, 1, 2, 3, 4, 5, 6, 7, 8], [0, 1]), ([9, 8, 5, 0, 1, 2, 3, 4, 5, 6, 7, 8], [8, 9])])
def tourkeep1_MerkleFinds.B6 : List Nat := [0, 0, 3, 7, 0, 16, 48, 112, 255, 511, 1023]
theorem tourkeep1_MerkleFinds.tab6 : rtab .any (opsOf Try.f6 6) = tourkeep1_MerkleFinds.T6 := by kernel_rfl
theorem tourkeep1_MerkleFinds.bits6 : waitsOk tourkeep1_MerkleFinds.T6.2 tourkeep1_MerkleFinds.B6 = true := by kernel_rfl
set_option maxHeartbeats 8000000 in
set_option maxRecDepth 100000 in
theorem tourkeep1_MerkleFinds.calls (k : Nat) (A0 : Option Addr) (c0 : Nat) (l0 : List Int) (a1 : Int) (a2 : Int) (r : Bool) (w : World) (hr0 : Kd.C (Kd.int .i64) w A0 l0.length l0) (hc0 : l0.length ≤ c0) (h : tourkeep1_MerkleFinds.f k l0 a1 a2 = some r) :
  Calls Try.prog 6 #[.slice A0 l0.length c0, .int .i64 a1, .int .i64 a2] w fun e w' => e = .returned (.bool r) ∧ Below w.heap.size w w' := by
 have HR0 := Aside0.mk hr0
 have HC0 := Aside0.mk hc0
 clear hr0 hc0
 have HB := Aside0.mk (Below.refl w.heap.size w)
 have H : ((tourkeep1_merkleBegun.f k).bind fun t172 => (if t172 = true then ((tourkeep1_leaves.f k l0).bind fun t173 => ((slices_Clone_uint64_uint64.f t173).bind fun t176 => ((tourmake_Below.f a1 (t173.length : Int)).bind fun t179 => (if 0 ≤ t179 then (if t179 < (t176.length : Int) then ((tourmake_Below.f a2 1152921504606846976).bind fun t181 => ((some (t176.set (t179 : Int).toNat (IntKind.u64.wrap ((rd t176 t179) + (IntKind.u64.wrap (1 + (IntKind.u64.wrap (t181)))))) : List Int)).bind fun y182 => ((merkle_Narrow.f k t173 y182).bind fun bt183 => ((merkle_Root.f k t173).bind fun bt185 => ((merkle_Root.f k y182).bind fun bt187 => ((merkle_Narrow.f k t173 t173).bind fun bt189 => (if bt183.1 = t179 then (if bt183.2 ≥ 1 then (if bt183.2 ≤ 7 then (if bt185.2 = 0 then (if bt187.2 = 0 then (if bt185.1 = bt187.1 then (none) else (if bt189.1 = (-1) then (some (bt189.2 == 1)) else (none))) else (none)) else (none)) else (none)) else (none)) else (none)))))))) else (none)) else (none))))) else (none))) = some r := h
 clear h
 replace H := Option.bind_eq_some_iff.mp H
 obtain ⟨t172, A40, H⟩ := H
 replace H : (if t172 = true then ((tourkeep1_leaves.f k l0).bind fun t173 => ((slices_Clone_uint64_uint64.f t173).bind fun t176 => ((tourmake_Below.f a1 (t173.length : Int)).bind fun t179 => (if 0 ≤ t179 then (if t179 < (t176.length : Int) then ((tourmake_Below.f a2 1152921504606846976).bind fun t181 => ((some (t176.set (t179 : Int).toNat (IntKind.u64.wrap ((rd t176 t179) + (IntKind.u64.wrap (1 + (IntKind.u64.wrap (t181)))))) : List Int)).bind fun y182 => ((merkle_Narrow.f k t173 y182).bind fun bt183 => ((merkle_Root.f k t173).bind fun bt185 => ((merkle_Root.f k y182).bind fun bt187 => ((merkle_Narrow.f k t173 t173).bind fun bt189 => (if bt183.1 = t179 then (if bt183.2 ≥ 1 then (if bt183.2 ≤ 7 then (if bt185.2 = 0 then (if bt187.2 = 0 then (if bt185.1 = bt187.1 then (none) else (if bt189.1 = (-1) then (some (bt189.2 == 1)) else (none))) else (none)) else (none)) else (none)) else (none)) else (none)))))))) else (none)) else (none))))) else (none)) = some r := H
 have A4 := Aside0.mk A40
 clear A40
 by_cases c5 : t172 = true
 ·
  subst c5
  have H1 : ((tourkeep1_leaves.f k l0).bind fun t173 => ((slices_Clone_uint64_uint64.f t173).bind fun t176 => ((tourmake_Below.f a1 (t173.length : Int)).bind fun t179 => (if 0 ≤ t179 then (if t179 < (t176.length : Int) then ((tourmake_Below.f a2 1152921504606846976).bind fun t181 => ((some (t176.set (t179 : Int).toNat (IntKind.u64.wrap ((rd t176 t179) + (IntKind.u64.wrap (1 + (IntKind.u64.wrap (t181)))))) : List Int)).bind fun y182 => ((merkle_Narrow.f k t173 y182).bind fun bt183 => ((merkle_Root.f k t173).bind fun bt185 => ((merkle_Root.f k y182).bind fun bt187 => ((merkle_Narrow.f k t173 t173).bind fun bt189 => (if bt183.1 = t179 then (if bt183.2 ≥ 1 then (if bt183.2 ≤ 7 then (if bt185.2 = 0 then (if bt187.2 = 0 then (if bt185.1 = bt187.1 then (none) else (if bt189.1 = (-1) then (some (bt189.2 == 1)) else (none))) else (none)) else (none)) else (none)) else (none)) else (none)))))))) else (none)) else (none))))) = some r := by rw [if_pos rfl] at H; exact H
  clear H
  have H := H1
  clear H1
  replace H := Option.bind_eq_some_iff.mp H
  obtain ⟨t173, A60, H⟩ := H
  replace H : ((slices_Clone_uint64_uint64.f t173).bind fun t176 => ((tourmake_Below.f a1 (t173.length : Int)).bind fun t179 => (if 0 ≤ t179 then (if t179 < (t176.length : Int) then ((tourmake_Below.f a2 1152921504606846976).bind fun t181 => ((some (t176.set (t179 : Int).toNat (IntKind.u64.wrap ((rd t176 t179) + (IntKind.u64.wrap (1 + (IntKind.u64.wrap (t181)))))) : List Int)).bind fun y182 => ((merkle_Narrow.f k t173 y182).bind fun bt183 => ((merkle_Root.f k t173).bind fun bt185 => ((merkle_Root.f k y182).bind fun bt187 => ((merkle_Narrow.f k t173 t173).bind fun bt189 => (if bt183.1 = t179 then (if bt183.2 ≥ 1 then (if bt183.2 ≤ 7 then (if bt185.2 = 0 then (if bt187.2 = 0 then (if bt185.1 = bt187.1 then (none) else (if bt189.1 = (-1) then (some (bt189.2 == 1)) else (none))) else (none)) else (none)) else (none)) else (none)) else (none)))))))) else (none)) else (none)))) = some r := H
  have A6 := Aside0.mk A60
  clear A60
  replace H := Option.bind_eq_some_iff.mp H
  obtain ⟨t176, A70, H⟩ := H
  replace H : ((tourmake_Below.f a1 (t173.length : Int)).bind fun t179 => (if 0 ≤ t179 then (if t179 < (t176.length : Int) then ((tourmake_Below.f a2 1152921504606846976).bind fun t181 => ((some (t176.set (t179 : Int).toNat (IntKind.u64.wrap ((rd t176 t179) + (IntKind.u64.wrap (1 + (IntKind.u64.wrap (t181)))))) : List Int)).bind fun y182 => ((merkle_Narrow.f k t173 y182).bind fun bt183 => ((merkle_Root.f k t173).bind fun bt185 => ((merkle_Root.f k y182).bind fun bt187 => ((merkle_Narrow.f k t173 t173).bind fun bt189 => (if bt183.1 = t179 then (if bt183.2 ≥ 1 then (if bt183.2 ≤ 7 then (if bt185.2 = 0 then (if bt187.2 = 0 then (if bt185.1 = bt187.1 then (none) else (if bt189.1 = (-1) then (some (bt189.2 == 1)) else (none))) else (none)) else (none)) else (none)) else (none)) else (none)))))))) else (none)) else (none))) = some r := H
  have A7 := Aside0.mk A70
  clear A70
  replace H := Option.bind_eq_some_iff.mp H
  obtain ⟨t179, A80, H⟩ := H
  replace H : (if 0 ≤ t179 then (if t179 < (t176.length : Int) then ((tourmake_Below.f a2 1152921504606846976).bind fun t181 => ((some (t176.set (t179 : Int).toNat (IntKind.u64.wrap ((rd t176 t179) + (IntKind.u64.wrap (1 + (IntKind.u64.wrap (t181)))))) : List Int)).bind fun y182 => ((merkle_Narrow.f k t173 y182).bind fun bt183 => ((merkle_Root.f k t173).bind fun bt185 => ((merkle_Root.f k y182).bind fun bt187 => ((merkle_Narrow.f k t173 t173).bind fun bt189 => (if bt183.1 = t179 then (if bt183.2 ≥ 1 then (if bt183.2 ≤ 7 then (if bt185.2 = 0 then (if bt187.2 = 0 then (if bt185.1 = bt187.1 then (none) else (if bt189.1 = (-1) then (some (bt189.2 == 1)) else (none))) else (none)) else (none)) else (none)) else (none)) else (none)))))))) else (none)) else (none)) = some r := H
  have A8 := Aside0.mk A80
  clear A80
  by_cases c9 : 0 ≤ t179
  ·
   rw [if_pos c9] at H
   have c9b0 : decide (0 ≤ t179) = true := decide_eq_true c9
   clear c9
   by_cases c10 : t179 < (t176.length : Int)
   ·
    rw [if_pos c10] at H
    have c10b0 : decide (t179 < (t176.length : Int)) = true := decide_eq_true c10
    clear c10
    replace H := Option.bind_eq_some_iff.mp H
    obtain ⟨t181, A110, H⟩ := H
    replace H : ((some (t176.set (t179 : Int).toNat (IntKind.u64.wrap ((rd t176 t179) + (IntKind.u64.wrap (1 + (IntKind.u64.wrap (t181)))))) : List Int)).bind fun y182 => ((merkle_Narrow.f k t173 y182).bind fun bt183 => ((merkle_Root.f k t173).bind fun bt185 => ((merkle_Root.f k y182).bind fun bt187 => ((merkle_Narrow.f k t173 t173).bind fun bt189 => (if bt183.1 = t179 then (if bt183.2 ≥ 1 then (if bt183.2 ≤ 7 then (if bt185.2 = 0 then (if bt187.2 = 0 then (if bt185.1 = bt187.1 then (none) else (if bt189.1 = (-1) then (some (bt189.2 == 1)) else (none))) else (none)) else (none)) else (none)) else (none)) else (none))))))) = some r := H
    have A11 := Aside0.mk A110
    clear A110
    obtain ⟨y182, hy182⟩ : ∃ y_ : List Int, y_ = (t176.set (t179 : Int).toNat (IntKind.u64.wrap ((rd t176 t179) + (IntKind.u64.wrap (1 + (IntKind.u64.wrap (t181))))))) := ⟨_, rfl⟩
    replace H : ((merkle_Narrow.f k t173 y182).bind fun bt183 => ((merkle_Root.f k t173).bind fun bt185 => ((merkle_Root.f k y182).bind fun bt187 => ((merkle_Narrow.f k t173 t173).bind fun bt189 => (if bt183.1 = t179 then (if bt183.2 ≥ 1 then (if bt183.2 ≤ 7 then (if bt185.2 = 0 then (if bt187.2 = 0 then (if bt185.1 = bt187.1 then (none) else (if bt189.1 = (-1) then (some (bt189.2 == 1)) else (none))) else (none)) else (none)) else (none)) else (none)) else (none)))))) = some r := by first | (rw [hy182]; with_reducible exact H) | (have H2_ := (Option.bind_some _ _).symm.trans H; rw [hy182]; with_reducible exact H2_) | (have H2_ := (Option.bind_some _ _).symm.trans H; with_reducible exact H2_) | with_reducible exact H | (rw [hy182]; exact H) | exact H
    have Ny182 := Aside0.mk hy182
    clear hy182
    replace H := Option.bind_eq_some_iff.mp H
    obtain ⟨⟨t183, t184⟩, A130, H⟩ := H
    replace H : ((merkle_Root.f k t173).bind fun bt185 => ((merkle_Root.f k y182).bind fun bt187 => ((merkle_Narrow.f k t173 t173).bind fun bt189 => (if t183 = t179 then (if t184 ≥ 1 then (if t184 ≤ 7 then (if bt185.2 = 0 then (if bt187.2 = 0 then (if bt185.1 = bt187.1 then (none) else (if bt189.1 = (-1) then (some (bt189.2 == 1)) else (none))) else (none)) else (none)) else (none)) else (none)) else (none))))) = some r := H
    have A13 := Aside0.mk A130
    clear A130
    replace H := Option.bind_eq_some_iff.mp H
    obtain ⟨⟨t185, t186⟩, A140, H⟩ := H
    replace H : ((merkle_Root.f k y182).bind fun bt187 => ((merkle_Narrow.f k t173 t173).bind fun bt189 => (if t183 = t179 then (if t184 ≥ 1 then (if t184 ≤ 7 then (if t186 = 0 then (if bt187.2 = 0 then (if t185 = bt187.1 then (none) else (if bt189.1 = (-1) then (some (bt189.2 == 1)) else (none))) else (none)) else (none)) else (none)) else (none)) else (none)))) = some r := H
    have A14 := Aside0.mk A140
    clear A140
    replace H := Option.bind_eq_some_iff.mp H
    obtain ⟨⟨t187, t188⟩, A150, H⟩ := H
    replace H : ((merkle_Narrow.f k t173 t173).bind fun bt189 => (if t183 = t179 then (if t184 ≥ 1 then (if t184 ≤ 7 then (if t186 = 0 then (if t188 = 0 then (if t185 = t187 then (none) else (if bt189.1 = (-1) then (some (bt189.2 == 1)) else (none))) else (none)) else (none)) else (none)) else (none)) else (none))) = some r := H
    have A15 := Aside0.mk A150
    clear A150
    replace H := Option.bind_eq_some_iff.mp H
    obtain ⟨⟨t189, t190⟩, A160, H⟩ := H
    replace H : (if t183 = t179 then (if t184 ≥ 1 then (if t184 ≤ 7 then (if t186 = 0 then (if t188 = 0 then (if t185 = t187 then (none) else (if t189 = (-1) then (some (t190 == 1)) else (none))) else (none)) else (none)) else (none)) else (none)) else (none)) = some r := H
    have A16 := Aside0.mk A160
    clear A160
    by_cases c17 : t183 = t179
    ·
     rw [if_pos c17] at H
     have c17b0 : (t183 == t179) = true := beq_iff_eq.mpr c17
     have c17b1 : (t183 != t179) = false := bne_eq_false_iff_eq.mpr c17
     clear c17
     by_cases c18 : t184 ≥ 1
     ·
      rw [if_pos c18] at H
      have c18b0 : decide (1 ≤ t184) = true := decide_eq_true c18
      clear c18
      by_cases c19 : t184 ≤ 7
      ·
       rw [if_pos c19] at H
       have c19b0 : decide (t184 ≤ 7) = true := decide_eq_true c19
       clear c19
       by_cases c20 : t186 = 0
       ·
        rw [if_pos c20] at H
        have c20b0 : (t186 == 0) = true := beq_iff_eq.mpr c20
        have c20b1 : (t186 != 0) = false := bne_eq_false_iff_eq.mpr c20
        clear c20
        by_cases c21 : t188 = 0
        ·
         rw [if_pos c21] at H
         have c21b0 : (t188 == 0) = true := beq_iff_eq.mpr c21
         have c21b1 : (t188 != 0) = false := bne_eq_false_iff_eq.mpr c21
         clear c21
         by_cases c22 : t185 = t187
         ·
          rw [if_pos c22] at H
          exact absurd H (by simp)
         ·
          rw [if_neg c22] at H
          have c22b0 : (t185 == t187) = false := beq_eq_false_iff_ne.mpr c22
          have c22b1 : (t185 != t187) = true := bne_iff_ne.mpr c22
          by_cases c23 : t189 = (-1)
          ·
           rw [if_pos c23] at H
           have c23b0 : (t189 == (-1)) = true := beq_iff_eq.mpr c23
           have c23b1 : (t189 != (-1)) = false := bne_eq_false_iff_eq.mpr c23
           clear c23
           obtain rfl := Option.some.inj H
           go_enter Try.func6, Try.ntmps6
           try go_wp2_with (first | ((with_reducible refine gate_callee (f := 29) rfl ?_); refine goesL_ (some 17) rfl rfl Try.func29 (by kernel_rfl) rfl #[] rfl (by (try simp only [List.map_toArray, List.map_cons, List.map_nil]); first | done | rfl | (simp only [List.length_drop, List.length_take]; rfl)) ?_; (with_reducible refine (tourkeep1_merkleBegun.calls k  true _ A4.out).mono ?_); rintro e w24 ⟨rfl, hb⟩; refine ⟨_, rfl, ?_⟩; have n0_ := Aside0.mk (below_step (by repeat (first | (with_reducible first | exact HB.out | apply below_alloc | apply pw_below_drewN | apply below_drew1) | exact HB.out)) hb); clear HB; have HB := n0_; clear n0_; (try clear hb); (try clear hb2); (try clear hk); (try clear hi)) | ((with_reducible refine gate_callee (f := 30) rfl ?_); refine goesL_ (some 20) rfl rfl Try.func30 (by kernel_rfl) rfl #[.slice A0 l0.length c0] rfl (by (try simp only [List.map_toArray, List.map_cons, List.map_nil]); first | done | rfl | (simp only [List.length_drop, List.length_take]; rfl)) ?_; (with_reducible refine (tourkeep1_leaves.calls k _ _ l0 t173 _ ?side1 ?side2 A6.out).mono ?_); (case side1 => repeat (first | exact (Kd.C_below HR0.out HB.out) | (with_reducible refine Kd.C_alloc ?_ _) | (with_reducible refine Kd.C_drewN ?_ _) | (with_reducible refine Kd.C_drew ?_))); (case side2 => exact HC0.out); rintro e w25 ⟨v174, rfl, ho0, hb⟩; refine ⟨_, rfl, ?_⟩; have n0_ := Aside0.mk (Kd.R_lower ho0 (below_size (by repeat (first | (with_reducible first | exact HB.out | apply below_alloc | apply pw_below_drewN | apply below_drew1) | exact HB.out)))); have n1_ := Aside0.mk (below_step (by repeat (first | (with_reducible first | exact HB.out | apply below_alloc | apply pw_below_drewN | apply below_drew1) | exact HB.out)) hb); clear HB; have HO175 := n0_; have HB := n1_; clear n0_ n1_; (try clear hb); (try clear hb2); (try clear hk); (try clear hi); (try clear ho0); obtain ⟨Ao26, co26, eo26⟩ := Kd.R_slice HO175.out; subst eo26) | ((with_reducible refine gate_callee (f := 31) rfl ?_); refine goesL_ (some 22) rfl rfl Try.func31 (by kernel_rfl) rfl #[.slice Ao26 t173.length co26] rfl (by (try simp only [List.map_toArray, List.map_cons, List.map_nil]); first | done | rfl | (simp only [List.length_drop, List.length_take]; rfl)) ?_; (with_reducible refine (slices_Clone_uint64_uint64.calls _ _ t173 t176 _ ?side1 ?side2 A7.out).mono ?_); (case side1 => repeat (first | exact (Kd.R_reads' HO175.out).2.2 | (with_reducible refine Kd.C_alloc ?_ _) | (with_reducible refine Kd.C_drewN ?_ _) | (with_reducible refine Kd.C_drew ?_))); (case side2 => exact (Kd.R_reads' HO175.out).2.1); rintro e w27 ⟨v177, rfl, ho0, hb⟩; refine ⟨_, rfl, ?_⟩; have n0_ := Aside0.mk (Kd.R_elder' (by (with_reducible repeat (first | apply Kd.R_alloc | apply Kd.R_drewN | apply Kd.R_drew)); exact HO175.out) (Kd.R_base ho0) hb); have n1_ := Aside0.mk (Kd.R_lower (Kd.R_new' ho0 (Kd.R_lt (by (with_reducible repeat (first | apply Kd.R_alloc | apply Kd.R_drewN | apply Kd.R_drew)); exact HO175.out))) (below_size (by repeat (first | (with_reducible first | exact HB.out | apply below_alloc | apply pw_below_drewN | apply below_drew1) | exact HB.out)))); have n2_ := Aside0.mk (below_step (by repeat (first | (with_reducible first | exact HB.out | apply below_alloc | apply pw_below_drewN | apply below_drew1) | exact HB.out)) hb); clear HO175; clear HB; have HO175 := n0_; have HO178 := n1_; have HB := n2_; clear n0_ n1_ n2_; (try clear hb); (try clear hb2); (try clear hk); (try clear hi); (try clear ho0)) | ((with_reducible refine gate_callee (f := 12) rfl ?_); refine goesL_ (some 26) rfl rfl Try.func12 (by kernel_rfl) rfl #[.int .i64 a1, .int .i64 (t173.length : Int)] rfl (by (try simp only [List.map_toArray, List.map_cons, List.map_nil]); first | done | rfl | (simp only [List.length_drop, List.length_take]; rfl)) ?_; (with_reducible refine (tourmake_Below.calls a1 (t173.length : Int) t179 _ A8.out).mono ?_); rintro e w' ⟨rfl, ⟨nd, rfl⟩⟩; refine ⟨_, rfl, ?_⟩; (try (rw [drewN_self w27]; generalize hq_ : World.drewN w27 _ = w27; have n0_ := Aside0.mk (Kd.R_at hq_ HO175.out); have n1_ := Aside0.mk (Kd.R_at hq_ HO178.out); have n2_ := Aside0.mk (below_at hq_ HB.out); clear hq_ HO175 HO178 HB; have HO175 := n0_; have HO178 := n1_; have HB := n2_; clear n0_ n1_ n2_))))
           have n0_ := Aside0.mk (Kd.R_drew HO175.out)
           have n1_ := Aside0.mk (Kd.R_drew HO178.out)
           have n2_ := Aside0.mk (below_drew1 HB.out)
           clear HO175
           clear HO178
           clear HB
           have HO175 := n0_
           have HO178 := n1_
           have HB := n2_
           clear n0_ n1_ n2_
           obtain ⟨Ao29, co29, eo29⟩ := Kd.R_slice HO178.out
           (first | subst eo29 | (injection eo29 with f1_ f2_ f3_; have f4_ := f1_.symm; have f5_ := f3_.symm; clear f1_ f2_ f3_; subst f4_; subst f5_))
           have p180 : 0 ≤ (t179 : Int) := of_decide_eq_true (by first | (with_reducible assumption) | assumption)
           have q180 : t179 < (t176.length : Int) := of_decide_eq_true (by first | (with_reducible assumption) | assumption)
           obtain ⟨ad180, e180, hx180_0⟩ := Kd.at_int (Kd.R_reads' HO178.out).2.2 t179 p180 q180
           cases e180
           replace p180 := eq_true p180
           replace q180 := eq_true q180
           refine start_ (n := 11) (S := fun w' => w'.cell? (ad180.add (t179).toNat) = some (.int .u64 (rd t176 t179))) (ds := [10]) #[nq,nq,nq,nq,nq,nq,nq,nq,nq,nq,nq] (by kernel_rfl) rfl rfl (hx180_0) (fun hHeld => ?_); refine with_tabW tourkeep1_MerkleFinds.tab6 tourkeep1_MerkleFinds.bits6 (fun HT_ HW_ => ?_)
           generalize w27.drew = w28 at HO175 HO178 HB hx180_0 hHeld ⊢
           refine pure_ (i := 0) (N := some 27) (v := ?_) (a' := ?_) #[yq,nq,nq,nq,nq,nq,nq,nq,nq,nq,nq] rfl rfl (any_of HT_.out (by kernel_rfl)) (fun _ _ _ h => h) (Or.inl ⟨by rfl, ?_⟩) ?_ ?_
           rotate_left
           ·
            intro w'
            go_simp
            with_reducible rfl
           rotate_left
           ·
            simp only [Act.put, List.setIfInBounds_toArray, List.set_cons_zero, List.set_cons_succ, i64_w, i32_w]
            rfl
           refine pure_ (i := 1) (N := some 28) (v := ?_) (a' := ?_) #[yq,yq,nq,nq,nq,nq,nq,nq,nq,nq,nq] rfl rfl (any_of HT_.out (by kernel_rfl)) (fun _ _ _ h => h) (Or.inl ⟨by rfl, ?_⟩) ?_ ?_
           rotate_left
           ·
            intro w'
            go_simp
            with_reducible rfl
           rotate_left
           ·
            simp only [Act.put, List.setIfInBounds_toArray, List.set_cons_zero, List.set_cons_succ, i64_w, i32_w]
            rfl
           refine pure_ (i := 2) (N := some 29) (v := ?_) (a' := ?_) #[yq,yq,yq,nq,nq,nq,nq,nq,nq,nq,nq] rfl rfl (any_of HT_.out (by kernel_rfl)) (fun _ _ _ h => h) (Or.inl ⟨by rfl, ?_⟩) ?_ ?_
           rotate_left
           ·
            intro w'
            go_simp
            with_reducible rfl
           rotate_left
           ·
            simp only [Act.put, List.setIfInBounds_toArray, List.set_cons_zero, List.set_cons_succ, i64_w, i32_w]
            rfl
           refine pure_ (i := 4) (N := some 31) (v := ?_) (a' := ?_) #[yq,yq,yq,nq,yq,nq,nq,nq,nq,nq,nq] rfl rfl (any_of HT_.out (by kernel_rfl)) (fun _ _ _ h => h) (Or.inl ⟨by rfl, ?_⟩) ?_ ?_
           rotate_left
           ·
            intro w'
            go_simp
            with_reducible rfl
           rotate_left
           ·
            simp only [Act.put, List.setIfInBounds_toArray, List.set_cons_zero, List.set_cons_succ, i64_w, i32_w]
            rfl
           refine take_ (i := 3) (N := some 30) (v := ?_) (a' := ?_) #[yq,yq,yq,yq,yq,nq,nq,nq,nq,nq,nq] rfl rfl (take_ofW HT_.out HW_.out (by kernel_rfl)) (fun _ _ _ h => h) (Or.inl ⟨by rfl, ?_⟩) hHeld ?_ ?_
           rotate_left
           ·
            intro w' s0
            go_simp
            with_reducible rfl
           rotate_left
           ·
            simp only [Act.put, List.setIfInBounds_toArray, List.set_cons_zero, List.set_cons_succ, i64_w, i32_w]
            rfl
           refine one_ (i := 5) (N := some 32) #[yq,yq,yq,yq,yq,yq,nq,nq,nq,nq,nq] rfl rfl (one_of HT_.out (by kernel_rfl)) (by decide) (fun K hK => ?_)
           refine goes_ Try.func12 (by kernel_rfl) rfl #[.int .i64 a2, .int .i64 1152921504606846976] (by rfl) rfl rfl (by (try simp only [List.map_toArray, List.map_cons, List.map_nil]); first | done | rfl | (simp only [List.length_drop, List.length_take]; rfl)) ?_
           with_reducible refine (tourmake_Below.calls a2 1152921504606846976 t181 _ A11.out).mono ?_
           rintro e w' ⟨rfl, ⟨nd, rfl⟩⟩
           refine ⟨_, rfl, ?_⟩
           have p12 : 0 ≤ (t179 : Int) := of_decide_eq_true (by first | (with_reducible assumption) | assumption)
           have q12 : (t179 : Int) < ((t176.length : Int) : Int) := of_decide_eq_true (by first | (with_reducible assumption) | assumption)
           obtain ⟨go12, co12, eo12, gb12, gl12, cl12, HG12⟩ := Kd.R_form HO178.out (by omega)
           (first | cases eo12 | (injection eo12 with ea_ en_ ec_; (first | subst ea_ | (injection ea_ with ea_; subst ea_)); subst ec_; clear en_))
           have GB12 := Aside0.mk gb12
           have GG12 := Aside0.mk HG12
           clear gb12 gl12 HG12
           (first | simp only [add_plain] at hx180_0 | skip)
           obtain ⟨hx12_0, hf12_0⟩ := Kd.R_celln 0 HO178.out (t179 : Int) p12 q12
           replace p12 := eq_true p12
           replace q12 := eq_true q12
           have HP30 := Kd.R_putn HO178.out (t179 : Int) (IntKind.u64.wrap ((rd t176 t179) + (IntKind.u64.wrap (1 + (IntKind.u64.wrap (t181))))))
           rw [← Ny182.out] at HP30
           have HQ30 := Aside0.mk HP30
           clear HP30
           refine hK.out _ _ (hHeld) (fun hHeld => ?_)
           clear hK K
           refine norm_ (a' := ?_) ?_ ?_
           rotate_left
           ·
            show Act.put _ (some 32) _ = _
            simp only [Act.put, List.setIfInBounds_toArray, List.set_cons_zero, List.set_cons_succ, i64_w, i32_w]
            rfl
           refine pure_ (i := 6) (N := some 33) (v := ?_) (a' := ?_) #[yq,yq,yq,yq,yq,yq,yq,nq,nq,nq,nq] rfl rfl (any_of HT_.out (by kernel_rfl)) (fun _ _ _ h => h) (Or.inl ⟨by rfl, ?_⟩) ?_ ?_
           rotate_left
           ·
            intro w'
            go_simp
            with_reducible rfl
           rotate_left
           ·
            simp only [Act.put, List.setIfInBounds_toArray, List.set_cons_zero, List.set_cons_succ, i64_w, i32_w]
            rfl
           refine pure_ (i := 7) (N := some 34) (v := ?_) (a' := ?_) #[yq,yq,yq,yq,yq,yq,yq,yq,nq,nq,nq] rfl rfl (any_of HT_.out (by kernel_rfl)) (fun _ _ _ h => h) (Or.inl ⟨by rfl, ?_⟩) ?_ ?_
           rotate_left
           ·
            intro w'
            go_simp
            with_reducible rfl
           rotate_left
           ·
            simp only [Act.put, List.setIfInBounds_toArray, List.set_cons_zero, List.set_cons_succ, i64_w, i32_w]
            rfl
           refine pure_ (i := 8) (N := some 35) (v := ?_) (a' := ?_) #[yq,yq,yq,yq,yq,yq,yq,yq,yq,nq,nq] rfl rfl (any_of HT_.out (by kernel_rfl)) (fun _ _ _ h => h) (Or.inl ⟨by rfl, ?_⟩) ?_ ?_
           rotate_left
           ·
            intro w'
            go_simp
            with_reducible rfl
           rotate_left
           ·
            simp only [Act.put, List.setIfInBounds_toArray, List.set_cons_zero, List.set_cons_succ, i64_w, i32_w]
            rfl
           refine pure_ (i := 9) (N := some 36) (v := ?_) (a' := ?_) #[yq,yq,yq,yq,yq,yq,yq,yq,yq,yq,nq] rfl rfl (any_of HT_.out (by kernel_rfl)) (fun _ _ _ h => h) (Or.inl ⟨by rfl, ?_⟩) ?_ ?_
           rotate_left
           ·
            intro w'
            go_simp
            with_reducible rfl
           rotate_left
           ·
            simp only [Act.put, List.setIfInBounds_toArray, List.set_cons_zero, List.set_cons_succ, i64_w, i32_w]
            rfl
           refine last_ (i := 10) (N := none) #[yq,yq,yq,yq,yq,yq,yq,yq,yq,yq,yq] rfl rfl (one_of HT_.out (by kernel_rfl)) (by decide) (fun K hK => ?_)
           refine skip_ (w1 := ?_) (by rfl) rfl ?_ ?_
           rotate_left
           ·
            go_simp
            rfl
           refine hK.out _ _ ?_
           clear hK K
           refine done_ (done_of HT_.out (by kernel_rfl)) ?_
           try go_wp2_with (first | ((with_reducible refine gate_callee (f := 32) rfl ?_); refine goesL_ (some 40) rfl rfl Try.func32 (by kernel_rfl) rfl #[.slice Ao26 t173.length co26, .slice (some ⟨go12, 0, none⟩) y182.length co29] rfl (by (try simp only [List.map_toArray, List.map_cons, List.map_nil]); first | done | (rw [show y182.length = t176.length from (Kd.R_reads' HQ30.out).1.symm] <;> rfl) | rfl | (simp only [List.length_drop, List.length_take]; rfl)) ?_; (with_reducible refine (merkle_Narrow.calls k _ _ t173 _ _ y182 t183 t184 _ ?side1 ?side2 ?side3 ?side4 A13.out).mono ?_); (case side1 => refine (Kd.R_reads' (e := 37) (base := w.heap.size) (ok := fun k_ => (True ∧ some k_ ≠ (.slice (some ⟨go12, 0, none⟩) t176.length co29 : Value).ownBlock)) (n := t173.length) (c := co26) ?_).2.2; exact (by (with_reducible repeat (first | apply Kd.R_alloc | apply Kd.R_drewN | apply Kd.R_drew)); exact (Kd.R_mono (Kd.R_far (p := ⟨go12, (t179 : Int).toNat, none⟩) (Kd.R_mono HO175.out (fun k_ hk => (⟨hk, fun e_ => hk.2 (by rw [e_]; rfl)⟩ : _ ∧ k_ ≠ go12))) (fun _ hk => hk.2) (.int .u64 (IntKind.u64.wrap ((rd t176 t179) + (IntKind.u64.wrap (1 + (IntKind.u64.wrap (t181)))))))) (fun _ h_ => h_.1)))); (case side2 => exact (Kd.R_reads' HO175.out).2.1); (case side3 => refine (Kd.R_reads' (e := 37) (base := w.heap.size) (ok := fun k_ => (True ∧ some k_ ≠ (.slice Ao26 t173.length co26 : Value).ownBlock)) (n := t176.length) (c := co29) ?_).2.2; exact (by (with_reducible repeat (first | apply Kd.R_alloc | apply Kd.R_drewN | apply Kd.R_drew)); exact HQ30.out)); (case side4 => rw [show y182.length = t176.length from (Kd.R_reads' HQ30.out).1.symm]; exact (Kd.R_reads' HO178.out).2.1); rintro e w31 ⟨rfl, hb⟩; refine ⟨_, rfl, ?_⟩; have n0_ := Aside0.mk (Kd.R_below (by (with_reducible repeat (first | apply Kd.R_alloc | apply Kd.R_drewN | apply Kd.R_drew)); exact (Kd.R_mono (Kd.R_far (p := ⟨go12, (t179 : Int).toNat, none⟩) (Kd.R_mono HO175.out (fun k_ hk => (⟨hk, fun e_ => hk.2 (by rw [e_]; rfl)⟩ : _ ∧ k_ ≠ go12))) (fun _ hk => hk.2) (.int .u64 (IntKind.u64.wrap ((rd t176 t179) + (IntKind.u64.wrap (1 + (IntKind.u64.wrap (t181)))))))) (fun _ h_ => h_.1))) hb); have n1_ := Aside0.mk (Kd.R_below (by (with_reducible repeat (first | apply Kd.R_alloc | apply Kd.R_drewN | apply Kd.R_drew)); exact HQ30.out) hb); have n2_ := Aside0.mk (below_step (by repeat (first | (with_reducible first | exact HB.out | apply below_alloc | apply pw_below_drewN | apply below_drew1 | refine below_set ?_ GB12.out) | exact HB.out)) hb); clear HO175; clear HO178; clear HB; have HO175 := n0_; have HO178 := n1_; have HB := n2_; clear n0_ n1_ n2_; (try clear hb); (try clear hb2); (try clear hk); (try clear hi)) | ((with_reducible refine gate_callee (f := 33) rfl ?_); refine goesL_ (some 45) rfl rfl Try.func33 (by kernel_rfl) rfl #[.slice Ao26 t173.length co26] rfl (by (try simp only [List.map_toArray, List.map_cons, List.map_nil]); first | done | rfl | (simp only [List.length_drop, List.length_take]; rfl)) ?_; (with_reducible refine (merkle_Root.calls k _ _ t173 t185 t186 _ ?side1 ?side2 A14.out).mono ?_); (case side1 => repeat (first | exact (Kd.R_reads' HO175.out).2.2 | (with_reducible refine Kd.C_alloc ?_ _) | (with_reducible refine Kd.C_drewN ?_ _) | (with_reducible refine Kd.C_drew ?_))); (case side2 => exact (Kd.R_reads' HO175.out).2.1); rintro e w32 ⟨rfl, hb⟩; refine ⟨_, rfl, ?_⟩; have n0_ := Aside0.mk (Kd.R_below (by (with_reducible repeat (first | apply Kd.R_alloc | apply Kd.R_drewN | apply Kd.R_drew)); exact HO175.out) hb); have n1_ := Aside0.mk (Kd.R_below (by (with_reducible repeat (first | apply Kd.R_alloc | apply Kd.R_drewN | apply Kd.R_drew)); exact HO178.out) hb); have n2_ := Aside0.mk (below_step (by repeat (first | (with_reducible first | exact HB.out | apply below_alloc | apply pw_below_drewN | apply below_drew1) | exact HB.out)) hb); clear HO175; clear HO178; clear HB; have HO175 := n0_; have HO178 := n1_; have HB := n2_; clear n0_ n1_ n2_; (try clear hb); (try clear hb2); (try clear hk); (try clear hi)) | ((with_reducible refine gate_callee (f := 33) rfl ?_); refine goesL_ (some 50) rfl rfl Try.func33 (by kernel_rfl) rfl #[.slice (some ⟨go12, 0, none⟩) y182.length co29] rfl (by (try simp only [List.map_toArray, List.map_cons, List.map_nil]); first | done | (rw [show y182.length = t176.length from (Kd.R_reads' HO178.out).1.symm] <;> rfl) | rfl | (simp only [List.length_drop, List.length_take]; rfl)) ?_; (with_reducible refine (merkle_Root.calls k _ _ y182 t187 t188 _ ?side1 ?side2 A15.out).mono ?_); (case side1 => repeat (first | exact (Kd.R_reads' HO178.out).2.2 | (with_reducible refine Kd.C_alloc ?_ _) | (with_reducible refine Kd.C_drewN ?_ _) | (with_reducible refine Kd.C_drew ?_))); (case side2 => rw [show y182.length = t176.length from (Kd.R_reads' HO178.out).1.symm]; exact (Kd.R_reads' HO178.out).2.1); rintro e w33 ⟨rfl, hb⟩; refine ⟨_, rfl, ?_⟩; have n0_ := Aside0.mk (Kd.R_below (by (with_reducible repeat (first | apply Kd.R_alloc | apply Kd.R_drewN | apply Kd.R_drew)); exact HO175.out) hb); have n1_ := Aside0.mk (Kd.R_below (by (with_reducible repeat (first | apply Kd.R_alloc | apply Kd.R_drewN | apply Kd.R_drew)); exact HO178.out) hb); have n2_ := Aside0.mk (below_step (by repeat (first | (with_reducible first | exact HB.out | apply below_alloc | apply pw_below_drewN | apply below_drew1) | exact HB.out)) hb); clear HO175; clear HO178; clear HB; have HO175 := n0_; have HO178 := n1_; have HB := n2_; clear n0_ n1_ n2_; (try clear hb); (try clear hb2); (try clear hk); (try clear hi)) | ((with_reducible refine gate_callee (f := 32) rfl ?_); refine goesL_ (some 56) rfl rfl Try.func32 (by kernel_rfl) rfl #[.slice Ao26 t173.length co26, .slice Ao26 t173.length co26] rfl (by (try simp only [List.map_toArray, List.map_cons, List.map_nil]); first | done | rfl | (simp only [List.length_drop, List.length_take]; rfl)) ?_; (with_reducible refine (merkle_Narrow.calls k _ _ t173 _ _ t173 t189 t190 _ ?side1 ?side2 ?side3 ?side4 A16.out).mono ?_); (case side1 => repeat (first | exact (Kd.R_reads' HO175.out).2.2 | (with_reducible refine Kd.C_alloc ?_ _) | (with_reducible refine Kd.C_drewN ?_ _) | (with_reducible refine Kd.C_drew ?_))); (case side2 => exact (Kd.R_reads' HO175.out).2.1); (case side3 => repeat (first | exact (Kd.R_reads' HO175.out).2.2 | (with_reducible refine Kd.C_alloc ?_ _) | (with_reducible refine Kd.C_drewN ?_ _) | (with_reducible refine Kd.C_drew ?_))); (case side4 => exact (Kd.R_reads' HO175.out).2.1); rintro e w34 ⟨rfl, hb⟩; refine ⟨_, rfl, ?_⟩; have n0_ := Aside0.mk (Kd.R_below (by (with_reducible repeat (first | apply Kd.R_alloc | apply Kd.R_drewN | apply Kd.R_drew)); exact HO175.out) hb); have n1_ := Aside0.mk (Kd.R_below (by (with_reducible repeat (first | apply Kd.R_alloc | apply Kd.R_drewN | apply Kd.R_drew)); exact HO178.out) hb); have n2_ := Aside0.mk (below_step (by repeat (first | (with_reducible first | exact HB.out | apply below_alloc | apply pw_below_drewN | apply below_drew1) | exact HB.out)) hb); clear HO175; clear HO178; clear HB; have HO175 := n0_; have HO178 := n1_; have HB := n2_; clear n0_ n1_ n2_; (try clear hb); (try clear hb2); (try clear hk); (try clear hi)))
           go_ret
           exact ⟨by first | rfl | (simp [errW_none, errW_some] <;> rfl) | (simp [*, errW_none, errW_some] <;> rfl), by repeat (first | (with_reducible first | exact HB.out | apply below_alloc | apply pw_below_drewN | apply below_drew1) | exact HB.out)⟩
          ·
           rw [if_neg c23] at H
           exact absurd H (by simp)
        ·
         rw [if_neg c21] at H
         exact absurd H (by simp)
       ·
        rw [if_neg c20] at H
        exact absurd H (by simp)
      ·
       rw [if_neg c19] at H
       exact absurd H (by simp)
     ·
      rw [if_neg c18] at H
      exact absurd H (by simp)
    ·
     rw [if_neg c17] at H
     exact absurd H (by simp)
   ·
    rw [if_neg c10] at H
    exact absurd H (by simp)
  ·
   rw [if_neg c9] at H
   exact absurd H (by simp)
 ·
  replace c5 := Bool.eq_false_iff.mpr c5
  subst c5
  have H1 : (none) = some r := by rw [if_neg (show ¬ (false = true) by decide)] at H; exact H
  clear H
  have H := H1
  clear H1
  exact absurd H (by simp)

/-- THE ONE PURE STATEMENT of tourkeep1_MerkleFinds: yours. -/
def tourkeep1_MerkleFinds.Pure : Prop := ∀ (l0 : List Int) (a1 : Int) (a2 : Int), l0.length ≤ maxLen → l0.length * 8 ≤ 140737488351232 → (∀ x ∈ l0, (Lit.int .i64 x).wf = true) → (Lit.int .i64 a1).wf = true → (Lit.int .i64 a2).wf = true → ∃ k, tourkeep1_MerkleFinds.f k l0 a1 a2 = some true
theorem tourkeep1_MerkleFinds.walk (P : tourkeep1_MerkleFinds.Pure) (a0 : Option Addr) (len0 cap0 : Nat) (z0 : List Int) (a1 : Int) (a2 : Int) (w : World) (w0 : (a0 = none ∧ len0 = 0 ∧ cap0 = 0 ∧ z0 = []) ∨ ∃ x, a0 = some x ∧ len0 ≤ cap0 ∧ cap0 ≤ maxLen ∧ z0.length = cap0 ∧ (∀ i, i < z0.length → w.cell? (x.add i) = some (.int .i64 (z0.getD i 0))) ∧ ∀ n ∈ z0, (Lit.int .i64 n).wf = true) (y0 : len0 * 8 ≤ 140737488351232) (w1 : (Lit.int .i64 a1).wf = true) (w2 : (Lit.int .i64 a2).wf = true) :
  Calls Try.prog 6 #[.slice a0 len0 cap0, .int .i64 a1, .int .i64 a2] w fun e w' => e = .returned (.bool true) ∧ Below w.heap.size w w' := by
 obtain ⟨l0, rfl, hr0, hm0, hw0, hc0⟩ := ReadsInt.ofRowC w0
 obtain ⟨k, h⟩ := P l0 a1 a2 hm0 y0 hw0 w1 w2
 refine (tourkeep1_MerkleFinds.calls k _ _ l0 a1 a2 true w (Kd.C_of_reads (d := (0 : Int)) (h1 := fun _ => rfl) hr0) hc0 h).mono ?_
 rintro e w' ⟨rfl, hd⟩
 exact ⟨rfl, hd⟩

end Go.Proofs.Ytknmlikjmnhgkaa.P
