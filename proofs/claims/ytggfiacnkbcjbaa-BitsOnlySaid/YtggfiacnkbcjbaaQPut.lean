/- bits.Writer.Put, walked: n bits are appended. No condition. -/
import Derived.Test.YtggfiacnkbcjbaaQW
import Derived.StillTailTactics
namespace Go.Proofs.Ytggfiacnkbcjbaa.P
open Go.RowKit Go.Proofs.YtggfiacnkbcjbaaW.PrintWords Go.Proofs.YtggfiacnkbcjbaaW.PrintLast Go.Proofs.YtggfiacnkbcjbaaW.PrintMore
attribute [local go_sem] max2_int min2_int max_two min_two max_three min_three max_four min_four   -- for this text's walks alone
set_option linter.unusedVariables false
set_option linter.unusedSimpArgs false

def put_v (v i n : Int) : Int := IntKind.u8.wrap (IntKind.u8.wrap (Go.bits .and .u64 (v / 2 ^ i.toNat) 1) * 2 ^ (n % 8).toNat)
def put_l : Nat → Int → Int → List Int → Int → Option (List Int × Int)
  | 0, _, _, l, n => some (l, n)
  | d + 1, v, i, l, n =>
    if n % 8 = 0 then (if (l.length : Int) = n / 8 then put_l d v (i + 1) ((l ++ [0]).set (n / 8).toNat (Go.bits .or .u8 (rd (l ++ [0]) (n / 8)) (put_v v i n))) (n + 1) else none)
    else (if n / 8 < (l.length : Int) then put_l d v (i + 1) (l.set (n / 8).toNat (Go.bits .or .u8 (rd l (n / 8)) (put_v v i n))) (n + 1) else none)
def bits_Writer_Put.f (b : ByteArray) (n v m : Int) : Option (Int × ByteArray × Int) :=
  if 0 ≤ m ∧ m ≤ 64 ∧ (m < 64 → shr .u64 v m = 0) ∧ 0 ≤ n ∧ n + m ≤ 524288 then (put_l m.toNat v 0 (bytesOf b) n).bind fun t => some (0, strOfNums t.1, t.2) else none
set_option maxHeartbeats 8000000 in
set_option maxRecDepth 100000 in
theorem bits_Writer_Put.calls (g : Nat) (s0_0 : ByteArray) (s0_1 : Int) (a1 : Int) (a2 : Int) (r1 : Int) (r2 : ByteArray) (r3 : Int) (w0 w : World) (hI : IsS64 w0 w g s0_0 s0_1) (hB : Below w0.heap.size w0 w) (h : bits_Writer_Put.f s0_0 s0_1 a1 a2 = some (r1, r2, r3)) :
    Calls Try.prog 44 #[.pointer (some ⟨g, 0, none⟩), .int .u64 a1, .int .i64 a2] w fun e w' => e = .returned (.int .i64 r1) ∧ IsS64 w0 w' g r2 r3 ∧ Below w0.heap.size w0 w' ∧ KeepW w w' g none := by
  unfold bits_Writer_Put.f at h
  split at h
  case isFalse => cases h
  rename_i hc
  obtain ⟨h0, h1, h2, h3, h4⟩ := hc
  obtain ⟨⟨l', n'⟩, H, hr⟩ := Option.bind_eq_some_iff.1 h
  simp only [Option.some.injEq, Prod.mk.injEq] at hr
  obtain ⟨rfl, rfl, rfl⟩ := hr
  clear h
  have hI' : IsW w0 w g (bytesOf s0_0) s0_1 := hI
  have HI := Aside0.mk hI'
  clear hI hI'
  have HH := Aside0.mk H
  clear H
  have HB := Aside0.mk hB
  have HK := Aside0.mk (KeepW.refl w g none)
  clear hB
  have b1 : decide (a2 < 0) = false := decide_eq_false (by omega)
  have b2 : decide (a2 > 64) = false := decide_eq_false (by omega)
  have b2' : decide (64 < a2) = false := decide_eq_false (by omega)
  have b3 : decide (s0_1 + a2 > 524288) = false := decide_eq_false (by omega)
  have b3' : decide (524288 < s0_1 + a2) = false := decide_eq_false (by omega)
  have b4 : 0 ≤ s0_1 := h3
  have b4' : s0_1 + a2 ≤ 524288 := h4
  have b4'' : a2 ≤ 64 := h1
  have b5 : 0 ≤ a2 := h0
  have F := Aside0.mk (And.intro h1 (And.intro h3 h4))
  obtain ⟨v, HG, hge, HR, hcodes⟩ := HI.out
  have hcz_0 := cellS64_0 HG
  have hcz_1 := cellS64_1 HG
  clear HG hge HR hcodes
  have hcase : (decide (a2 < 64) = true ∧ (a1 / 2 ^ a2.toNat != 0) = false) ∨ (decide (a2 < 64) = false ∧ True) := by
    by_cases h64 : a2 < 64
    · have h5 : a1 / 2 ^ min a2.toNat 64 = 0 := h2 h64
      rw [show min a2.toNat 64 = a2.toNat from by omega] at h5
      exact .inl ⟨decide_eq_true h64, by rw [h5]; rfl⟩
    · exact .inr ⟨decide_eq_false h64, trivial⟩
  clear h0 h1 h2 h3 h4
  rcases hcase with ⟨b6, b7⟩ | ⟨b6, b7⟩
  all_goals
    go_enter Try.func44, Try.ntmps44
    go_wp2
    repeat (go_quiet (fail); try go_wp2)
    go_loopg [32] a2.toNat (fun kq v32 w' => ∃ (i : Int) (l : List Int) (n : Int), v32 = .int .i64 i ∧ Aside0 (put_l kq a1 i l n = some (l', n')) ∧ Aside0 (i + (kq : Int) = a2 ∧ 0 ≤ i ∧ 0 ≤ n ∧ n + (kq : Int) ≤ 524288 ∧ a2 ≤ 64) ∧ Aside0 (IsW w0 w' g l n) ∧ Aside0 (KeepW w w' g none) ∧ Aside0 (Below w0.heap.size w0 w'))
    case atStart => exact ⟨0, bytesOf s0_0, s0_1, (by first | rfl | (simp; done)), HH, ⟨by have := F.out; omega⟩, ⟨by repeat (first | exact HI.out | apply IsW.alloc | apply IsW.drewN | apply IsW.drew)⟩, ⟨by repeat (first | exact HK.out | apply KeepW.alloc | apply KeepW.drewN | apply KeepW.drew)⟩, ⟨by repeat (first | exact HB.out | apply below_alloc | apply pw_below_drewN | apply below_drew1)⟩⟩
    case round =>
      clear HI HK HB HH hcz_0 hcz_1
      obtain ⟨i, l, n, rfl, HA, HF, HI, HK, HB⟩ := hrel
      obtain ⟨v, HG, hge, HR, hcodes⟩ := HI.out
      have hcz_0 := cellS64_0 HG
      have hcz_1 := cellS64_1 HG
      clear HG hge HR hcodes
      cases gk with
      | zero =>
        have c1 : decide (i < a2) = false := decide_eq_false (by have := HF.out; omega)
        have H := HA.out
        simp only [put_l, Option.some.injEq, Prod.mk.injEq] at H
        obtain ⟨rfl, rfl⟩ := H
        go_wp2
        go_ret
        exact ⟨rfl, IsW.to64 HI.out, HB.out, HK.out⟩
      | succ k1 =>
        have c1 : decide (i < a2) = true := decide_eq_true (by have := HF.out; omega)
        have f1 : 0 ≤ n := HF.out.2.2.1
        have f2 : 0 ≤ i := HF.out.2.1
        have f3 : n < 524288 := by have := HF.out; omega
        have f4 : i < 64 := by have := HF.out; omega
        go_upto_if 40 with (fail)
        (try simp only [Act.put, List.setIfInBounds_toArray, List.set_cons_zero, List.set_cons_succ])
        go_cut [47] (fun v47 wc => ∃ (L : List Int), Aside0 (n / 8 < (L.length : Int) ∧ put_l k1 a1 (i + 1) (L.set (n / 8).toNat (Go.bits .or .u8 (rd L (n / 8)) (put_v a1 i n))) (n + 1) = some (l', n')) ∧ Aside0 (IsW w0 wc g L n) ∧ Aside0 (KeepW w wc g none) ∧ Aside0 (Below w0.heap.size w0 wc))
        case first =>
          have H := HA.out
          clear HA
          unfold put_l at H
          by_cases c8 : n % 8 = 0
          · rw [if_pos c8] at H
            have H2 := Aside0.mk H
            clear H
            have c8b : (n % 8 == 0) = true := by simpa using c8
            clear c8
            clear hcz_0 hcz_1
            obtain ⟨v, HG, hge, HR, hcodes⟩ := HI.out
            have hcz_0 := cellS64_0 HG
            have HGA := Aside0.mk HG
            have hcodesA := Aside0.mk hcodes
            have HRA := Aside0.mk HR
            clear HG HR hge hcodes
            rw [c8b]
            have h9 : (l.length : Int) = n / 8 := by
              by_cases h9 : (l.length : Int) = n / 8
              · exact h9
              · have := H2.out; rw [if_neg h9] at this; cases this
            have hlen : l.length < 140737488355328 := by omega
            have H3 := Aside0.mk (And.intro h9 H2.out)
            clear h9 H2
            go_wp2_with ((with_reducible refine gate_builtin (b := .append) (xs := #[.tmp 45, .tmp 46]) rfl ?_); at_builtin; refine Kd.R_append (Kd.int .u8) (w0 := w0) w0.heap.size rfl (.tmp 45) (.tmp 46) 44 5 (.int .u8 0) 1 rfl Try.underlying44 info5 rfl (by decide) (by omega) v l 0 [.int .u8 0] (fun _ => True) (fun _ => False) rfl rfl ?aP (fun _ hk => hk.elim) ?aF ?aO ?aB ?aS ?aL ?_; (case aP => exact rfl); (case aB => exact HB.out); (case aF => exact (fun _ _ => trivial)); (case aO => exact HRA.out); (case aS => exact below_size HB.out); (case aL => omega); intro v1 w1 ho hb hg hat; obtain ⟨b, cap, rfl, hbb, hbs, cells, hcells⟩ := Kd.R_form ho (by simp); clear hbb hbs hcells; have ho1 := Aside0.mk ho; have hb1 := Aside0.mk hb; have hg1 := Aside0.mk hg; have HG1 := Aside0.mk (blk_grown HGA.out hg1.out ((by obtain ⟨_, inner, hown, _⟩ := HRA.out; exact own_ne hown HGA.out (by decide)))); have hz1 := blk_frozen HG1.out 0; have hz2 := cellS64_0 HG1.out; clear ho hb hg hat)
            go_meet
            case rel =>
              refine ⟨l ++ [0], ⟨?_, ?_⟩, ⟨?_⟩, ⟨?_⟩, ⟨?_⟩⟩
              · have := H3.out.1; simp; omega
              · have := H3.out.2; rw [if_pos H3.out.1] at this; exact this
              · have := IsW.grew (v := v) HI.out ho1.out HG1.out (codes_snoc hcodesA.out); simpa using this
              · exact KeepW.set_ (KeepW.grown HK.out hg1.out (fun k hk => by obtain ⟨_, inner, hown, _⟩ := HRA.out; obtain ⟨cs, hcs⟩ := own_typed hown k hk; exact ⟨cs, _, hcs⟩)) 0 _
              · exact below_setCell_ hb1.out (IsW.ge2 HI.out) 0 _
          · rw [if_neg c8] at H
            have H2 := Aside0.mk H
            clear H
            have c8b : (n % 8 == 0) = false := by simpa using c8
            clear c8
            rw [c8b]
            go_wp2
            go_meet
            case rel =>
              have h9 : n / 8 < (l.length : Int) := by
                by_cases h9 : n / 8 < (l.length : Int)
                · exact h9
                · have := H2.out; rw [if_neg h9] at this; cases this
              exact ⟨l, ⟨h9, by have := H2.out; rw [if_pos h9] at this; exact this⟩, HI, HK, HB⟩
        case rest =>
          clear HA HI HK HB hcz_0 hcz_1
          obtain ⟨L, HA, HI, HK, HB⟩ := hcut
          obtain ⟨v, HG, hge, HR, hcodes⟩ := HI.out
          have h9 := HA.out.1
          obtain ⟨b, cap, rfl, hbb, hbs, cells, hcells⟩ := Kd.R_form HR (by omega)
          have hcz_0 := cellS64_0 HG
          have hcz_1 := cellS64_1 HG
          obtain ⟨hx0, hx1⟩ := Kd.R_celln 0 HR (n / 8) (by omega) h9
          have HGA := Aside0.mk HG
          have HRA := Aside0.mk HR
          have hcodesA := Aside0.mk hcodes
          have hneA := Aside0.mk (blk_ne HG hcells (by decide))
          have hbbA := Aside0.mk hbb
          have hcellsA := Aside0.mk hcells
          clear HG HR hcodes hcells hbs hbb hge
          have d1 : 0 ≤ n / 8 := by omega
          have hq2 : n.tmod 8 = n % 8 := Int.tmod_eq_emod_of_nonneg f1
          have d2 : 0 ≤ n % 8 := by clear hq2; omega
          have d3 : n % 8 < 8 := by clear hq2; omega
          have hq1 : IntKind.i64.wrap (n.tdiv 8) = n / 8 := by rw [Int.tdiv_eq_ediv_of_nonneg f1]; exact IntWalk.i64_in _ (by omega)
          go_upto_region 10 with (fail)
          go_still_tail 24, (by kernel_rfl)
          clear hq1 hq2
          obtain ⟨y, hy⟩ : ∃ y, Go.bits .or .u8 (rdOf 0 L (n / 8)) (IntKind.u8.wrap (IntKind.u8.wrap (Go.bits .and .u64 (a1 / 2 ^ i.toNat) 1) * 2 ^ (n % 8).toNat)) = y := ⟨_, rfl⟩
          rw [hy]
          have HY := Aside0.mk hy
          clear hy
          change wpList _ _ _ _ _ wc.drew
          have hne1 : ¬ g = b := hneA.out
          have hne2 : ¬ b = g := fun h => hneA.out h.symm
          have hfz := blk_frozen HGA.out 1
          go_wp2
          go_roundg k1
          case rel =>
            have hyr : 0 ≤ y ∧ y < 256 := by rw [← HY.out]; exact u8_or_range _ _
            refine ⟨i + 1, L.set (n / 8).toNat y, n + 1, rfl, ⟨?_⟩, ⟨?_⟩, ⟨?_⟩, ⟨?_⟩, ⟨?_⟩⟩
            · have := HA.out.2
              rw [show Go.bits .or .u8 (rd L (n / 8)) (put_v a1 i n) = y from HY.out] at this
              exact this
            · have := HF.out; omega
            · exact IsW.drew (IsW.set_1 (IsW.put HI.out HGA.out HRA.out hneA.out hcodesA.out (n / 8) y hyr) (n + 1))
            · exact KeepW.drew (KeepW.set_ (KeepW.grown HK.out (Kd.R_putg HRA.out (n / 8) y).2 (fun k hk => by cases hk; exact ⟨_, _, hcellsA.out⟩)) 1 _)
            · exact below_drew (below_setCell_ (below_setCell_ HB.out hbbA.out _ _) (IsW.ge2 HI.out) 1 _)
          case measure => exact Nat.lt_succ_self _
end Go.Proofs.Ytggfiacnkbcjbaa.P
